/- Parts of a proof: VBld, VText, VTop, VMk, VBldK. -/
import Derived.Lib.Builder
import Derived.Lib.AppendStr
import Derived.Lib.UnsafeStr
import Derived.Laws.Externs
import Derived.Laws.IdiomCopy
import Derived.Test.YtdjfpcmlffekkaaGreatDoorPackL11
set_option maxHeartbeats 8000000
set_option maxRecDepth 100000
set_option linter.unusedVariables false
set_option linter.unusedSimpArgs false
namespace Go.Proofs.YtdjfpcmlffekkaaGreatDoor
section
open Go Go.RowKit
theorem z82:(Tryz.prog.info? 226).map (·.size)= some 2:=by kernel_rfl
theorem z68:(Tryz.prog.info? 5).map (fun i=>(i.zero,i.size,i.bytes))= some (some (.int .u8 0),1,1):=by kernel_rfl
theorem zcX:liesAt Tryz.prog Tryz.prog.depth 228 (2 / Tryz.prog.cellsOf 228) 0 226 1= true:=by kernel_rfl
abbrev Bld (B b:Nat) (bs:List Value) (w:World):Prop:=Lib.BuilderAt 228 5 B b (.pointer (some ⟨b,0,none⟩)) bs w
abbrev Bld0 (B b:Nat) (bs:List Value) (w:World):Prop:=Lib.IsBuilder 228 5 B b bs w
theorem z6k (b:Nat) (w:World) (h0:w.cell? ⟨b,0,none⟩= some (.pointer (some ⟨b,0,none⟩))):
  Calls Tryz.prog 204 #[.pointer (some ⟨b,0,none⟩)] w fun e w'=>e= .returned (.tuple #[])/\w'= w:=by
 obtain⟨j,hj,_⟩:=Option.map_eq_some_iff.1 z82
 go_enter Tryz.func204,Tryz.ntmps204
 go_wp2
 rw[Lib.run_neq_ptr_same w _ Tryz.underlying224 hj]
 go_wp2
 go_end0
 exact⟨rfl,rfl⟩
theorem z5T (b:Nat) (w:World) (h0:w.cell? ⟨b,0,none⟩= some (.pointer none)) (hsh:w.shape? b= some (228,2)) (hfz:w.frozen? ⟨b,0,none⟩= false):
  Calls Tryz.prog 204 #[.pointer (some ⟨b,0,none⟩)] w fun e w'=>e= .returned (.tuple #[])/\w'= w.setCell ⟨b,0,none⟩ (.pointer (some ⟨b,0,none⟩)):=by
 obtain⟨j,hj,hjs⟩:=Option.map_eq_some_iff.1 z82
 have hne:j.size≠0:=by rw[hjs];decide
 go_enter Tryz.func204,Tryz.ntmps204
 go_wp2
 rw[Lib.run_to_unsafe w ⟨b,0,none⟩ Tryz.underlying224 Tryz.underlying259 hj hne hsh (Nat.zero_lt_succ 1)]
 simp only[Result.andThen]
 rw[Oper.upon_value]
 go_wp2
 rw[run_callFunc_extern Tryz.func212 (by kernel_rfl) (by kernel_rfl) (by kernel_rfl) (e:=Extern.AbiNoEscape.same) (by kernel_rfl)]
 rw[Lib.run_noEscape]
 simp only[Result.andThen]
 rw[Oper.upon_value]
 go_wp2
 rw[Lib.run_from_unsafe w ⟨b,0,none⟩ Tryz.underlying259 Tryz.underlying224 hj hsh zcX]
 simp only[Result.andThen]
 rw[Oper.upon_value]
 go_wp2
 go_end0
 exact⟨rfl,rfl⟩
theorem z7U (B b:Nat) (bs:List Value) (w:World) (h:Bld0 B b bs w):
  Calls Tryz.prog 204 #[.pointer (some ⟨b,0,none⟩)] w fun e w'=>e= .returned (.tuple #[])/\(Bld B b bs w'/\Below B w w'):=by
 rcases h with h|h
 ·refine(z5T b w h.cell0 h.shape h.frozen0).mono ?_
  rintro e w' ⟨rfl,rfl⟩
  exact⟨rfl,h.used _,(Below.refl B w).setCell (p:=⟨b,0,none⟩) h.1 _⟩
 ·refine(z6k b w h.cell0).mono ?_
  rintro e w' ⟨rfl,rfl⟩
  exact⟨rfl,h,Below.refl B _⟩
theorem wbyte (B b:Nat) (bs:List Value) (c:Int) (w:World) (h:Bld0 B b bs w) (hlen:bs.length+1<=140737488355328) (hBw:B<=w.heap.size):
  Calls Tryz.prog 196 #[.pointer (some ⟨b,0,none⟩),.int .u8 c] w fun e w'=>e= .returned .nilIface/\(Bld B b (bs ++ [.int .u8 c]) w'/\Below B w w'):=by
 obtain⟨i0,hi,hz0,hz1,hz2⟩:=info_parts z68
 go_enter Tryz.func196,Tryz.ntmps196
 go_wp2_with (go_at_call 204;refine(z7U B b bs _ h).mono ?_)
 rintro e w1 ⟨rfl,h1,hb1⟩
 have hlt:=h1.lt
 obtain⟨hB,v,hbk,hown,hne⟩:=h1
 have c1:w1.cell? ⟨b,1,none⟩= some v:=by rw[Lib.cell_of_heap hbk];rfl
 go_wp2_with (at_builtin;refine wpList_append_own _ rfl _ _ 131 rfl B 5 i0 (.int .u8 0) 1 1 Tryz.underlying131 hi hz0 hz1 hz2 rfl (by decide) _ _ _ rfl (hown.alloc _) ⟨w1.heap.size,0,none⟩ 1 1 [.int .u8 c] rfl rfl ?c1 ?c2 ?c3 ?c4 ?c5 ?_)
 case c1=>
  intro j u hj
  match j,hj with
  |0,hj=>simp at hj;subst hj;simp[Addr.add]
 case c2=>intro u hu;simp at hu;subst hu;rfl
 case c3=>unfold maxLen;omega
 case c4=>omega
 case c5=>have:=hb1.size;simp;omega
 intro v' w2 hown' hgrow _
 have hb2:w2.heap[b]?= some (.cells #[.pointer (some ⟨b,0,none⟩),v] 228 (0,0)):=by
  rw[hgrow.block b (by simp;omega) (fun e=>hne e.symm),Lib.alloc_old w1 _ b hlt]
  exact hbk
 have d0:w2.cell? ⟨b,0,none⟩= some (.pointer (some ⟨b,0,none⟩)):=by rw[Lib.cell_of_heap hb2];rfl
 have d1:w2.cell? ⟨b,1,none⟩= some v:=by rw[Lib.cell_of_heap hb2];rfl
 have f1:w2.frozen? ⟨b,1,none⟩= false:=Lib.frozen_of_heap hb2 1
 obtain⟨g,cap,rfl⟩:∃ g cap,v'= .slice (some ⟨g,0,none⟩) (bs.length+1) cap:=by
  rcases hown'.2 with ⟨_,h0⟩|⟨g,cap,cur,hv,_⟩
  ·omega
  ·exact⟨g,cap,hv⟩
 go_wp2
 go_ret
 refine⟨rfl,?_,?_⟩
 ·exact Lib.BuilderAt.put (T:=228) (e:=5) hB hb2 (bs':=bs ++ [.int .u8 c]) (by simpa using hown') (by decide)
 ·exact((hb1.alloc (by have:=hb1.size;omega) _).grown hgrow (by have:=hb1.size;simp;omega) (fun k hk=>(hown.lt k hk).1)).setCell (p:=⟨b,1,none⟩) hB _
theorem z12 (B b:Nat) (bs:List Value) (s:ByteArray) (w:World) (h:Bld0 B b bs w) (hlen:bs.length+s.size<=140737488355328) (hBw:B<=w.heap.size):
  Calls Tryz.prog 191 #[.pointer (some ⟨b,0,none⟩),.string s] w fun e w'=>e= .returned (.tuple #[.int .i64 s.size,.nilIface])/\(Bld B b (bs ++ Lib.strCells s) w'/\Below B w w'):=by
 obtain⟨i0,hi,hz0,hz1,hz2⟩:=info_parts z68
 go_enter Tryz.func191,Tryz.ntmps191
 go_wp2_with (go_at_call 204;refine(z7U B b bs _ h).mono ?_)
 rintro e w1 ⟨rfl,h1,hb1⟩
 have hlt:=h1.lt
 obtain⟨hB,v,hbk,hown,hne⟩:=h1
 have c1:w1.cell? ⟨b,1,none⟩= some v:=by rw[Lib.cell_of_heap hbk];rfl
 go_wp2_with (at_builtin;refine Lib.wpList_append_own_string _ rfl _ _ 131 9 rfl B 5 i0 Tryz.underlying131 Tryz.underlying9 hi hz0 hz1 hz2 _ _ _ rfl hown s rfl ?c3 ?c4 ?c5 ?_)
 case c3=>unfold maxLen;omega
 case c4=>omega
 case c5=>have:=hb1.size;omega
 intro v' w2 hown' hgrow _
 have hb2:w2.heap[b]?= some (.cells #[.pointer (some ⟨b,0,none⟩),v] 228 (0,0)):=by
  rw[hgrow.block b hlt (fun e=>hne e.symm)]
  exact hbk
 have d0:w2.cell? ⟨b,0,none⟩= some (.pointer (some ⟨b,0,none⟩)):=by rw[Lib.cell_of_heap hb2];rfl
 have d1:w2.cell? ⟨b,1,none⟩= some v:=by rw[Lib.cell_of_heap hb2];rfl
 have f1:w2.frozen? ⟨b,1,none⟩= false:=Lib.frozen_of_heap hb2 1
 obtain⟨ao,n',cap,rfl⟩:∃ ao n' cap,v'= .slice ao n' cap:=by
  rcases hown'.2 with ⟨hv,_⟩|⟨g,cap,cur,hv,_⟩
  ·exact⟨_,_,_,hv⟩
  ·exact⟨_,_,_,hv⟩
 go_wp2
 go_ret2
 refine⟨rfl,?_,?_⟩
 ·exact Lib.BuilderAt.put (T:=228) (e:=5) hB hb2 (bs':=bs ++ Lib.strCells s) (by simpa [Lib.strCells_length] using hown') (by decide)
 ·exact(hb1.grown hgrow (by have:=hb1.size;omega) (fun k hk=>(hown.lt k hk).1)).setCell (p:=⟨b,1,none⟩) hB _
theorem zcY:Tryz.prog.cellsOf 5= 1:=by kernel_rfl
theorem zeq (B b:Nat) (l:List UInt8) (w:World) (h:Bld B b (Lib.byteCells l) w) (h0:l≠[]):
  Calls Tryz.prog 175 #[.pointer (some ⟨b,0,none⟩)] w fun e w'=>e= .returned (.string ⟨l.toArray⟩)/\Below B w w':=by
 obtain⟨hB,v,hbk,hown,hne⟩:=h
 have hl0:l.length≠0:=by simpa using h0
 rw[Lib.byteCells_length] at hown
 obtain⟨g,cap,cur,rfl,hbg,hg,hnc,hcm,hcs,htake⟩:∃ g cap cur,v= .slice (some ⟨g,0,none⟩) l.length cap/\B<=g/\w.heap[g]?= some (.cells cur 5 (0,0))/\l.length<=cap/\cap<=maxLen/\cur.size= cap*1/\cur.toList.take (l.length*1)= Lib.byteCells l:=by
  rcases hown.2 with ⟨_,hz⟩|⟨g,cap,cur,hv,r⟩
  ·exact absurd hz hl0
  ·exact⟨g,cap,cur,hv,r⟩
 have c1:w.drew.cell? ⟨b,1,none⟩= some (.slice (some ⟨g,0,none⟩) l.length cap):=by
  have:w.drew.heap[b]?= some (.cells #[.pointer (some ⟨b,0,none⟩),.slice (some ⟨g,0,none⟩) l.length cap] 228 (0,0)):=hbk
  rw[Lib.cell_of_heap this];rfl
 have hSD:(Builtin.unsafeSliceData_ #[131] 248 #[.slice (some ⟨g,0,none⟩) l.length cap]).run Tryz.prog w.drew= .ok (.pointer (some ⟨g,0,none⟩)) w.drew:=
  Lib.run_unsafeSliceData_row _ _ _ _ _ _ (by omega)
 have hUS:(Builtin.unsafeString_ #[248,3] 9 #[.pointer (some ⟨g,0,none⟩),.int .i64 l.length]).run Tryz.prog w.drew= .ok (.string ⟨l.toArray⟩) (w.drew.freeze ⟨g,0,none⟩ l.length):=by
  refine Lib.run_unsafeString_row w.drew 248 3 9 5 Tryz.underlying248 zcY g cur.size (by have hg':w.drew.heap[g]?= some (.cells cur 5 (0,0)):=hg;simp[World.shape?,hg']) l h0 (by omega) (by unfold maxLen at hcm;omega) ?_
  intro j x hx
  exact hown.cells (g:=g) rfl j (.int .u8 x.toNat) (by simp[Lib.byteCells,hx])
 have mixed:Tryz.prog.follows .mixedOrders= true:=by kernel_rfl
 go_enter Tryz.func175,Tryz.ntmps175
 go_wp2
 go_region_o
 all_goals (go_wp2;go_ret;exact⟨rfl,Lib.below_freeze (Below.drew (Below.refl B w)) (p:=⟨g,0,none⟩) hbg _⟩)
end
section
open Go Go.RowKit
theorem z6L (l r:List UInt8):Lib.byteCells (l ++ r)= Lib.byteCells l ++ Lib.byteCells r:=by simp[Lib.byteCells]
theorem z6B (s:ByteArray):Lib.strCells s= Lib.byteCells s.data.toList:=rfl
theorem z3t {B b:Nat} {bs:List Value} {w:World} (h:Bld0 B b bs w):Bld0 B b bs w.drew:=h.elim (fun h=> .inl h.drew) (fun h=> .inr h.drew)
theorem z4V {T e:TypeId} {B b:Nat} {p:Value} {bs:List Value} {w w':World} (h:Lib.BuilderAt T e B b p bs w) (hb:Below w.heap.size w w'):Lib.BuilderAt T e B b p bs w':=by
 have hlt:=h.lt
 obtain⟨hB,v,hbk,hown,hne⟩:=h
 exact⟨hB,v,(hb.block b hlt).trans hbk,World.ownsRow.kept hown (row:=none) ⟨hb.os,hb.tape,hb.output,hb.size,fun i hi _=>hb.block i hi⟩ (by cases e:v.ownBlock<;>simp),hne⟩
def joinK (nm tx:Nat->List UInt8):Nat->List UInt8
 |0=>[]
 |k+1=>joinK nm tx k ++ ((if k= 0 then[] else[44]) ++ (nm k ++ tx k))
theorem zdS (nm tx:Nat->List UInt8) {k n:Nat} (h:k<=n):(joinK nm tx k).length<=(joinK nm tx n).length:=by
 induction n with
 |zero=>rw[Nat.le_zero.1 h];exact Nat.le_refl _
 |succ n ih=>
  rcases Nat.lt_or_ge k (n+1) with h1|h1
  ·have:=ih (by omega)
   rw[show joinK nm tx (n+1)= joinK nm tx n ++ ((if n= 0 then[] else[44]) ++ (nm n ++ tx n)) from rfl,List.length_append]
   omega
  ·rw[show k= n+1 by omega];exact Nat.le_refl _
theorem z5a (nm tx:Nat->List UInt8) {k n:Nat} (h:k < n):(joinK nm tx k).length+ ((if k= 0 then([]:List UInt8) else[44]).length+ ((nm k).length+ (tx k).length))<=(joinK nm tx n).length:=by
 have:=zdS nm tx (show k+1<=n from h)
 rw[show joinK nm tx (k+1)= joinK nm tx k ++ ((if k= 0 then[] else[44]) ++ (nm k ++ tx k)) from rfl,List.length_append,List.length_append,List.length_append] at this
 exact this
theorem z4i (s t:ByteArray):(s ++ t).data.toList= s.data.toList ++ t.data.toList:=by simp[ByteArray.data_append]
end
section
open Go Go.RowKit
theorem zeu (w:World):Bld0 w.heap.size w.heap.size [] (w.alloc (.cells #[.pointer none,.slice none 0 0] 228)):=
 .inl ⟨Nat.le_refl _,.slice none 0 0,heap_alloc_new w _,⟨rfl,.inl ⟨rfl,rfl⟩⟩,by simp[Value.ownBlock]⟩
theorem zeQ (t:VT) (hr:(decide (cntV t 0<=200) && zu t 1)= false) (cs:List Value) (w:World) (hv:ValAt w w.heap.size cs t):
  Calls Tryz.prog 159 #[.agg ⟨cs⟩] w fun e w'=>e= .returned (.tuple #[.string ⟨#[]⟩,.int .i64 5])/\Below w.heap.size w w':=by
 have HB1:=I (zd w (.cells ⟨cs⟩ 52))
 have HR1:=I (zD w cs 52)
 have HL:=I (zo hv)
 have HRT:=I (z1x t cs (w.alloc (.cells ⟨cs⟩ 52)) (hv.next HB1.o))
 rw[hr] at HRT
 clear hv hr
 go_enter Tryz.func159,Tryz.ntmps159
 go_upto_region 1 with (fail)
 generalize w.alloc (.cells ⟨cs⟩ 52)= W at*
 go_wp2_with (first|((with_reducible refine za 52 _ rfl ?_ w.heap.size 0 cs _ rfl HR1.o Tryz.underlying52 rfl ?_ ?_);exact wA rfl;rw[HL.o.1];kernel_rfl)|(go_at_call 61;refine HRT.o.mono ?_;rintro e w2 ⟨rfl,hb2⟩;have HB2:=I hb2;clear hb2))
 go_ret2
 exact⟨rfl,HB1.o.trans (HB2.o.mono HB1.o.size)⟩
end
section
open Go Go.RowKit
theorem zi {fn:Func} {p:Tmp} {T:TypeId} {d:TypeDesc} (h:fn.results= #[.cell p T]) (hu:Tryz.prog.underlying T= some d) (hd:d.isRow= true) (tmps:Array Value) (w:World) (g:Nat) (cs:List Value) (hi:(Tryz.prog.info? T).map (·.size)= some cs.length)
  (hp:tmps.getD p undef= .pointer (some ⟨g,0,none⟩)) (hm:w.rangeAt g 0 cs):(results fn tmps).run Tryz.prog w= .ok (.agg ⟨cs⟩) w:=by
 have hp':tmps[p]?.getD undef= .pointer (some ⟨g,0,none⟩):=by simpa using hp
 have hl:=run_loadVar_mid (P:=Tryz.prog) w g 0 T cs _ hm hu hd hi
 simp[results,h,hp',asAddr,hl]
end
section
open Go Go.RowKit
def Fz (w w':World):Prop:=∀ (k:Nat) (c:Array Value) (e:TypeId) (fz:Nat × Nat),w.heap[k]?= some (.cells c e fz)->fz≠(0,0)->w'.heap[k]?= some (.cells c e fz)
theorem Fz.refl (w:World):Fz w w:=fun _ _ _ _ h _=>h
theorem Fz.trans {a b c:World} (h:Fz a b) (k:Fz b c):Fz a c:=fun i _ _ _ x y=>k i _ _ _ (h i _ _ _ x y) y
theorem Fz.setCell {w:World} {b:Nat} {v u:Value} {T:TypeId} {cs:Array Value} (h:w.heap[b]?= some (.cells cs T (0,0))) (p:Addr) (hp:p.block= b):Fz w (w.setCell p u):=by
 intro k c e fz hk hf
 have hkb:b≠k:=by
  rintro rfl
  rw[h] at hk
  injection hk with hk
  injection hk with _ _ h3
  exact hf h3.symm
 show(w.heap.modify p.block _)[k]?= _
 rw[Array.getElem?_modify,if_neg (by rw[hp];exact hkb),hk]
theorem Fz.alloc (w:World) (o:Obj):Fz w (w.alloc o):=by
 intro k c e fz hk hf
 have hlt:k < w.heap.size:=by
  rcases Nat.lt_or_ge k w.heap.size with h|h
  ·exact h
  ·rw[Array.getElem?_eq_none h] at hk;cases hk
 rw[Lib.alloc_old w o k hlt];exact hk
theorem Fz.drew (w:World):Fz w w.drew:=fun _ _ _ _ h _=>h
theorem Fz.grown {w w':World} {B:Nat} {e:TypeId} {v:Value} {n:Nat} {xs:List Value} (h:w.grownBy w' v.ownBlock) (ho:w.ownsRow B e 1 v n xs):Fz w w':=by
 intro k c t fz hk hf
 have hlt:k < w.heap.size:=by
  rcases Nat.lt_or_ge k w.heap.size with h|h
  ·exact h
  ·rw[Array.getElem?_eq_none h] at hk;cases hk
 rw[h.block k hlt,hk]
 intro hv
 rcases ho.2 with ⟨rfl,_⟩|⟨g,cap,cur,rfl,_,hg,_⟩
 ·cases hv
 ·have:k= g:=by simpa [Value.ownBlock] using hv
  subst this
  rw[hk] at hg
  injection hg with hg
  injection hg with _ _ h3
  exact hf h3
theorem copyK (B b:Nat) (bs:List Value) (w:World) (h:Bld0 B b bs w):
  Calls Tryz.prog 204 #[.pointer (some ⟨b,0,none⟩)] w fun e w'=>e= .returned (.tuple #[])/\(Bld B b bs w'/\Below B w w'/\Fz w w'):=by
 rcases h with h|h
 ·refine(z5T b w h.cell0 h.shape h.frozen0).mono ?_
  rintro e w' ⟨rfl,rfl⟩
  obtain⟨hB,v,hbk,_⟩:=id h
  exact⟨rfl,h.used _,(Below.refl B w).setCell (p:=⟨b,0,none⟩) h.1 _,Fz.setCell (v:=v) hbk ⟨b,0,none⟩ rfl⟩
 ·refine(z6k b w h.cell0).mono ?_
  rintro e w' ⟨rfl,rfl⟩
  exact⟨rfl,h,Below.refl B _,Fz.refl _⟩
theorem z5m (B b:Nat) (bs:List Value) (c:Int) (w:World) (h:Bld0 B b bs w) (hlen:bs.length+1<=140737488355328) (hBw:B<=w.heap.size):
  Calls Tryz.prog 196 #[.pointer (some ⟨b,0,none⟩),.int .u8 c] w fun e w'=>e= .returned .nilIface/\(Bld B b (bs ++ [.int .u8 c]) w'/\Below B w w'/\Fz w w'):=by
 obtain⟨i0,hi,hz0,hz1,hz2⟩:=info_parts z68
 go_enter Tryz.func196,Tryz.ntmps196
 go_wp2_with (go_at_call 204;refine(copyK B b bs _ h).mono ?_)
 rintro e w1 ⟨rfl,h1,hb1,hz⟩
 have HZ:=I hz
 clear hz
 have hlt:=h1.lt
 obtain⟨hB,v,hbk,hown,hne⟩:=h1
 have c1:w1.cell? ⟨b,1,none⟩= some v:=by rw[Lib.cell_of_heap hbk];rfl
 go_wp2_with (at_builtin;refine wpList_append_own _ rfl _ _ 131 rfl B 5 i0 (.int .u8 0) 1 1 Tryz.underlying131 hi hz0 hz1 hz2 rfl (by decide) _ _ _ rfl (hown.alloc _) ⟨w1.heap.size,0,none⟩ 1 1 [.int .u8 c] rfl rfl ?c1 ?c2 ?c3 ?c4 ?c5 ?_)
 case c1=>
  intro j u hj
  match j,hj with
  |0,hj=>simp at hj;subst hj;simp[Addr.add]
 case c2=>intro u hu;simp at hu;subst hu;rfl
 case c3=>unfold maxLen;omega
 case c4=>omega
 case c5=>have:=hb1.size;simp;omega
 intro v' w2 hown' hgrow _
 have hb2:w2.heap[b]?= some (.cells #[.pointer (some ⟨b,0,none⟩),v] 228 (0,0)):=by
  rw[hgrow.block b (by simp;omega) (fun e=>hne e.symm),Lib.alloc_old w1 _ b hlt]
  exact hbk
 have d0:w2.cell? ⟨b,0,none⟩= some (.pointer (some ⟨b,0,none⟩)):=by rw[Lib.cell_of_heap hb2];rfl
 have d1:w2.cell? ⟨b,1,none⟩= some v:=by rw[Lib.cell_of_heap hb2];rfl
 have f1:w2.frozen? ⟨b,1,none⟩= false:=Lib.frozen_of_heap hb2 1
 obtain⟨g,cap,rfl⟩:∃ g cap,v'= .slice (some ⟨g,0,none⟩) (bs.length+1) cap:=by
  rcases hown'.2 with ⟨_,h0⟩|⟨g,cap,cur,hv,_⟩
  ·omega
  ·exact⟨g,cap,hv⟩
 go_wp2
 go_ret
 refine⟨rfl,?_,?_,?_⟩
 ·exact Lib.BuilderAt.put (T:=228) (e:=5) hB hb2 (bs':=bs ++ [.int .u8 c]) (by simpa using hown') (by decide)
 ·exact((hb1.alloc (by have:=hb1.size;omega) _).grown hgrow (by have:=hb1.size;simp;omega) (fun k hk=>(hown.lt k hk).1)).setCell (p:=⟨b,1,none⟩) hB _
 ·exact(HZ.o.trans (Fz.alloc _ _)).trans ((Fz.grown hgrow (hown.alloc _)).trans (Fz.setCell (v:=v) hb2 ⟨b,1,none⟩ rfl))
end
end Go.Proofs.YtdjfpcmlffekkaaGreatDoor
