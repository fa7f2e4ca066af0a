/- Parts of a proof: TMust. -/
import Derived.Test.YtpmjcbjdcjjplaaGreatDoorPackS31
import Derived.Test.YtpmjcbjdcjjplaaGreatDoorPackS38
set_option maxHeartbeats 8000000
set_option maxRecDepth 100000
set_option linter.unusedVariables false
set_option linter.unusedSimpArgs false
namespace Go.Proofs.YtpmjcbjdcjjplaaGreatDoor
open Go Go.RowKit
theorem z0u (n:Int) (w:World):Calls Tryz.prog 176 #[.bool true,.int .i64 n] w fun e w'=>e= .returned (.tuple #[])/\w'= w:=by
 go_enter Tryz.func176,Tryz.ntmps176;go_wp2;refine bodyPost_end (results_none rfl _ _ _) rfl ?_;exact⟨rfl,rfl⟩
theorem z08 (n:Int) (w:World):Calls Tryz.prog 176 #[.bool false,.int .i64 n] w fun e w'=>e= panE n/\w'= w:=by
 go_enter Tryz.func176,Tryz.ntmps176;go_wp2;exact⟨rfl,rfl,rfl⟩
theorem z1t (k:Int) (hk:wfI k) (w:World):Calls Tryz.prog 222 #[.int .i64 k] w fun e w'=>e= .returned (.agg ⟨tyC k (.slice none 0 0) (.slice none 0 0)⟩)/\Below w.heap.size w w':=by
 go_enter Tryz.func222,Tryz.ntmps222;go_upto_region 1 with (fail);have K:=I (Whole.new w zT3 36);have g:=I (zc w (.cells zT3.toArray 36));have A:(#[Value.int IntKind.i64 0,Value.slice none 0 0,Value.slice none 0 0]:Array Value)= zT3.toArray:=rfl;rw[A];clear A;generalize w.alloc (.cells zT3.toArray 36)= W at*;go_wp2_with (first|((with_reducible refine zi 36 _ _ rfl rfl ?_ K.o (tyC k (.slice none 0 0) (.slice none 0 0)) ?_ ?_ ?_ ?_ ?_ ?_);exact wA rfl;rfl;rfl;rfl;kernel_rfl;exact(zM _ _ _ _ _ _ _);intro Z G C))
 (try simp only[Exit.inBlock,Exit.then])
 refine bodyPost_ret (zO rfl _ _ w.heap.size (tyC k (.slice none 0 0) (.slice none 0 0)) rfl rfl G.o) rfl ?_;exact⟨rfl,g.o.trans (C.o.below g.o.size (Nat.le_refl _) (Nat.le_refl _))⟩
theorem zdo (w:World) (v:Value) (l:List Int) (hv:IntsAt w w.heap.size v l) (hl:l.length<=10000) (x:Int):
  Calls Tryz.prog 240 #[v,.int .i64 x] w fun e w'=>e= .returned (.bool (l.contains x))/\w'= w:=by
 obtain⟨_,A,c,rfl,h⟩:=hv;rcases Nat.eq_zero_or_pos l.length with h0|h0
 ·obtain rfl:l=[]:=List.eq_nil_of_length_eq_zero h0
  exact Tryz.slices_Contains_int_empty A c x w
 ·obtain⟨b,o,rfl,_,g⟩:=h h0
  refine(Tryz.slices_Contains_int b o l.length c l x w (Nat.le_refl _) (by omega) fun j hj=> ?_).mono ?_
  ·rw[g j _ (List.getElem?_eq_getElem hj),List.getD_eq_getElem?_getD,List.getElem?_eq_getElem hj];rfl
  ·rintro e w' ⟨rfl,rfl⟩
   rw[List.take_length];exact⟨rfl,rfl⟩
theorem z42 (k:Int) (x y v:Value) (l:List Int) (w:World) (hx:x.oneCell'= true) (hy:y.oneCell'= true) (hv:IntsAt w w.heap.size v l) (hl:l.length<=10000):
  Calls Tryz.prog 224 #[.agg ⟨tyC k x y⟩,v] w fun e w'=>e= .returned (.bool (l.contains k))/\Below w.heap.size w w':=by
 have N:=I hv;have G:=I hl;clear hv hl hx hy;go_enter Tryz.func224,Tryz.ntmps224;go_upto_region 1 with (fail);have O:=I (Whole.new w (tyC k x y) 36);have g:=I (zc w (.cells ⟨tyC k x y⟩ 36));generalize w.alloc (.cells ⟨tyC k x y⟩ 36)= W at*;have C:=I (zdo W v l ((N.o.below g.o).more g.o.size) G.o k);obtain⟨r,A⟩:∃ r,l.contains k= r:=⟨_,rfl⟩;rw[A] at C;have K:=I A;clear A;have d0:W.cell? ⟨w.heap.size,0,none⟩= some (.int .i64 k):=O.o.range 0 _ rfl;go_wp2_with (go_at_call 240;refine ze C.o ?_);go_ret;exact⟨z8 K.o.symm,g.o⟩
end Go.Proofs.YtpmjcbjdcjjplaaGreatDoor
