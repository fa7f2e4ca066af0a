/- Parts of a proof: Walk, SmallV, ECnt, IndexV, Build1, Order5, Par2, Par3, Prim, ParL, Tree10, OrdP, Edges, Edges3, Exprs. -/
import Derived.Deep.DeepCutAuto
import Derived.StillTailTactics
import Derived.Test.YtpmjcbjdcjjplaaGreatDoorPackS4
import Derived.Test.YtpmjcbjdcjjplaaGreatDoorPackS7
set_option maxHeartbeats 8000000
set_option maxRecDepth 100000
set_option linter.unusedVariables false
set_option linter.unusedSimpArgs false
namespace Go.Proofs.YtpmjcbjdcjjplaaGreatDoor
section
open Go.RowKit
def z6D (w:World) (e:Ending) (w':World):Prop:=∃ n:Int,e= .returned (.int .i64 n)/\Below w.heap.size w w'
def z5n (w:World) (e:Ending) (w':World):Prop:=∃ b:Bool,e= .returned (.bool b)/\Below w.heap.size w w'
theorem zI (w:World) (cs:Array Value) (T:TypeId) (i:Nat):(w.alloc (.cells cs T)).cell? ⟨w.heap.size,i,none⟩= cs[i]?:=
 cell_of_row _ w.heap.size i cs T (0,0) (heap_alloc_new w _)
theorem zv (w:World) (cs:List Value) (T:TypeId):(w.alloc (.cells ⟨cs⟩ T)).rangeAt w.heap.size 0 cs:=fun j v hv=>by
 rw[Nat.zero_add,zI];simpa using hv
theorem z0r (w:World) (cs:List Value) (T:TypeId):∀ j v,cs[j]?= some v->(w.alloc (.cells ⟨cs⟩ T)).cell? ⟨w.heap.size,j,none⟩= some v:=fun j v hv=>by
 rw[zI];simpa using hv
theorem zc (w:World) (o:Obj):Below w.heap.size w (w.alloc o):=(Below.refl w.heap.size w).alloc (Nat.le_refl _) o
theorem zy (w:World) (o:Obj):w.heap.size <(w.alloc o).heap.size:=by simp
theorem z3A {B:Nat} {u w:World} (h:Below B u w) {b:Nat} (hb:B<=b) (vs:List Value):∀ o,Below B u (w.setCells b o vs):=by
 induction vs generalizing w with
 |nil=>intro o;exact h
 |cons v vs ih=>intro o;exact ih (w:=w.setCell ⟨b,o,none⟩ v) (h.setCell hb v) (o+1)
theorem z7J (b:Nat) (vs:List Value):∀ (o:Nat) (w:World),(w.setCells b o vs).heap.size= w.heap.size:=by
 induction vs with
 |nil=>intro o w;rfl
 |cons v vs ih=>intro o w;exact(ih (o+1) (w.setCell ⟨b,o,none⟩ v)).trans (by simp[World.setCell])
theorem z3I (w:World) (cs:Array Value) (T:TypeId) (i:Nat):(w.alloc (.cells cs T)).frozen? ⟨w.heap.size,i,none⟩= false:=by
 have h:=heap_alloc_new w (.cells cs T);unfold World.frozen?;rw[h];simp
theorem z7Q (w:World) (z:Array Value) (T:TypeId):(w.alloc (.cells z T)).there w.heap.size 0 z.size:=fun j hj=>by
 rw[Nat.zero_add,zI,z3I]
 exact⟨by rw[Array.getElem?_eq_getElem hj];rfl,rfl⟩
def Tag (w:World) (b:Nat) (T:TypeId):Prop:=∃ c,w.heap[b]?= some (.cells c T (0,0))
theorem Tag.set {w:World} {b:Nat} {T:TypeId} (h:Tag w b T) (p:Addr) (v:Value):Tag (w.setCell p v) b T:=by
 obtain⟨c,hc⟩:=h;unfold World.setCell Tag;simp only[Array.getElem?_modify,hc];split
 ·exact⟨_,rfl⟩
 ·exact⟨_,rfl⟩
theorem Tag.sets {b:Nat} {T:TypeId} (q:Nat) (vs:List Value):∀ (o:Nat) {w:World},Tag w b T->Tag (w.setCells q o vs) b T:=by
 induction vs with
 |nil=>intro o w h;exact h
 |cons v vs ih=>intro o w h;exact ih (o+1) (h.set ⟨q,o,none⟩ v)
theorem OwnSl.apart {α:Type} {T T':TypeId} {k nb base:Nat} {enc:α->List Value} {w:World} {v:Value} {l:List α} (h:OwnSl T k enc w base v l) (ht:Tag w nb T') (hne:T≠T'):some nb≠v.ownBlock:=by
 intro C;obtain⟨c,N⟩:=ht;rcases h.2 with ⟨rfl,_⟩|⟨g,G,K,rfl,_,A,_⟩
 ·cases C
 ·have:nb= g:=by simpa [Value.ownBlock] using C
  subst this;rw[N] at A;injection A with A;injection A with _ A _;exact hne A.symm
structure Boxed (T:TypeId) (w W:World) (cs:List Value):Prop where
 tag:Tag W w.heap.size T
 below:Below w.heap.size w W
 range:W.rangeAt w.heap.size 0 cs
 size:w.heap.size < W.heap.size
theorem z9q (w:World) (z:Array Value) (T:TypeId) (cs:List Value) (h:cs.length= z.size):Boxed T w ((w.alloc (.cells z T)).setCells w.heap.size 0 cs) cs:=
 ⟨Tag.sets _ _ _ ⟨z,heap_alloc_new w _⟩,z3A (zc w _) (Nat.le_refl _) cs 0,World.rangeAt_setCells_same _ _ _ _ (by rw[h];exact z7Q w z T),by rw[z7J];simp⟩
section
variable {P:Program} {ops:Array Oper} {rest:List Oper} {o:Oper} {a:Act} {w:World} {Q:Exit->Act->World->Prop}
theorem z1f (T:TypeId) (x y:Operand) (ho:o.op= .store T x y) (hw:Region.wanted o (yielded ops a.tmps)= true) (w0:World) (z:Array Value) (cs:List Value) (hwld:w= w0.alloc (.cells z T)) (hz:cs.length= z.size)
  (hx:a.eval x= .pointer (some ⟨w0.heap.size,0,none⟩)) (hy:a.eval y= .agg cs.toArray) (hi:(P.info? T).map (·.size)= some cs.length) (h1:∀ v∈cs,v.oneCell'= true)
  (h:∀ Z,Boxed T w0 Z cs->wpList P ops Q rest (a.put o.dst undef) Z):wpList P ops Q (o::rest) a w:=by
 subst hwld;exact z4M T x y ho hw w0.heap.size 0 cs hx hy (by rw[hz];exact z7Q w0 z T) hi h1 (h _ (z9q w0 z T cs hz))
theorem zN {P:Program} {ops:Array Oper} {rest:List Oper} {o:Oper} {a:Act} {w:World} {Q:Exit->Act->World->Prop} {T:TypeId} {n:Nat} (k:TypK0 P T n) (x y:Operand) (ho:o.op= .store T x y) (hw:Region.wanted o (yielded ops a.tmps)= true) (w0:World) {z:Array Value} {cs:List Value} (hl:cs.length= n) (h1:∀ v∈cs,v.oneCell'= true) (hwld:w= w0.alloc (.cells z T)) (hz:z.size= n) (hx:a.eval x= .pointer (some ⟨w0.heap.size,0,none⟩)) (hy:a.eval y= .agg cs.toArray) (h:∀ Z,Go.RowKit.Hid (Boxed T w0 Z cs)->wpList P ops Q rest (a.put o.dst undef) Z):wpList P ops Q (o::rest) a w:=z1f T x y ho hw w0 z cs hwld (hl.trans hz.symm) hx hy (by rw[hl];exact k.i) h1 fun Z p=>h Z (I p)
end
theorem Boxed.cell {T:TypeId} {w W:World} {cs:List Value} (h:Boxed T w W cs) (j:Nat) {v:Value} (hv:cs[j]?= some v):W.cell? ⟨w.heap.size,j,none⟩= some v:=by
 have:=h.range j v hv;rwa [Nat.zero_add] at this
theorem Boxed.cell' {T:TypeId} {w W Z:World} {cs:List Value} (h:Boxed T w W cs) (hb:Below W.heap.size W Z) (j:Nat) {v:Value} (hv:cs[j]?= some v):Z.cell? ⟨w.heap.size,j,none⟩= some v:=
 (hb.cell (p:=⟨w.heap.size,j,none⟩) h.size).trans (h.cell j hv)
theorem Boxed.sub {T:TypeId} {w W Z:World} {cs:List Value} (h:Boxed T w W cs) (hb:Below W.heap.size W Z) (p q r:List Value) (hc:cs= p ++ q ++ r) (k:Nat) (hk:k= p.length):Z.rangeAt w.heap.size k q:=fun j v hv=>by
 subst hk
 have:=h.cell' hb (p.length+j) (v:=v) (by rw[hc,List.append_assoc,List.getElem?_append_right (by omega),show p.length+j - p.length= j by omega,List.getElem?_append_left (List.getElem?_eq_some_iff.1 hv).1];exact hv)
 exact this
theorem z4E {w:World} {b o:Nat} {p cs q:List Value} (h:w.rangeAt b o (p ++ cs ++ q)) (k:Nat) (hk:k= o+p.length):w.rangeAt b k cs:=fun j v hv=>by
 subst hk
 have:=h (p.length+j) v (by rw[List.append_assoc,List.getElem?_append_right (by omega),show p.length+j - p.length= j by omega,List.getElem?_append_left (List.getElem?_eq_some_iff.1 hv).1];exact hv)
 rw[Nat.add_assoc];exact this
theorem z1r {w:World} {b o:Nat} {cs:List Value} (h:w.rangeAt b o cs) (j:Nat) {v:Value} (hv:cs[j]?= some v):w.cell? ⟨b,o+j,none⟩= some v:=h j v hv
end
section
open Go.RowKit
def z5o (w:World) (e:Ending) (w':World):Prop:=∃ n:Int,0<=n/\n<=500/\e= .returned (.int .i64 n)/\Below w.heap.size w w'
theorem zhg:∀ (x:VT) (far:Nat) (cs:List Value) (w:World),far<=40->ValAt w w.heap.size cs x->Calls Tryz.prog 28 #[.agg ⟨cs⟩,.int .i64 far] w (z6D w):=by
 intro x
 induction x using VT.ind with
 |h k n f s ns its ih=>
  intro far cs w b2 hv;obtain⟨vn,vi,rfl,_,_,_,_,_,a6,hi⟩:=hv.inv;obtain⟨_,A,c,rfl,hA⟩:=hi;have HA:=I hA;have IH:=I ih;unfold maxLen at a6;clear hA hv ih;go_enter Tryz.func28,Tryz.ntmps28;go_upto_region 1 with (fail);have N:=zc w (.cells ⟨[.int .i64 k,.int .i64 n,.float .f64 f,.string s,vn,.slice A its.length c]⟩ 39);have Y:=zy w (.cells ⟨[.int .i64 k,.int .i64 n,.float .f64 f,.string s,vn,.slice A its.length c]⟩ 39);have c5:=zI w ⟨[.int .i64 k,.int .i64 n,.float .f64 f,.string s,vn,.slice A its.length c]⟩ 39 5;generalize w.alloc (.cells ⟨[.int .i64 k,.int .i64 n,.float .f64 f,.string s,vn,.slice A its.length c]⟩ 39)= W at*;have HB:=I N;have C5:=I c5;have a4:=I Y;clear N c5 Y;go_wp2;go_loopg [5,6] its.length (fun g m i wr=>∃ (j:Nat) (x:Int),j+g= its.length/\i= .int .i64 j/\m= .int .i64 x/\Below W.heap.size W wr);case atStart=>exact⟨0,0,by omega,rfl,rfl,Below.refl _ _⟩
  case round=>
   obtain⟨j,x,hj,rfl,rfl,K⟩:=hrel;have C:=I K;have d5:=(K.cell (p:=⟨w.heap.size,5,none⟩) a4.o).trans C5.o;clear K;simp only[List.getElem?_toArray,List.getElem?_cons_succ,List.getElem?_cons_zero] at d5;cases gk with
   |zero=>
    have c4: ¬ ((j:Int) <(its.length:Int)):=by omega
    go_wp2;go_ret;exact⟨_,rfl,(beT HB.o C.o)⟩
   |succ g=>
    have c6:(j:Int) <(its.length:Int):=by omega
    by_cases h0:far= 0
    ·subst h0
     go_wp2;go_ret;exact⟨_,rfl,(beT HB.o C.o)⟩
    ·have b3:(0:Int) <(far:Int):=by omega
     have c7:w.heap.size<=wr.heap.size:=Nat.le_trans HB.o.size C.o.size;obtain⟨y,hy⟩:∃ y,its[j]?= some y:=⟨_,List.getElem?_eq_getElem (by omega)⟩;obtain⟨b,o,rfl,a5,hc⟩:=HA.o (by omega);obtain⟨cs,O,hr,hR⟩:=hc j y hy;have G:=(beT HB.o C.o);have HR:=I (zb hr G a5);have HC:=I (IH.o y (List.mem_of_getElem? hy) (far - 1) cs wr (by omega) ((hR.under G).more G.size));have a3:=I O;have X:((far - 1:Nat):Int)=(far:Int) - 1:=by omega
     clear hc hr hR G hy O h0;rw[X] at HC;clear X;go_wp2_with (first|(with_reducible refine z0N 39 _ rfl ?hw b (o+j*6) cs _ rfl HR.o Tryz.underlying39 rfl ?hi ?_;(case hw=>exact wA rfl);(case hi=>rw[a3.o];kernel_rfl))|(go_at_call 28;refine HC.o.mono ?_;rintro e w' ⟨z,rfl,K⟩;have a2:=I K;clear K));all_goals
      go_roundg g;case measure=>omega
      case rel=>exact⟨j+1,_,by omega,by go_num,rfl,(beT C.o a2.o)⟩
theorem zhf:∀ (x:VT) (m:Int) (cs:List Value) (w:World),0<=m->m < 500->ValAt w w.heap.size cs x->Calls Tryz.prog 63 #[.agg ⟨cs⟩,.int .i64 m] w (z5o w):=by
 intro x
 induction x using VT.ind with
 |h k n f s ns its ih=>
  intro m cs w c6 c7 hv;obtain⟨vn,vi,rfl,_,_,_,_,_,a5,hi⟩:=hv.inv;obtain⟨_,A,c,rfl,hA⟩:=hi;have HA:=I hA;have IH:=I ih;unfold maxLen at a5;clear hA hv ih;go_enter Tryz.func63,Tryz.ntmps63;go_upto_region 1 with (fail);have O:=zc w (.cells ⟨[.int .i64 k,.int .i64 n,.float .f64 f,.string s,vn,.slice A its.length c]⟩ 39);have K:=zy w (.cells ⟨[.int .i64 k,.int .i64 n,.float .f64 f,.string s,vn,.slice A its.length c]⟩ 39);have c5:=zI w ⟨[.int .i64 k,.int .i64 n,.float .f64 f,.string s,vn,.slice A its.length c]⟩ 39 5;generalize w.alloc (.cells ⟨[.int .i64 k,.int .i64 n,.float .f64 f,.string s,vn,.slice A its.length c]⟩ 39)= W at*;have Y:=I O;have C5:=I c5;have a3:=I K;clear O c5 K;go_wp2;go_loopg [1,5] its.length (fun g u i wr=>∃ (j:Nat) (x:Int),j+g= its.length/\i= .int .i64 j/\u= .int .i64 x/\0<=x/\x<=500/\Below W.heap.size W wr);case atStart=>exact⟨0,m+1,by omega,rfl,rfl,by omega,by omega,Below.refl _ _⟩
  case round=>
   obtain⟨j,x,hj,rfl,rfl,a6,c8,N⟩:=hrel;have C:=I N;have d5:=(N.cell (p:=⟨w.heap.size,5,none⟩) a3.o).trans C5.o;clear N;simp only[List.getElem?_toArray,List.getElem?_cons_succ,List.getElem?_cons_zero] at d5;cases gk with
   |zero=>
    have b9: ¬ ((j:Int) <(its.length:Int)):=by omega
    go_wp2;all_goals
     go_ret;exact⟨_,by omega,by omega,rfl,(beT Y.o C.o)⟩
   |succ g=>
    have c4:(j:Int) <(its.length:Int):=by omega
    by_cases h0:x < 500
    ·have c9:w.heap.size<=wr.heap.size:=Nat.le_trans Y.o.size C.o.size
     obtain⟨y,hy⟩:∃ y,its[j]?= some y:=⟨_,List.getElem?_eq_getElem (by omega)⟩;obtain⟨b,o,rfl,a4,hc⟩:=HA.o (by omega);obtain⟨cs,X,hr,hR⟩:=hc j y hy;have G:=(beT Y.o C.o);have HR:=I (zb hr G a4);have HC:=I (IH.o y (List.mem_of_getElem? hy) x cs wr a6 h0 ((hR.under G).more G.size));have a2:=I X;clear hc hr hR G hy X;go_wp2_with (first|(with_reducible refine z0N 39 _ rfl ?hw b (o+j*6) cs _ rfl HR.o Tryz.underlying39 rfl ?hi ?_;(case hw=>exact wA rfl);(case hi=>rw[a2.o];kernel_rfl))|(go_at_call 63;refine HC.o.mono ?_;rintro e w' ⟨z,K,a8,rfl,N⟩;have a1:=I N;clear N));go_roundg g;case measure=>omega
     case rel=>exact⟨j+1,_,by omega,by go_num,rfl,K,a8,(beT C.o a1.o)⟩
    ·go_wp2
     all_goals
      go_ret;exact⟨_,by omega,by omega,rfl,(beT Y.o C.o)⟩
theorem vlen {w:World} {B:Nat} {cs:List Value} {x:VT} (h:ValAt w B cs x):cs.length= 6:=by
 cases h;rfl
theorem zhi (x:VT) (cs:List Value) (w:World) (hv:ValAt w w.heap.size cs x):Calls Tryz.prog 29 #[.agg ⟨cs⟩] w (z5o w):=by
 have C:=I (vlen hv);have Y:=I hv;clear hv;go_enter Tryz.func29,Tryz.ntmps29;go_upto_region 1 with (fail);have g:=I (zc w (.cells ⟨cs⟩ 39));have X:=I (zv w cs 39);generalize w.alloc (.cells ⟨cs⟩ 39)= W at*;have O:=I (zhf x 0 cs W (by omega) (by omega) ((Y.o.under g.o).more g.o.size));go_wp2_with (first|(with_reducible refine z0N 39 _ rfl ?hw w.heap.size 0 cs _ rfl X.o Tryz.underlying39 rfl ?hi ?_;(case hw=>exact wA rfl);(case hi=>rw[C.o];kernel_rfl))|(go_at_call 63;refine O.o.mono ?_;rintro e w' ⟨z,G,K,rfl,N⟩;have A:=I N;clear N));go_ret;exact⟨z,G,K,rfl,(beT g.o A.o)⟩
theorem z9j (x:VT) (cs:List Value) (w:World) (hv:ValAt w w.heap.size cs x):Calls Tryz.prog 9 #[.agg ⟨cs⟩] w (z5n w):=by
 have C:=I (vlen hv);have HV:=I hv;clear hv;go_enter Tryz.func9,Tryz.ntmps9;go_upto_region 1 with (fail);have G:=I (zc w (.cells ⟨cs⟩ 39));have HR:=I (zv w cs 39);have X:=I (zy w (.cells ⟨cs⟩ 39));generalize w.alloc (.cells ⟨cs⟩ 39)= W at*;have Y:=I (zhg x 40 cs W (by omega) ((HV.o.under G.o).more G.o.size));go_wp2_with (first|(with_reducible refine z0N 39 _ rfl ?hw w.heap.size 0 cs _ rfl HR.o Tryz.underlying39 rfl ?hi ?_;(case hw=>exact wA rfl);(case hi=>rw[C.o];kernel_rfl))|(go_at_call 28;fail));refine Y.o.mono ?_;rintro e w2 ⟨z,rfl,A⟩;have g:=I (beT G.o A);have O:=I (zb HR.o A X.o);have N:=I (zhi x cs w2 ((HV.o.under g.o).more g.o.size));clear A Y;by_cases hz:z<=30
 ·go_wp2_with (first|(with_reducible refine z0N 39 _ rfl ?hw w.heap.size 0 cs _ rfl O.o Tryz.underlying39 rfl ?hi ?_;(case hw=>exact wA rfl);(case hi=>rw[C.o];kernel_rfl))|(go_at_call 29;refine N.o.mono ?_;rintro e w' ⟨y,a2,a3,rfl,A⟩;have K:=I A;clear A))
  all_goals
   go_ret;exact⟨_,rfl,(beT g.o K.o)⟩
 ·go_wp2
  all_goals
   go_ret;exact⟨_,rfl,g.o⟩
end
section
open Go Go.RowKit
mutual
def cntE:ET->Nat->Nat
 | .mk _ _ _ _ its,n=>cntEL its (n+1)
def cntEL:List ET->Nat->Nat
 |[],n=>n
 |a::l,n=>if 500<=n then n else cntEL l (cntE a n)
end
theorem z8c:∀ (l:List ET) (n:Nat),(∀ x∈l,∀ m,m < 500->cntE x m<=500)->n<=500->cntEL l n<=500
 |[],n,_,h=>by rw[cntEL];exact h
 |a::l,n,h,hn=>by
  rw[cntEL]
  by_cases h5:500<=n
  ·rw[if_pos h5];exact hn
  ·rw[if_neg h5];exact z8c l _ (fun x hx=>h x (List.mem_cons_of_mem _ hx)) (h a (List.mem_cons_self ..) n (by omega))
theorem z6F (t:ET):∀ m,m < 500->cntE t m<=500:=by
 induction t using ET.ind with
 |h k s v ns its ih=>exact fun m hm=>by rw[cntE];exact z8c its _ ih (by omega)
theorem z5r {l:List ET} {k:Nat} {x:ET} (h:l[k]?= some x):l.drop k= x::l.drop (k+1):=by
 obtain⟨h1,h2⟩:=List.getElem?_eq_some_iff.1 h;rw[List.drop_eq_getElem_cons h1,h2]
theorem z5L {l:List ET} {k m:Nat} {x:ET} (h:l[k]?= some x):cntEL (l.drop k) m= if 500<=m then m else cntEL (l.drop (k+1)) (cntE x m):=by
 rw[z5r h,cntEL]
theorem z79 {l:List ET} {m:Nat}:cntEL (l.drop l.length) m= m:=by
 rw[List.drop_eq_nil_of_le (Nat.le_refl _),cntEL]
theorem eslen {w:World} {B:Nat} {cs:List Value} {x:ET} (h:ExpAt w B cs x):cs.length= 10:=by
 cases h;rfl
theorem z8m:∀ (t:ET) (m:Nat) (cs:List Value) (p o:Nat) (w:World),m < 500->w.rangeAt p o cs->ExpAt w w.heap.size cs t->
  Calls Tryz.prog 109 #[.pointer (some ⟨p,o,none⟩),.int .i64 m] w fun e w'=>e= .returned (.int .i64 (cntE t m:Nat))/\w'= w:=by
 intro t
 induction t using ET.ind with
 |h k s t ns its ih=>
  intro m cs p o w hm hr hv;have IH:=I ih;obtain⟨v0,v1,v2,v3,v4,v5,vn,vi,rfl,_,_,_,_,a0,hi⟩:=hv.inv;obtain⟨_,A,c,rfl,hA⟩:=hi;unfold maxLen at a0;have HA:=I hA;have d5:=hr 9 _ rfl;have HS:=I (fun k m x=>z5L (l:=its) (k:=k) (m:=m) (x:=x));have HE:=I (fun m=>z79 (l:=its) (m:=m));have X:=I (fun x m hm=>z6F x m hm);have H0:Hid (cntEL (its.drop 0) (m+1)= cntE (.mk k s t ns its) m):=I (by rw[cntE];rfl);have b8:(m:Int) < 500:=by omega
  clear ih hA hr hv;generalize cntE (.mk k s t ns its) m= res at*;go_enter Tryz.func109,Tryz.ntmps109;go_wp2;go_loopg [1,13] its.length (fun q n x u=>∃ (j m:Nat),j+q= its.length/\x= .int .i64 j/\n= .int .i64 m/\m<=500/\u= w/\cntEL (its.drop j) m= res);case atStart=>exact⟨0,m+1,by omega,rfl,by go_num,by omega,rfl,H0.o⟩
  case round=>
   obtain⟨j,m,hj,rfl,rfl,b9,rfl,g⟩:=hrel;have HR:=I g;clear g;cases gk with
   |zero=>
    obtain rfl:j= its.length:=by omega
    have b4: ¬ ((its.length:Int) <(its.length:Int)):=by omega
    have N:=I (HR.o.symm.trans (HE.o m));go_wp2;go_ret;exact⟨by rw[N.o];rfl,rfl⟩
   |succ q=>
    have b7:(j:Int) <(its.length:Int):=by omega
    obtain⟨x,O⟩:∃ x,its[j]?= some x:=⟨_,List.getElem?_eq_getElem (by omega)⟩;obtain⟨b,o',rfl,b3,Y⟩:=HA.o (by omega);obtain⟨ks,b6,G,K⟩:=Y j x O;have N:=I (HR.o.symm.trans (HS.o j m x O));by_cases h5:500<=m
    ·have C:=I (N.o.trans (if_pos h5))
     have t1:(500:Int)<=(m:Int):=by omega
     clear Y G K O N;go_wp2;go_ret;exact⟨by rw[C.o];rfl,rfl⟩
    ·have C:=I (N.o.trans (if_neg h5))
     have t1: ¬ ((500:Int)<=(m:Int)):=by omega
     have HC:=I (IH.o x (List.mem_of_getElem? O) m ks b (o'+j*10) wr (by omega) G K);have a1:=X.o x m (by omega);clear Y G K O N h5;go_wp2_with (go_at_call 109;refine HC.o.mono ?_;rintro e z ⟨rfl,rfl⟩);go_roundg q;case measure=>omega
     case rel=>exact⟨j+1,_,by omega,by go_num,rfl,a1,rfl,C.o.symm⟩
theorem zaL (t:ET) (cs:List Value) (w:World) (hv:ExpAt w w.heap.size cs t):Calls Tryz.prog 69 #[.agg ⟨cs⟩] w fun e w'=>e= .returned (.int .i64 (cntE t 0:Nat))/\Below w.heap.size w w':=by
 have g:=I (zc w (.cells ⟨cs⟩ 47));have A:=I (z8m t 0 cs w.heap.size 0 (w.alloc (.cells ⟨cs⟩ 47)) (by decide) (zv w cs 47) ((hv.under g.o).more g.o.size));go_enter Tryz.func69,Tryz.ntmps69;go_wp2_with (go_at_call 109;refine A.o.mono ?_;rintro e z ⟨rfl,rfl⟩);go_ret;exact⟨rfl,g.o⟩
theorem z9O:∀ (t:ET) (m:Nat) (cs:List Value) (w:World),m < 500->ExpAt w w.heap.size cs t->
  Calls Tryz.prog 87 #[.agg ⟨cs⟩,.int .i64 m] w fun e w'=>e= .returned (.int .i64 (cntE t m:Nat))/\Below w.heap.size w w':=by
 intro t
 induction t using ET.ind with
 |h k s t ns its ih=>
  intro m cs w hm hv;have IH:=I ih;obtain⟨v0,v1,v2,v3,v4,v5,vn,vi,rfl,_,_,_,_,b5,hi⟩:=hv.inv;obtain⟨_,A,c,rfl,hA⟩:=hi;unfold maxLen at b5;have HA:=I hA;have HS:=I (fun k m x=>z5L (l:=its) (k:=k) (m:=m) (x:=x));have HE:=I (fun m=>z79 (l:=its) (m:=m));have a6:=I (fun x m hm=>z6F x m hm);have a4:Hid (∀ k m,500<=m->cntEL (its.drop k) m= m):=I (fun k m h=>by
   cases its.drop k with
   |nil=>rw[cntEL]
   |cons a l=>rw[cntEL,if_pos h])
  have H0:Hid (cntEL (its.drop 0) (m+1)= cntE (.mk k s t ns its) m):=I (by rw[cntE];rfl);clear ih hA hv;generalize cntE (.mk k s t ns its) m= res at*;go_enter Tryz.func87,Tryz.ntmps87;go_upto_region 1 with (fail);have X:=zc w (.cells ⟨[.int .i64 k,.string s,v0,v1,v2,v3,v4,v5,vn,.slice A its.length c]⟩ 47);have Y:=zy w (.cells ⟨[.int .i64 k,.string s,v0,v1,v2,v3,v4,v5,vn,.slice A its.length c]⟩ 47);have c5:=zI w ⟨[.int .i64 k,.string s,v0,v1,v2,v3,v4,v5,vn,.slice A its.length c]⟩ 47 9;generalize w.alloc (.cells ⟨[.int .i64 k,.string s,v0,v1,v2,v3,v4,v5,vn,.slice A its.length c]⟩ 47)= W at*;have HB:=I X;have C5:=I c5;have a9:=I Y;clear X c5 Y;have e0:(m:Int) < 500:=by omega
  go_wp2;go_loopg [1,5] its.length (fun g u i wr=>∃ (j m:Nat),j+g= its.length/\i= .int .i64 j/\u= .int .i64 m/\m<=500/\Below W.heap.size W wr/\cntEL (its.drop j) m= res);case atStart=>exact⟨0,m+1,by omega,rfl,by go_num,by omega,Below.refl _ _,H0.o⟩
  case round=>
   obtain⟨j,m,hj,rfl,rfl,e1,hb,K⟩:=hrel;have C:=I hb;have HR:=I K;have d5:=(hb.cell (p:=⟨w.heap.size,9,none⟩) a9.o).trans C5.o;clear hb K;simp only[List.getElem?_toArray,List.getElem?_cons_succ,List.getElem?_cons_zero] at d5;have c6:(m:Int)<=500:=by omega
   cases gk with
   |zero=>
    obtain rfl:j= its.length:=by omega
    have d7: ¬ ((its.length:Int) <(its.length:Int)):=by omega
    have O:=I (HR.o.symm.trans (HE.o m));go_wp2;go_ret;exact⟨by rw[O.o];go_num,(beT HB.o C.o)⟩
   |succ g=>
    have d9:(j:Int) <(its.length:Int):=by omega
    by_cases h0:m < 500
    ·have e2:w.heap.size<=wr.heap.size:=Nat.le_trans HB.o.size C.o.size
     obtain⟨y,hy⟩:∃ y,its[j]?= some y:=⟨_,List.getElem?_eq_getElem (by omega)⟩;obtain⟨b,o,rfl,b3,hc⟩:=HA.o (by omega);obtain⟨cs,b4,hr,hR⟩:=hc j y hy;have G:=(beT HB.o C.o);have O:=I (HR.o.symm.trans (HS.o j m y hy));have b0:=I (O.o.trans (if_neg (by omega)));have a8:=I (zb hr G b3);have HC:=I (IH.o y (List.mem_of_getElem? hy) m cs wr h0 ((hR.under G).more G.size));have a5:=I b4;have b6:=a6.o y m h0;have b1:(m:Int) < 500:=by omega
     clear hc hr hR G hy O h0;go_wp2_with (first|((with_reducible refine za tyK47 _ rfl ?_ a8.o rfl a5.o ?_);exact wA rfl)|(go_at_call 87;refine zg HC.o ?_;intro w' a3));go_roundg g;case measure=>omega
     case rel=>exact⟨j+1,_,by omega,by go_num,rfl,b6,(beT C.o a3.o),b0.o.symm⟩
    ·have O:=I (HR.o.symm.trans (a4.o j m (by omega)))
     have b1: ¬ ((m:Int) < 500):=by omega
     have N:m= 500:=by omega
     go_wp2;all_goals
      go_ret;exact⟨by rw[O.o,N];rfl,(beT HB.o C.o)⟩
theorem z9P (t:ET) (cs:List Value) (w:World) (hv:ExpAt w w.heap.size cs t):Calls Tryz.prog 56 #[.agg ⟨cs⟩] w fun e w'=>e= .returned (.int .i64 (cntE t 0:Nat))/\Below w.heap.size w w':=by
 have C:=I (eslen hv);have N:=I hv;clear hv;go_enter Tryz.func56,Tryz.ntmps56;go_upto_region 1 with (fail);have g:=I (zc w (.cells ⟨cs⟩ 47));have K:=I (zv w cs 47);generalize w.alloc (.cells ⟨cs⟩ 47)= W at*;have G:=I (z9O t 0 cs W (by omega) ((N.o.under g.o).more g.o.size));go_wp2_with (first|((with_reducible refine za tyK47 _ rfl ?_ K.o rfl C.o ?_);exact wA rfl)|(go_at_call 87;refine zg G.o ?_;intro w' A));go_ret;exact⟨rfl,(beT g.o A.o)⟩
end
section
open Go Go.RowKit
def z2o (s:ByteArray) (x:VarT):Bool:=x.name.toList ==s.toList
def findV:List VarT->ByteArray->Int
 |[],_=> -1
 |x::l,s=>if z2o s x= true then 0 else if findV l s= -1 then -1 else findV l s+1
theorem z5u {s:ByteArray}:∀ {l:List VarT},(∀ (k:Nat) x,l[k]?= some x->z2o s x= false)->findV l s= -1
 |[],_=>rfl
 |x::l,h=>by
  unfold findV
  rw[if_neg (by rw[h 0 x rfl];decide),z5u fun k y hy=>h (k+1) y hy,if_pos rfl]
theorem z4n {s:ByteArray}:∀ {l:List VarT} (j:Nat) (x:VarT),l[j]?= some x->z2o s x= true->(∀ k,k < j->∀ y,l[k]?= some y->z2o s y= false)->findV l s=(j:Int)
 |[],j,x,h,_,_=>by simp at h
 |a::l,0,x,h,hx,_=>by
  obtain rfl:a= x:=by simpa using h
  unfold findV
  rw[if_pos hx];rfl
 |a::l,j+1,x,h,hx,hno=>by
  have g:=z4n (l:=l) j x (by simpa using h) hx fun k hk y hy=>hno (k+1) (by omega) y (by simpa using hy)
  unfold findV
  rw[if_neg (by rw[hno 0 (by omega) a rfl];decide),g,if_neg (by omega)]
  omega
theorem z9g {w:World} {B:Nat} {ks:List Value} {x:VarT} (h:VarAt w B ks x):∃ a b c d e f g i j,ks=[.string x.name,.int .i64 x.label,a,b,c,d,e,f,g,i,j]:=by
 obtain⟨ct,ci,rfl,h3,h6,_,_⟩:=h.ex
 match ct,ci,h3,h6 with
 |[a,b,c],[d,e,f,g,i,j],_,_=>exact⟨a,b,c,d,e,f,g,i,j,rfl⟩
end
section
open Go
theorem z7k:∀ (ks pre rest:List Value),rest.length= ks.length->
  (ks.zipIdx pre.length).foldl (fun(cs:Array Value) (p:Value × Nat)=>cs.setIfInBounds (0+p.2) p.1) (pre ++ rest).toArray=(pre ++ ks).toArray
 |[],pre,rest,h=>by
  rw[List.eq_nil_of_length_eq_zero h];rfl
 |k::ks,pre,rest,h=>by
  cases rest with
  |nil=>cases h
  |cons r rest=>
   rw[List.zipIdx_cons,List.foldl_cons]
   have h1:(pre ++ r::rest).toArray.setIfInBounds (0+pre.length) k=((pre ++ [k]) ++ rest).toArray:=by
    rw[Nat.zero_add,List.setIfInBounds_toArray]
    congr 1
    simp
   show List.foldl _ ((pre ++ r::rest).toArray.setIfInBounds (0+pre.length) k) _= _;rw[h1];have:=z7k ks (pre ++ [k]) rest (by simpa using h);rw[List.length_append] at this;rw[List.append_assoc] at this ⊢;rw[List.append_assoc] at this;exact this
theorem z8s (size:Nat) (ks:List Value) (cells:Array Value) (h1:ks.length= size) (h2:cells.size= size):Instr.fill (fun i=>some (i*size,size)) cells [(0,.agg ks.toArray)]= some ks.toArray:=by
 unfold Instr.fill;simp only[Nat.zero_mul];have g:(Value.agg ks.toArray).cells= ks.toArray:=rfl;rw[g];rw[if_neg (by simp[h1,h2])];unfold Instr.fill
 congr 1
 have:=z7k ks [] cells.toList (by simpa [h1] using h2)
 simpa using this
section
variable {P:Program}
theorem z6n (w:World) (t e:TypeId) (i:TypeInfo) (z:Value) (ks:List Value) (ht:P.underlying t= some (.slice e)) (hi:P.info? e= some i) (hz:i.zero= some z) (hsz:i.size= ks.length) (h0:0 < ks.length) (hmax:ks.length<=1000):
  (Instr.buildSlice t 1 #[(0,.agg ks.toArray)]).run P w= .ok (.slice (some ⟨w.heap.size,0,none⟩) 1 1) (w.alloc (.cells ⟨ks⟩ e)):=by
 have C:(sizeOf e).run P w= .ok ks.length w:=by simp[sizeOf,typeInfo,hi,hsz]
 have g:(zeroValue e).run P w= .ok z w:=by simp[zeroValue,typeInfo,hi,hz]
 have A:∀ cells:Array Value,cells.size= ks.length->Instr.fill (fun i=>some (i*ks.length,ks.length)) cells [(0,.agg ks.toArray)]= some ks.toArray:=fun cells hc=>z8s ks.length ks cells rfl hc;unfold Instr.buildSlice;simp only[Sem.run_bind,run_underlying ht,Result.andThen_ok,C,Nat.one_mul];rw[if_neg (by omega),if_neg (by omega)];simp only[Sem.run_bind,Sem.run_pure,Result.andThen_ok,g];rw[A _ (by simp)];simp[newRow]
variable {ops:Array Oper} {rest:List Oper} {o:Oper} {a:Act} {w:World} {Q:Exit->Act->World->Prop}
theorem z0z (t:TypeId) (x:Operand) (ho:o.op= .buildSlice t 1 #[(0,x)]) (hw:Region.wanted o (yielded ops a.tmps)= true) (e:TypeId) (i:TypeInfo) (z:Value) (ks:List Value) (hx:a.eval x= .agg ks.toArray)
  (ht:P.underlying t= some (.slice e)) (hi:P.info? e= some i) (hz:i.zero= some z) (hsz:i.size= ks.length) (h0:0 < ks.length) (hmax:ks.length<=1000)
  (h:wpList P ops Q rest (a.put o.dst (.slice (some ⟨w.heap.size,0,none⟩) 1 1)) (w.alloc (.cells ⟨ks⟩ e))):wpList P ops Q (o::rest) a w:=by
 refine wpList_step fun K hK=> ?_;rw[if_pos hw];unfold Oper.wp execOp;have g:=z6n (P:=P) w t e i z ks ht hi hz hsz h0 hmax;simp only[ho,List.map_toArray,List.map_cons,List.map_nil,hx,Sem.run_bind,Sem.run_pure,Result.andThen_ok,g];exact hK _ _ h
end
end
section
open Go
section
variable {P:Program} {ops:Array Oper} {S:World->Prop} {Q:Exit->Act->World->Prop} {i:Nat} {r:OrdT} {a:Act} {w:World}
end
theorem z6L:∀ (ks:List Value) (n m:Nat) (pre mid post:List Value),mid.length= ks.length->n+m= pre.length->
  (ks.zipIdx m).foldl (fun(cs:Array Value) (p:Value × Nat)=>cs.setIfInBounds (n+p.2) p.1) (pre ++ mid ++ post).toArray=(pre ++ ks ++ post).toArray
 |[],n,m,pre,mid,post,h,_=>by
  rw[List.eq_nil_of_length_eq_zero h];rfl
 |k::ks,n,m,pre,mid,post,h,hn=>by
  cases mid with
  |nil=>cases h
  |cons x mid=>
   rw[List.zipIdx_cons,List.foldl_cons]
   have h1:(pre ++ x::mid ++ post).toArray.setIfInBounds (n+m) k=((pre ++ [k]) ++ mid ++ post).toArray:=by
    rw[hn,List.setIfInBounds_toArray]
    congr 1
    simp
   show List.foldl _ ((pre ++ x::mid ++ post).toArray.setIfInBounds (n+m) k) _= _;rw[h1];have:=z6L ks n (m+1) (pre ++ [k]) mid post (by simpa using h) (by rw[List.length_append,List.length_singleton];omega);rw[this]
   congr 1
   simp
theorem zeM (size:Nat) (k1 k2:List Value) (cells:Array Value) (h1:k1.length= size) (h2:k2.length= size) (hc:cells.size= 2*size):
  Instr.fill (fun i=>some (i*size,size)) cells [(0,.agg k1.toArray),(1,.agg k2.toArray)]= some (k1 ++ k2).toArray:=by
 have e1:(Value.agg k1.toArray).cells= k1.toArray:=rfl;have e2:(Value.agg k2.toArray).cells= k2.toArray:=rfl;obtain⟨m1,m2,K,A,g⟩:∃ m1 m2:List Value,cells=(m1 ++ m2).toArray/\m1.length= size/\m2.length= size:=by
  refine⟨cells.toList.take size,cells.toList.drop size,by simp,?_,?_⟩
  ·rw[List.length_take,Array.length_toList];omega
  ·rw[List.length_drop,Array.length_toList];omega
 subst K;unfold Instr.fill;simp only[e1];rw[if_neg (by simp[h1,A,g])];have f1:=z6L k1 (0*size) 0 [] m1 m2 (by rw[A,h1]) (by simp);rw[List.nil_append,List.nil_append] at f1;have C:(k1.toArray.zipIdx).foldl (fun(cs:Array Value) (p:Value × Nat)=>cs.setIfInBounds (0*size+p.2) p.1) (m1 ++ m2).toArray=(k1 ++ m2).toArray:=by
  rw[← f1];simp
 rw[show(k1.toArray.zipIdx.foldl (fun cs x=>match x with|(c,j)=>cs.setIfInBounds (0*size+j) c) (m1 ++ m2).toArray)=(k1 ++ m2).toArray from C];unfold Instr.fill;simp only[e2];rw[if_neg (by simp[h1,h2,g])];have f2:=z6L k2 (1*size) 0 k1 m2 [] (by rw[g,h2]) (by rw[h1];simp);rw[List.append_nil,List.append_nil] at f2;have G:(k2.toArray.zipIdx).foldl (fun(cs:Array Value) (p:Value × Nat)=>cs.setIfInBounds (1*size+p.2) p.1) (k1 ++ m2).toArray=(k1 ++ k2).toArray:=by
  rw[← f2];simp
 rw[show(k2.toArray.zipIdx.foldl (fun cs x=>match x with|(c,j)=>cs.setIfInBounds (1*size+j) c) (k1 ++ m2).toArray)=(k1 ++ k2).toArray from G];rfl
section
variable {P:Program}
variable {o:Oper} {a:Act} {w:World}
end
end
section
open Go Go.RowKit
section
variable {P:Program} {ops:Array Oper} {rest:List Oper} {o:Oper} {a:Act} {w:World} {Q:Exit->Act->World->Prop}
def Whole (T:TypeId) (w:World) (b:Nat) (cs:List Value):Prop:=w.heap[b]?= some (.cells ⟨cs⟩ T (0,0))
theorem Whole.new (w:World) (cs:List Value) (T:TypeId):Whole T (w.alloc (.cells ⟨cs⟩ T)) w.heap.size cs:=heap_alloc_new w _
theorem Whole.range {T:TypeId} {b:Nat} {cs:List Value} (h:Whole T w b cs):w.rangeAt b 0 cs:=by
 intro j v hv;rw[Nat.zero_add];rw[cell_of_row w b j ⟨cs⟩ T _ h]
 simpa using hv
theorem Whole.lt {T:TypeId} {b:Nat} {cs:List Value} (h:Whole T w b cs):b < w.heap.size:=by
 rcases Nat.lt_or_ge b w.heap.size with h1|h1
 ·exact h1
 ·unfold Whole at h;rw[Array.getElem?_eq_none h1] at h;cases h
theorem Whole.keep {T:TypeId} {w':World} {b:Nat} {cs:List Value} (h:Whole T w b cs) (hb:w'.heap[b]?= w.heap[b]?):Whole T w' b cs:=hb.trans h
theorem Whole.there {T:TypeId} {b:Nat} {cs:List Value} (h:Whole T w b cs):w.there b 0 cs.length:=by
 intro j hj;rw[Nat.zero_add,cell_of_row w b j ⟨cs⟩ T _ h];refine⟨by simp[hj],?_⟩;unfold World.frozen?;have h2:w.heap[b]?= some (.cells ⟨cs⟩ T (0,0)):=h;simp[h2]
theorem Whole.tag {T:TypeId} {b:Nat} {cs:List Value} (h:Whole T w b cs):Tag w b T:=⟨_,h⟩
theorem z1X (b:Nat) (T:TypeId):∀ (vs pre mid:List Value) (w:World),w.heap[b]?= some (.cells ⟨pre ++ mid⟩ T (0,0))->mid.length= vs.length->(w.setCells b pre.length vs).heap[b]?= some (.cells ⟨pre ++ vs⟩ T (0,0))
 |[],pre,mid,w,h,hl=>by
  rw[List.eq_nil_of_length_eq_zero hl] at h
  exact h
 |v::vs,pre,[],w,h,hl=>by cases hl
 |v::vs,pre,m::mid,w,h,hl=>by
  have h1:(w.setCell ⟨b,pre.length,none⟩ v).heap[b]?= some (.cells ⟨(pre ++ [v]) ++ mid⟩ T (0,0)):=by
   show(w.heap.modify b _)[b]?= _;rw[Array.getElem?_modify,if_pos rfl,h];simp
  have h2:=z1X b T vs (pre ++ [v]) mid (w.setCell ⟨b,pre.length,none⟩ v) h1 (by simpa using hl);rw[List.length_append] at h2;have e:pre ++ [v] ++ vs= pre ++ v::vs:=by simp
  rw[e] at h2;exact h2
theorem z3B (b:Nat):∀ (cs:List Value) (w:World) (i:Nat),But w (w.setCells b i cs) b b
 |[],w,_=>But.refl w b b
 |v::cs,w,i=>(But.setAt w b i v).trans (z3B b cs _ (i+1))
theorem z0W (T:TypeId) (x y:Operand) (ho:o.op= .store T x y) (hn:o.dst= none) (hw:Region.wanted o (yielded ops a.tmps)= true) (b:Nat) (cs0 cs:List Value) (hb:Whole T w b cs0) (hl:cs0.length= cs.length)
  (hx:a.eval x= .pointer (some ⟨b,0,none⟩)) (hy:a.eval y= .agg cs.toArray) (hi:(P.info? T).map (·.size)= some cs.length) (h1:∀ v∈cs,v.oneCell'= true)
  (h:∀ Z,Whole T Z b cs->But w Z b b->wpList P ops Q rest a Z):wpList P ops Q (o::rest) a w:=by
 have h:=fun Z h1 h2=>(show wpList P ops Q rest (a.put o.dst undef) Z from by rw[hn];exact h Z h1 h2);refine z4M T x y ho hw b 0 cs hx hy (by rw[← hl];exact hb.there) hi h1 (h _ ?_ (z3B b cs w 0));have:=z1X b T cs [] cs0 w hb hl;exact this
theorem zi {P:Program} {ops:Array Oper} {rest:List Oper} {o:Oper} {a:Act} {w:World} {Q:Exit->Act->World->Prop} (T:TypeId) (x y:Operand) (ho:o.op= .store T x y) (hn:o.dst= none) (hw:Region.wanted o (yielded ops a.tmps)= true) {b:Nat} {cs0:List Value} (hb:Whole T w b cs0) (cs:List Value) (hl:cs0.length= cs.length) (hx:a.eval x= .pointer (some ⟨b,0,none⟩)) (hy:a.eval y= .agg cs.toArray) (hi:(P.info? T).map (·.size)= some cs.length) (h1:∀ v∈cs,v.oneCell'= true) (h:∀ Z,Go.RowKit.Hid (Whole T Z b cs)->Go.RowKit.Hid (But w Z b b)->wpList P ops Q rest a Z):wpList P ops Q (o::rest) a w:=z0W T x y ho hn hw b cs0 cs hb hl hx hy hi h1 fun Z p q=>h Z (I p) (I q)
end
end
section
open Go Go.RowKit
abbrev valC (k n:Int) (f:Nat) (s:ByteArray):List Value:=[.int .i64 k,.int .i64 n,.float .f64 f,.string s,.slice none 0 0,.slice none 0 0]
end
section
open Go Go.RowKit
section
variable {P:Program} {ops:Array Oper} {S:World->Prop} {Q:Exit->Act->World->Prop} {i:Nat} {r:List (Nat × Bool)} {o:Oper} {a:Act} {w:World}
theorem z1p (T:TypeId) (ho:o.op= .alloc T) (j:TypeInfo) (z:Value) (hi:P.info? T= some j) (hz:j.zero= some z):
  (execOp a.eval o).run P w= .ok (.value (.pointer (some ⟨w.heap.size,0,none⟩))) (w.alloc (.cells z.cells T)):=by
 have hzv:(zeroValue T).run P w= .ok z w:=by simp[zeroValue,typeInfo,hi,hz]
 unfold execOp;simp only[ho,Instr.alloc,Sem.run_bind,hzv,Result.andThen_ok];simp[newVar,newRow]
theorem z1Z (d:Option Tmp) (T:TypeId) (o:Oper) (x y:Operand) (hi:ops[i]?= some o) (ho:o.op= .store T x y) (hd:o.dst= d) (hw:Region.wanted o (yielded ops a.tmps)= true) (b:Nat) (cs0 cs:List Value) (hb:Whole T w b cs0) (hl:cs0.length= cs.length)
  (hx:a.eval x= .pointer (some ⟨b,0,none⟩)) (hy:a.eval y= .agg cs.toArray) (hi2:(P.info? T).map (·.size)= some cs.length) (h1:∀ v∈cs,v.oneCell'= true)
  (h:∀ Z,Whole T Z b cs->But w Z b b->S Z/\wpOrd P ops S Q r (a.put d undef) Z):wpOrd P ops S Q ((i,false)::r) a w:=by
 subst hd;refine z4W o hi hw fun K hK=> ?_;have g:=h (w.setCells b 0 cs) (z1X b T cs [] cs0 w hb hl) (z3B b cs w 0);exact wp_store_mid T x y ho b 0 cs.toArray hx hy (by rw[List.size_toArray,← hl];exact hb.there) (by simpa using hi2) (all_oneCell_toArray h1) (by simpa using hK _ _ g.1 g.2)
end
theorem Whole.cells {T:TypeId} {w:World} {b:Nat} {cs:List Value} (h:Whole T w b cs) (k:Nat) {v:Value} (hv:cs[k]?= some v):w.cell? ⟨b,k,none⟩= some v:=by
 have:=h.range k v hv;rwa [Nat.zero_add] at this
theorem PS.under {T:TypeId} {pb tb c:Nat} {E:Int} {toks:List Tok} {w w':World} {i:Nat} {d:Int} (h:PS T pb tb c E toks w i d) (b:Nat) (hp:b≠pb) (ht:b≠tb) (hb:But w w' b b):PS T pb tb c E toks w' i d:=
 ⟨(hb.block pb h.lt.2 (Ne.symm hp) (Ne.symm hp)).trans h.blk,h.ne,⟨Nat.lt_of_lt_of_le h.lt.1 hb.size,Nat.lt_of_lt_of_le h.lt.2 hb.size⟩,fun j t hj a v hv=>(hb.cell h.lt.1 (Ne.symm ht) (Ne.symm ht)).trans (h.tok j t hj a v hv),h.len⟩
section
variable {pb tb c:Nat} {E:Int} {toks:List Tok} {w:World} {i:Nat} {d:Int}
end
end
section
open Go Go.RowKit
def KeptP (p:Nat->Prop) (w:World) (cs:List Value) (t:ET):Prop:=ExpAt (only w p) w.heap.size cs t
theorem KeptP.to {p q:Nat->Prop} {w w':World} {cs:List Value} {t:ET} (h:KeptP p w cs t) (hb:∀ b,p b->b < w.heap.size->q b/\w'.heap[b]?= w.heap[b]?) (hs:w.heap.size<=w'.heap.size):KeptP q w' cs t:=
 (ExpAt.cells h (z4V hb)).more hs
theorem KeptP.one {p:Nat->Prop} {w:World} {cs:List Value} {t:ET} (h:KeptP p w cs t):∀ v∈cs,v.oneCell'= true:=ExpAt.one h
theorem KeptP.len {p:Nat->Prop} {w:World} {cs:List Value} {t:ET} (h:KeptP p w cs t):cs.length= 10:=by
 cases t with
 |mk k s v ns its=>
  obtain⟨c0,c1,c2,c3,c4,c5,vn,vi,rfl,_⟩:=ExpAt.inv h;rfl
theorem zH (n:Int) (h:(Lit.int .i64 n).wf= true):wfI n:=h
theorem zfw (w:World) (B:Nat) (k n:Int) (f:Nat) (s:ByteArray) (hk:wfI k) (hn:wfI n) (hf:(Lit.float .f64 f).wf= true) (hs:s.size<=maxLen):ValAt w B (valC k n f s) (.mk k n f s [] []):=
 ValAt.of hk hn hf hs (SlAt.nil w B 1 _) (Nat.zero_le _) (SlAt.nil w B 6 _)
section
variable (pb tb c:Nat) (E:Int) (toks:List Tok)
variable {pb tb c E toks}
end
end
section
open Go Go.RowKit
section
variable {P:Program} {ops:Array Oper} {S:World->Prop} {Q:Exit->Act->World->Prop} {i:Nat} {r:List (Nat × Bool)} {a:Act} {w:World}
variable {t u:OrdT} {j:Nat}
theorem z43 (h1:zV P ops S Q (.act i t) a w) (h2:zV P ops S Q (.act j u) a w):zV P ops S Q (.two i j t u) a w:=⟨h1,h2⟩
theorem z0U (d:Option Tmp) (v:Value) (w':World) (o:Oper) (hi:ops[i]?= some o) (hd:o.dst= d) (hw:Region.wanted o (yielded ops a.tmps)= true)
  (hrun:(execOp a.eval o).run P w= .ok (.value v) w') (hS:S w') (h:zV P ops S Q t (a.put d v) w'):zV P ops S Q (.act i t) a w:=by
 subst hd;refine z5F o hi hw fun K hK=> ?_;unfold Oper.wp;rw[hrun];exact hK _ _ hS h
theorem z0Q (d:Option Tmp) (T:TypeId) (o:Oper) (x y:Operand) (hi:ops[i]?= some o) (ho:o.op= .store T x y) (hd:o.dst= d) (hw:Region.wanted o (yielded ops a.tmps)= true) (b:Nat) (cs0 cs:List Value) (hb:Whole T w b cs0) (hl:cs0.length= cs.length)
  (hx:a.eval x= .pointer (some ⟨b,0,none⟩)) (hy:a.eval y= .agg cs.toArray) (hi2:(P.info? T).map (·.size)= some cs.length) (h1:∀ v∈cs,v.oneCell'= true)
  (h:∀ Z,Whole T Z b cs->But w Z b b->S Z/\zV P ops S Q t (a.put d undef) Z):zV P ops S Q (.act i t) a w:=by
 subst hd;refine z5F o hi hw fun K hK=> ?_;have g:=h (w.setCells b 0 cs) (z1X b T cs [] cs0 w hb hl) (z3B b cs w 0);exact wp_store_mid T x y ho b 0 cs.toArray hx hy (by rw[List.size_toArray,← hl];exact hb.there) (by simpa using hi2) (all_oneCell_toArray h1) (by simpa using hK _ _ g.1 g.2)
end
end
section
open Go
section
variable {P:Program} {ops:Array Oper} {S:World->Prop} {Q:Exit->Act->World->Prop} {i:Nat} {r:List (Nat × Bool)} {t:OrdT} {a:Act} {w:World}
theorem z4X (d:Option Tmp) (f:FuncId) {fn:Func} (hf:P.funcs[f]?= some fn) (hn:(fn.name == "runtime.NumGoroutine")= false) (hb:fn.body.isNone= false) (vals:List Value)
  (o:Oper) (args:List Operand) (ts:Array TypeId) (hi:ops[i]?= some o) (ho:o.op= .call { callee:= .value (.func f),args:=args.toArray,argTypes:=ts })
  (hd:o.dst= d) (hw:Region.wanted o (yielded ops a.tmps)= true) (hv:args.map a.eval= vals)
  (h:Calls P f vals.toArray w fun e w'=>(∃ v,e= .returned v/\S w'/\wpOrd P ops S Q r (a.put d v) w')\/∃ c,e= .panicked c/\Q (.panic c) a w'):wpOrd P ops S Q ((i,false)::r) a w:=by
 subst hd;refine z4W o hi hw fun K hK=> ?_;unfold Oper.wp;rw[show(execOp a.eval o).run P w= .ok (.enter f vals.toArray) w by rw[← hv,← List.map_toArray];exact z4l hf hn hb o args.toArray ts ho,Oper.upon_enter];refine h.mono fun e w' he=> ?_;rcases he with ⟨v,rfl,g,A⟩|⟨c,rfl,C⟩
 ·exact hK _ _ g A
 ·exact C
end
end
section
open Go.RowKit
theorem z9J {P:Program} {e:TypeId} {z:Option Value} {s b:Nat} (h:(P.info? e).map (fun i=>(i.zero,i.size,i.bytes))= some (z,s,b)):∃ i,P.info? e= some i/\i.zero= z/\i.size= s/\i.bytes= b:=by
 cases hq:P.info? e with
 |none=>rw[hq] at h;cases h
 |some i=>
  rw[hq] at h;simp at h;exact⟨i,rfl,h.1,h.2.1,h.2.2⟩
end
section
open Go.RowKit
theorem z2G {α:Type} {T:TypeId} {k B base:Nat} {enc:α->List Value} {w0 w w':World} {v:Value} {l:List α} (h:Below B w0 w) (hB:B<=w.heap.size) (hown:OwnSl T k enc w base v l) (hbase:B<=base) (hg:w.grownBy w' v.ownBlock):Below B w0 w':=
 h.grown hg hB fun b hb=>Nat.le_trans hbase (hown.block hb)
theorem z9G {α:Type} {p:α->Bool} {l:List α} {j:Nat} {x:α} (h:l[j]?= some x):(l.take (j+1)).filter p=(l.take j).filter p ++ if p x= true then[x] else[]:=by
 rw[zgt h,List.filter_append];by_cases hp:p x= true<;>simp[hp]
end
section
open Go Go.RowKit
structure C10 where
 cs:List Value
 len:cs.length= 10
def enc10 (q:C10):List Value:=q.cs
theorem z2j (q:C10):(enc10 q).length= 10:=q.len
def kindC (q:C10):Int:=match q.cs with| .int .i64 k::_=>k|_=>0
def nzC (q:C10):Bool:=kindC q !=0
def OkC (q:C10):Prop:=q.cs[0]?= some (.int .i64 (kindC q))/\∀ u∈q.cs,u.oneCell'= true
def Raw10 (cs:List Value) (q:C10):Prop:=cs= q.cs
theorem zcn:(Tryz.prog.info? 47).map (fun i=>(i.zero,i.size,i.bytes))= some (some (.agg #[.int .i64 0,.string ⟨#[]⟩,.int .i64 0,.int .i64 0,.float .f64 0,.string ⟨#[]⟩,.slice none 0 0,.slice none 0 0,.slice none 0 0,.slice none 0 0]),10,160):=by kernel_rfl
theorem z4a {α:Type} {P:Program} {ops:Array Oper} {rest:List Oper} {o:Oper} {a:Act} {w:World} {Q:Exit->Act->World->Prop} (hgd:o.guard= none) (s x:Operand) (t:TypeId) (ho:o.op= .call { callee:= .builtin .append,args:= #[s,x],argTypes:= #[t,t] })
  (base:Nat) (e:TypeId) (i:TypeInfo) (z:Value) (k bytes:Nat) (enc:α->List Value) (ht:P.underlying t= some (.slice e)) (hi:P.info? e= some i) (hz:i.zero= some z)
  (hsize:i.size= k) (hby:i.bytes= bytes) (hzs:z.cells.size= k) (hsz:0 < k) (hk:∀ x,(enc x).length= k)
  (v:Value) (l:List α) (hs:a.eval s= v) (hown:OwnSl e k enc w base v l) (nb c:Nat) (y:α) (h1:∀ u∈enc y,u.oneCell'= true) (hx:a.eval x= .slice (some ⟨nb,0,none⟩) 1 c)
  (hc:∀ j u,(enc y)[j]?= some u->w.cell? ⟨nb,j,none⟩= some u) (h63:l.length+1<=maxLen) (hbytes:(l.length+1) *bytes<=140737488355328) (hbase:base<=w.heap.size)
  (h:∀ v' w',OwnSl e k enc w' base v' (l ++ [y])->w.grownBy w' v.ownBlock->wpList P ops Q rest (a.put o.dst v') w'):wpList P ops Q (o::rest) a w:=by
 obtain⟨v',w',g,k2,k3,_,k5⟩:=run_append_own_at (P:=P) w base t o.type e i z k bytes ht hi hz hsize hby hzs hsz v l.length (flat enc l) hown ⟨nb,0,none⟩ 1 c (enc y) (by rw[hk];omega)
  (fun j u hu=>by rw[Addr.add_mid,Nat.zero_add];exact hc j u hu) h1 h63 hbytes hbase
 refine wpList_plain hgd fun _ hK=> ?_;unfold Oper.wp execOp;simp only[ho,resolve,invoke,builtin,Sem.run_bind,Sem.run_pure,Result.andThen_ok,List.map_toArray,List.map_cons,List.map_nil,hs,hx,g];exact hK _ _ (h v' w' (by unfold OwnSl;rw[z4s,List.length_append];exact k2) k3)
def zec (w:World) (l:List C10) (e:Ending) (w':World):Prop:=∃ v,e= .returned v/\OwnSl 47 10 enc10 w' w.heap.size v l/\Below w.heap.size w w'
def nodeC (v0 v1 v2 vc:Value) (ce cb:C10) (t:List Value):List Value:=[v0,v1,v2,vc] ++ ce.cs ++ (cb.cs ++ t)
theorem zf5 {w:World} {p:Nat} {v0 v1 v2 vc:Value} {ce cb:C10} {t:List Value} (h:w.rangeAt p 0 (nodeC v0 v1 v2 vc ce cb t)):w.cell? ⟨p,3,none⟩= some vc/\w.rangeAt p 4 ce.cs/\w.rangeAt p 14 cb.cs:=by
 refine⟨?_,?_,?_⟩
 ·have:=h 3 vc rfl;rwa [Nat.zero_add] at this
 ·exact z4E (p:=[v0,v1,v2,vc]) (q:=cb.cs ++ t) h 4 rfl
 ·exact z4E (p:=[v0,v1,v2,vc] ++ ce.cs) (cs:=cb.cs) (q:=t) (by unfold nodeC at h;rw[← List.append_assoc] at h;exact h) 14 (by rw[List.length_append,ce.len];rfl)
theorem z4m {l:List C10} {p:C10->Bool} {n:Nat} (h:l.length<=n):(l.filter p).length<=n:=Nat.le_trans (List.length_filter_le _ _) h
theorem zcd (Q:List C10) (ce cb:C10) (v0 v1 v2 vc:Value) (t:List Value) (w:World) (hq:SlAt w w.heap.size 10 Raw10 vc Q) (hok:∀ q∈Q ++ [ce,cb],OkC q) (hlen:Q.length<=40):
  Calls Tryz.prog 11 #[.agg ⟨nodeC v0 v1 v2 vc ce cb t⟩] w (zec w ((Q ++ [ce,cb]).filter nzC)):=by
 obtain⟨g8,A,c,rfl,hA⟩:=hq;have HA:=I hA;have e8:=I (fun q h=>hok q (List.mem_append.2 (.inl h)));have c4:=I (hok ce (by simp));have a9:=I (hok cb (by simp));have b7:=I hlen;obtain⟨j0,hi,e3,e4,e5⟩:=z9J zcn;have a4:=I hi;have a6:=I e3;have a7:=I e4;have b5:=I e5;obtain⟨R,hR⟩:∃ R,(Q ++ [ce,cb]).filter nzC= R:=⟨_,rfl⟩;rw[hR];have e9:=I hR;clear hA hok hlen hi e3 e4 e5 hR;have f9:(Q.length:Int)<=9223372036854775807:=by omega
 go_enter Tryz.func11,Tryz.ntmps11;go_upto_region 1 with (fail);have HB:=I (zc w (.cells ⟨nodeC v0 v1 v2 (.slice A Q.length c) ce cb t⟩ 49));have HS:=I (zy w (.cells ⟨nodeC v0 v1 v2 (.slice A Q.length c) ce cb t⟩ 49));have HN:=I (zf5 (zv w (nodeC v0 v1 v2 (.slice A Q.length c) ce cb t) 49));generalize w.alloc (.cells ⟨nodeC v0 v1 v2 (.slice A Q.length c) ce cb t⟩ 49)= W at*;have d3:=HN.o.1;obtain⟨p1,b1⟩:∃ p1,w.heap.size= p1:=⟨_,rfl⟩;have g1:Hid (w.heap.size= p1):=I b1;have c6:=I (b1▸HN.o);have d1:=I (b1▸HS.o);rw[b1] at d3;rw[b1];clear HN HS b1;go_wp2;clear d3;go_loopg [2,8] Q.length (fun g v i u=>∃ j:Nat,j+g= Q.length/\i= .int .i64 j/\OwnSl 47 10 enc10 u W.heap.size v ((Q.take j).filter nzC)/\Below W.heap.size W u);case atStart=>exact⟨0,by omega,rfl,OwnSl.nil _ _,Below.refl _ _⟩
 case round=>
  obtain⟨j,hj,rfl,G,hb⟩:=hrel;have HO:=I G;have a2:=I hb;clear G hb;cases gk with
  |succ q=>
   have g7:(j:Int) <(Q.length:Int):=by omega
   obtain⟨x,hx⟩:∃ x,Q[j]?= some x:=⟨_,List.getElem?_eq_getElem (by omega)⟩;obtain⟨b,o,rfl,f3,hc⟩:=HA.o (by omega);have d8:Hid (wr.rangeAt b (o+j*10) x.cs):=I (by
    obtain⟨ks,h1,h2,h3⟩:=hc j x hx;have f1:ks= x.cs:=h3;subst f1;exact zb h2 (beT HB.o a2.o) f3)
   have c9:=I (e8.o x (List.mem_of_getElem? hx));have HF:=I (z9G (p:=nzC) hx);have d2:=I x.len;have O:Hid (((Q.take j).filter nzC).length<=40):=I (z4m (Nat.le_trans (by rw[List.length_take];exact Nat.min_le_right _ _) b7.o));clear hc hx;go_upto_region 4 with (first|((with_reducible refine za tyK47 _ rfl ?_ d8.o rfl d2.o ?_);exact wA rfl)|((with_reducible refine z1f 47 _ _ rfl ?hw wr ?z x.cs ?hwld ?hz ?hx ?hy ?hi ?h1 ?_);(case hwld=>rfl);(case hx=>rfl);(case hy=>rfl);(case hw=>(exact wA rfl));(case hz=>exact d2.o);(case hi=>rw[d2.o];kernel_rfl);(case h1=>exact c9.o.2);intro Z e2;have HX:=I e2;clear e2));have c5:=I (beT a2.o HX.o.below);have d7:=I (HO.o.below HX.o.below);have d9:=I HX.o.range;obtain⟨eb,b6⟩:∃ eb,wr.heap.size= eb:=⟨_,rfl⟩;have d0:Z.cell? ⟨eb,0,none⟩= some (.int .i64 (kindC x)):=b6▸HX.o.cell 0 c9.o.1;rw[b6] at d9;rw[b6];clear b6 HX d8;by_cases hk:kindC x= 0
   ·have t1:(kindC x !=0)= false:=by rw[hk];rfl
    have c7:Hid ((Q.take (j+1)).filter nzC=(Q.take j).filter nzC):=I (by rw[HF.o,if_neg (by unfold nzC;rw[t1];decide),List.append_nil]);generalize kindC x= kx at*;clear hk;go_wp2;go_roundg q;case measure=>omega
    case rel=>exact⟨j+1,by omega,by go_num,by rw[c7.o];exact d7.o,c5.o⟩
   ·have t1:(kindC x !=0)= true:=by simpa using hk
    have c7:Hid ((Q.take (j+1)).filter nzC=(Q.take j).filter nzC ++ [x]):=I (by rw[HF.o,if_pos (by unfold nzC;exact t1)]);clear hk;have N:=I (d7.o.below (zc Z (.cells ⟨x.cs⟩ 47)));have X:Hid (∀ i u,(enc10 x)[i]?= some u->(Z.alloc (.cells ⟨x.cs⟩ 47)).cell? ⟨Z.heap.size,i,none⟩= some u):=I (z0r Z x.cs 47);have K:=I (c5.o.alloc c5.o.size (.cells ⟨x.cs⟩ 47));have a0:Hid (((Q.take j).filter nzC).length+1<=maxLen):=I (by have:=O.o;unfold maxLen;omega);have a1:Hid ((((Q.take j).filter nzC).length+1) *160<=140737488355328):=I (by have:=O.o;omega);have C:=I x.len;go_wp2_with (first|((with_reducible refine za tyK47 _ rfl ?_ d9.o rfl C.o ?_);exact wA rfl)|((with_reducible refine z0z 45 _ rfl ?_ 47 j0 _ x.cs ?_ Tryz.underlying45 a4.o a6.o ?_ ?_ ?_ ?_);(exact wA rfl);rfl;rw[C.o];exact a7.o;rw[C.o];decide;rw[C.o];decide)|(at_builtin;(refine z4a rfl _ _ 45 rfl W.heap.size 47 j0 _ 10 160 enc10 Tryz.underlying45 a4.o a6.o a7.o b5.o rfl (by decide) z2j _ _ rfl N.o Z.heap.size 1 x c9.o.2 rfl X.o a0.o a1.o K.o.size ?_;intro v6 w6 G hg;have a5:=I G;have Y:=I hg;clear G hg)));have a3:=I (z2G K.o K.o.size N.o (Nat.le_refl _) Y.o);clear N X K a0 a1 C Y;go_roundg q;case measure=>omega
    case rel=>exact⟨j+1,by omega,by go_num,by rw[c7.o];exact a5.o,a3.o⟩
  |zero=>
   obtain rfl:j= Q.length:=by omega
   have g5: ¬ ((Q.length:Int) <(Q.length:Int)):=by omega
   have e0:Hid ((Q.take Q.length).filter nzC= Q.filter nzC):=I (by rw[List.take_length]);have c8:Hid (OwnSl 47 10 enc10 wr W.heap.size u2 (Q.filter nzC)):=I (e0.o▸HO.o);have d5:=I (zb c6.o.2.1 a2.o d1.o);have d4:=I (zb c6.o.2.2 a2.o d1.o);have O:Hid ((Q.filter nzC).length<=40):=I (z4m b7.o);have de:wr.cell? ⟨p1,4,none⟩= some (.int .i64 (kindC ce)):=by have:=d5.o 0 _ c4.o.1;simpa using this
   have db:wr.cell? ⟨p1,14,none⟩= some (.int .i64 (kindC cb)):=by have:=d4.o 0 _ a9.o.1;simpa using this
   have b4:Hid (R= Q.filter nzC ++ ((if nzC ce= true then[ce] else[]) ++ (if nzC cb= true then[cb] else[]))):=I (by
    rw[← e9.o,List.filter_append]
    congr 1
    simp only[List.filter_cons,List.filter_nil];split<;>split<;>rfl)
   clear HO e0 hj;by_cases he0:kindC ce= 0
   ·have t1:(kindC ce !=0)= false:=by rw[he0];rfl
    clear he0;by_cases hb0:kindC cb= 0
    ·have t2:(kindC cb !=0)= false:=by rw[hb0];rfl
     have a8:Hid (R= Q.filter nzC):=I (by rw[b4.o,if_neg (by unfold nzC;rw[t1];decide),if_neg (by unfold nzC;rw[t2];decide)];simp);clear hb0;generalize kindC ce= ke at*;generalize kindC cb= kb at*;go_wp2;go_ret;exact⟨_,rfl,by rw[a8.o];exact(c8.o).mono HB.o.size,HB.o.trans ((a2.o).mono HB.o.size)⟩
    ·have t2:(kindC cb !=0)= true:=by simpa using hb0
     have a8:Hid (R= Q.filter nzC ++ [cb]):=I (by rw[b4.o,if_neg (by unfold nzC;rw[t1];decide),if_pos (by unfold nzC;exact t2)];simp);clear hb0;have N:=I (c8.o.below (zc wr (.cells ⟨cb.cs⟩ 47)));have X:Hid (∀ i u,(enc10 cb)[i]?= some u->(wr.alloc (.cells ⟨cb.cs⟩ 47)).cell? ⟨wr.heap.size,i,none⟩= some u):=I (z0r wr cb.cs 47);have K:=I (a2.o.alloc a2.o.size (.cells ⟨cb.cs⟩ 47));have a0:Hid ((Q.filter nzC).length+1<=maxLen):=I (by have:=O.o;unfold maxLen;omega);have a1:Hid (((Q.filter nzC).length+1) *160<=140737488355328):=I (by have:=O.o;omega);have C:=I cb.len;go_wp2_with (first|((with_reducible refine za tyK47 _ rfl ?_ d4.o rfl C.o ?_);exact wA rfl)|((with_reducible refine z0z 45 _ rfl ?_ 47 j0 _ cb.cs ?_ Tryz.underlying45 a4.o a6.o ?_ ?_ ?_ ?_);(exact wA rfl);rfl;rw[C.o];exact a7.o;rw[C.o];decide;rw[C.o];decide)|(at_builtin;(refine z4a rfl _ _ 45 rfl W.heap.size 47 j0 _ 10 160 enc10 Tryz.underlying45 a4.o a6.o a7.o b5.o rfl (by decide) z2j _ _ rfl N.o wr.heap.size 1 cb a9.o.2 rfl X.o a0.o a1.o K.o.size ?_;intro v6 w6 G hg;have a5:=I G;have Y:=I hg;clear G hg)));have a3:=I (z2G K.o K.o.size N.o (Nat.le_refl _) Y.o);clear N X K a0 a1 C Y;go_ret;exact⟨_,rfl,by rw[a8.o];exact(a5.o).mono HB.o.size,HB.o.trans ((a3.o).mono HB.o.size)⟩
   ·have t1:(kindC ce !=0)= true:=by simpa using he0
    clear he0;have N:=I (c8.o.below (zc wr (.cells ⟨ce.cs⟩ 47)));have X:Hid (∀ i u,(enc10 ce)[i]?= some u->(wr.alloc (.cells ⟨ce.cs⟩ 47)).cell? ⟨wr.heap.size,i,none⟩= some u):=I (z0r wr ce.cs 47);have K:=I (a2.o.alloc a2.o.size (.cells ⟨ce.cs⟩ 47));have a0:Hid ((Q.filter nzC).length+1<=maxLen):=I (by have:=O.o;unfold maxLen;omega);have a1:Hid (((Q.filter nzC).length+1) *160<=140737488355328):=I (by have:=O.o;omega);have C:=I ce.len;go_upto_region 9 with (first|((with_reducible refine za tyK47 _ rfl ?_ d5.o rfl C.o ?_);exact wA rfl)|((with_reducible refine z0z 45 _ rfl ?_ 47 j0 _ ce.cs ?_ Tryz.underlying45 a4.o a6.o ?_ ?_ ?_ ?_);(exact wA rfl);rfl;rw[C.o];exact a7.o;rw[C.o];decide;rw[C.o];decide)|(at_builtin;(refine z4a rfl _ _ 45 rfl W.heap.size 47 j0 _ 10 160 enc10 Tryz.underlying45 a4.o a6.o a7.o b5.o rfl (by decide) z2j _ _ rfl N.o wr.heap.size 1 ce c4.o.2 rfl X.o a0.o a1.o K.o.size ?_;intro v6 w6 G hg;have a5:=I G;have Y:=I hg;clear G hg)));have a3:=I (z2G K.o K.o.size N.o (Nat.le_refl _) Y.o);clear N X K a0 a1 C Y;have d6:=a5;have b3:=a3;clear a5 a3;have b9:=I (zb c6.o.2.2 b3.o d1.o);have g3:w6.cell? ⟨p1,14,none⟩= some (.int .i64 (kindC cb)):=by have:=b9.o 0 _ a9.o.1;simpa using this
    have b8:=O;clear O;have O:Hid ((Q.filter nzC ++ [ce]).length<=41):=I (by rw[List.length_append];have:=b8.o;simp;omega);clear de db b8;by_cases hb0:kindC cb= 0
    ·have t2:(kindC cb !=0)= false:=by rw[hb0];rfl
     have a8:Hid (R= Q.filter nzC ++ [ce]):=I (by rw[b4.o,if_pos (by unfold nzC;exact t1),if_neg (by unfold nzC;rw[t2];decide)];simp);clear hb0;generalize kindC cb= kb at*;go_wp2;go_ret;exact⟨_,rfl,by rw[a8.o];exact(d6.o).mono HB.o.size,HB.o.trans ((b3.o).mono HB.o.size)⟩
    ·have t2:(kindC cb !=0)= true:=by simpa using hb0
     have a8:Hid (R= Q.filter nzC ++ [ce] ++ [cb]):=I (by rw[b4.o,if_pos (by unfold nzC;exact t1),if_pos (by unfold nzC;exact t2)];simp);clear hb0;have N:=I (d6.o.below (zc w6 (.cells ⟨cb.cs⟩ 47)));have X:Hid (∀ i u,(enc10 cb)[i]?= some u->(w6.alloc (.cells ⟨cb.cs⟩ 47)).cell? ⟨w6.heap.size,i,none⟩= some u):=I (z0r w6 cb.cs 47);have K:=I (b3.o.alloc b3.o.size (.cells ⟨cb.cs⟩ 47));have a0:Hid ((Q.filter nzC ++ [ce]).length+1<=maxLen):=I (by have:=O.o;unfold maxLen;omega);have a1:Hid (((Q.filter nzC ++ [ce]).length+1) *160<=140737488355328):=I (by have:=O.o;omega);have C:=I cb.len;go_wp2_with (first|((with_reducible refine za tyK47 _ rfl ?_ b9.o rfl C.o ?_);exact wA rfl)|((with_reducible refine z0z 45 _ rfl ?_ 47 j0 _ cb.cs ?_ Tryz.underlying45 a4.o a6.o ?_ ?_ ?_ ?_);(exact wA rfl);rfl;rw[C.o];exact a7.o;rw[C.o];decide;rw[C.o];decide)|(at_builtin;(refine z4a rfl _ _ 45 rfl W.heap.size 47 j0 _ 10 160 enc10 Tryz.underlying45 a4.o a6.o a7.o b5.o rfl (by decide) z2j _ _ rfl N.o w6.heap.size 1 cb a9.o.2 rfl X.o a0.o a1.o K.o.size ?_;intro v6 w6 G hg;have a5:=I G;have Y:=I hg;clear G hg)));have a3:=I (z2G K.o K.o.size N.o (Nat.le_refl _) Y.o);clear N X K a0 a1 C Y;go_ret;exact⟨_,rfl,by rw[a8.o];exact(a5.o).mono HB.o.size,HB.o.trans ((a3.o).mono HB.o.size)⟩
end
end Go.Proofs.YtpmjcbjdcjjplaaGreatDoor
