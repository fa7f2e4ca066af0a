/- Parts of a proof: Walk, SmallV, ECnt, IndexV, Build1, Order5, Par2, Par3, Prim, ParL, Tree10, OrdP, Edges, Edges3, OutW. -/
import Derived.Deep.DeepCutAuto
import Derived.StillTailTactics
import Derived.Test.YtpmjcbjdcjjplaaGreatDoorPackE4
import Derived.Test.YtpmjcbjdcjjplaaGreatDoorPackE7
set_option maxHeartbeats 8000000
set_option maxRecDepth 100000
set_option linter.unusedVariables false
set_option linter.unusedSimpArgs false
namespace Go.Proofs.YtpmjcbjdcjjplaaGreatDoor
section
open Go.RowKit
def z6y (w:World) (e:Ending) (w':World):Prop:=∃ n:Int,e= .returned (.int .i64 n)/\Below w.heap.size w w'
def z5e (w:World) (e:Ending) (w':World):Prop:=∃ b:Bool,e= .returned (.bool b)/\Below w.heap.size w w'
theorem zA (w:World) (cs:Array Value) (T:TypeId) (i:Nat):(w.alloc (.cells cs T)).cell? ⟨w.heap.size,i,none⟩= cs[i]?:=
 cell_of_row _ w.heap.size i cs T (0,0) (heap_alloc_new w _)
theorem zG (w:World) (cs:List Value) (T:TypeId):(w.alloc (.cells ⟨cs⟩ T)).rangeAt w.heap.size 0 cs:=fun j v hv=>by
 rw[Nat.zero_add,zA];simpa using hv
theorem z0l (w:World) (cs:List Value) (T:TypeId):∀ j v,cs[j]?= some v->(w.alloc (.cells ⟨cs⟩ T)).cell? ⟨w.heap.size,j,none⟩= some v:=fun j v hv=>by
 rw[zA];simpa using hv
theorem zc (w:World) (o:Obj):Below w.heap.size w (w.alloc o):=(Below.refl w.heap.size w).alloc (Nat.le_refl _) o
theorem zE (w:World) (o:Obj):w.heap.size <(w.alloc o).heap.size:=by simp
theorem z3s {B:Nat} {u w:World} (h:Below B u w) {b:Nat} (hb:B<=b) (vs:List Value):∀ o,Below B u (w.setCells b o vs):=by
 induction vs generalizing w with
 |nil=>intro o;exact h
 |cons v vs ih=>intro o;exact ih (w:=w.setCell ⟨b,o,none⟩ v) (h.setCell hb v) (o+1)
theorem z7F (b:Nat) (vs:List Value):∀ (o:Nat) (w:World),(w.setCells b o vs).heap.size= w.heap.size:=by
 induction vs with
 |nil=>intro o w;rfl
 |cons v vs ih=>intro o w;exact(ih (o+1) (w.setCell ⟨b,o,none⟩ v)).trans (by simp[World.setCell])
theorem z2o (w:World) (cs:Array Value) (T:TypeId) (i:Nat):(w.alloc (.cells cs T)).frozen? ⟨w.heap.size,i,none⟩= false:=by
 have h:=heap_alloc_new w (.cells cs T);unfold World.frozen?;rw[h];simp
theorem z7M (w:World) (z:Array Value) (T:TypeId):(w.alloc (.cells z T)).there w.heap.size 0 z.size:=fun j hj=>by
 rw[Nat.zero_add,zA,z2o]
 exact⟨by rw[Array.getElem?_eq_getElem hj];rfl,rfl⟩
def Tag (w:World) (b:Nat) (T:TypeId):Prop:=∃ c,w.heap[b]?= some (.cells c T (0,0))
theorem Tag.set {w:World} {b:Nat} {T:TypeId} (h:Tag w b T) (p:Addr) (v:Value):Tag (w.setCell p v) b T:=by
 obtain⟨c,hc⟩:=h;unfold World.setCell Tag;simp only[Array.getElem?_modify,hc];split
 ·exact⟨_,rfl⟩
 ·exact⟨_,rfl⟩
theorem Tag.sets {b:Nat} {T:TypeId} (q:Nat) (vs:List Value):∀ (o:Nat) {w:World},Tag w b T->Tag (w.setCells q o vs) b T:=by
 induction vs with
 |nil=>intro o w h;exact h
 |cons v vs ih=>intro o w h;exact ih (o+1) (h.set ⟨q,o,none⟩ v)
theorem OwnSl.apart {α:Type} {T T':TypeId} {k nb base:Nat} {enc:α->List Value} {w:World} {v:Value} {l:List α} (h:OwnSl T k enc w base v l) (ht:Tag w nb T') (hne:T≠T'):some nb≠v.ownBlock:=by
 intro C;obtain⟨c,N⟩:=ht;rcases h.2 with ⟨rfl,_⟩|⟨g,G,K,rfl,_,A,_⟩
 ·cases C
 ·have:nb= g:=by simpa [Value.ownBlock] using C
  subst this;rw[N] at A;injection A with A;injection A with _ A _;exact hne A.symm
structure Boxed (T:TypeId) (w W:World) (cs:List Value):Prop where
 tag:Tag W w.heap.size T
 below:Below w.heap.size w W
 range:W.rangeAt w.heap.size 0 cs
 size:w.heap.size < W.heap.size
theorem z9k (w:World) (z:Array Value) (T:TypeId) (cs:List Value) (h:cs.length= z.size):Boxed T w ((w.alloc (.cells z T)).setCells w.heap.size 0 cs) cs:=
 ⟨Tag.sets _ _ _ ⟨z,heap_alloc_new w _⟩,z3s (zc w _) (Nat.le_refl _) cs 0,World.rangeAt_setCells_same _ _ _ _ (by rw[h];exact z7M w z T),by rw[z7F];simp⟩
section
variable {P:Program} {ops:Array Oper} {rest:List Oper} {o:Oper} {a:Act} {w:World} {Q:Exit->Act->World->Prop}
theorem z1i (T:TypeId) (x y:Operand) (ho:o.op= .store T x y) (hw:Region.wanted o (yielded ops a.tmps)= true) (w0:World) (z:Array Value) (cs:List Value) (hwld:w= w0.alloc (.cells z T)) (hz:cs.length= z.size)
  (hx:a.eval x= .pointer (some ⟨w0.heap.size,0,none⟩)) (hy:a.eval y= .agg cs.toArray) (hi:(P.info? T).map (·.size)= some cs.length) (h1:∀ v∈cs,v.oneCell'= true)
  (h:∀ Z,Boxed T w0 Z cs->wpList P ops Q rest (a.put o.dst undef) Z):wpList P ops Q (o::rest) a w:=by
 subst hwld;exact z4z T x y ho hw w0.heap.size 0 cs hx hy (by rw[hz];exact z7M w0 z T) hi h1 (h _ (z9k w0 z T cs hz))
theorem zM {P:Program} {ops:Array Oper} {rest:List Oper} {o:Oper} {a:Act} {w:World} {Q:Exit->Act->World->Prop} {T:TypeId} {n:Nat} (k:TypK0 P T n) (x y:Operand) (ho:o.op= .store T x y) (hw:Region.wanted o (yielded ops a.tmps)= true) (w0:World) {z:Array Value} {cs:List Value} (hl:cs.length= n) (h1:∀ v∈cs,v.oneCell'= true) (hwld:w= w0.alloc (.cells z T)) (hz:z.size= n) (hx:a.eval x= .pointer (some ⟨w0.heap.size,0,none⟩)) (hy:a.eval y= .agg cs.toArray) (h:∀ Z,Go.RowKit.Hid (Boxed T w0 Z cs)->wpList P ops Q rest (a.put o.dst undef) Z):wpList P ops Q (o::rest) a w:=z1i T x y ho hw w0 z cs hwld (hl.trans hz.symm) hx hy (by rw[hl];exact k.i) h1 fun Z p=>h Z (I p)
end
theorem Boxed.cell {T:TypeId} {w W:World} {cs:List Value} (h:Boxed T w W cs) (j:Nat) {v:Value} (hv:cs[j]?= some v):W.cell? ⟨w.heap.size,j,none⟩= some v:=by
 have:=h.range j v hv;rwa [Nat.zero_add] at this
theorem Boxed.cell' {T:TypeId} {w W Z:World} {cs:List Value} (h:Boxed T w W cs) (hb:Below W.heap.size W Z) (j:Nat) {v:Value} (hv:cs[j]?= some v):Z.cell? ⟨w.heap.size,j,none⟩= some v:=
 (hb.cell (p:=⟨w.heap.size,j,none⟩) h.size).trans (h.cell j hv)
theorem Boxed.sub {T:TypeId} {w W Z:World} {cs:List Value} (h:Boxed T w W cs) (hb:Below W.heap.size W Z) (p q r:List Value) (hc:cs= p ++ q ++ r) (k:Nat) (hk:k= p.length):Z.rangeAt w.heap.size k q:=fun j v hv=>by
 subst hk
 have:=h.cell' hb (p.length+j) (v:=v) (by rw[hc,List.append_assoc,List.getElem?_append_right (by omega),show p.length+j - p.length= j by omega,List.getElem?_append_left (List.getElem?_eq_some_iff.1 hv).1];exact hv)
 exact this
theorem zcN {w:World} {b o:Nat} {p cs q:List Value} (h:w.rangeAt b o (p ++ cs ++ q)) (k:Nat) (hk:k= o+p.length):w.rangeAt b k cs:=fun j v hv=>by
 subst hk
 have:=h (p.length+j) v (by rw[List.append_assoc,List.getElem?_append_right (by omega),show p.length+j - p.length= j by omega,List.getElem?_append_left (List.getElem?_eq_some_iff.1 hv).1];exact hv)
 rw[Nat.add_assoc];exact this
theorem z0C {w:World} {b o:Nat} {cs:List Value} (h:w.rangeAt b o cs) (j:Nat) {v:Value} (hv:cs[j]?= some v):w.cell? ⟨b,o+j,none⟩= some v:=h j v hv
end
section
open Go.RowKit
def z5f (w:World) (e:Ending) (w':World):Prop:=∃ n:Int,0<=n/\n<=500/\e= .returned (.int .i64 n)/\Below w.heap.size w w'
theorem zh0:∀ (x:VT) (far:Nat) (cs:List Value) (w:World),far<=40->ValAt w w.heap.size cs x->Calls Tryz.prog 28 #[.agg ⟨cs⟩,.int .i64 far] w (z6y w):=by
 intro x
 induction x using VT.ind with
 |h k n f s ns its ih=>
  intro far cs w b2 hv;obtain⟨vn,vi,rfl,_,_,_,_,_,a6,hi⟩:=hv.inv;obtain⟨_,A,c,rfl,hA⟩:=hi;have HA:=I hA;have IH:=I ih;unfold maxLen at a6;clear hA hv ih;go_enter Tryz.func28,Tryz.ntmps28;go_upto_region 1 with (fail);have N:=zc w (.cells ⟨[.int .i64 k,.int .i64 n,.float .f64 f,.string s,vn,.slice A its.length c]⟩ 39);have Y:=zE w (.cells ⟨[.int .i64 k,.int .i64 n,.float .f64 f,.string s,vn,.slice A its.length c]⟩ 39);have c5:=zA w ⟨[.int .i64 k,.int .i64 n,.float .f64 f,.string s,vn,.slice A its.length c]⟩ 39 5;generalize w.alloc (.cells ⟨[.int .i64 k,.int .i64 n,.float .f64 f,.string s,vn,.slice A its.length c]⟩ 39)= W at*;have HB:=I N;have C5:=I c5;have a4:=I Y;clear N c5 Y;go_wp2;go_loopg [5,6] its.length (fun g m i wr=>∃ (j:Nat) (x:Int),j+g= its.length/\i= .int .i64 j/\m= .int .i64 x/\Below W.heap.size W wr);case atStart=>exact⟨0,0,by omega,rfl,rfl,Below.refl _ _⟩
  case round=>
   obtain⟨j,x,hj,rfl,rfl,K⟩:=hrel;have C:=I K;have d5:=(K.cell (p:=⟨w.heap.size,5,none⟩) a4.o).trans C5.o;clear K;simp only[List.getElem?_toArray,List.getElem?_cons_succ,List.getElem?_cons_zero] at d5;cases gk with
   |zero=>
    have c4: ¬ ((j:Int) <(its.length:Int)):=by omega
    go_wp2;go_ret;exact⟨_,rfl,(beT HB.o C.o)⟩
   |succ g=>
    have c6:(j:Int) <(its.length:Int):=by omega
    by_cases h0:far= 0
    ·subst h0
     go_wp2;go_ret;exact⟨_,rfl,(beT HB.o C.o)⟩
    ·have b3:(0:Int) <(far:Int):=by omega
     have c7:w.heap.size<=wr.heap.size:=Nat.le_trans HB.o.size C.o.size;obtain⟨y,hy⟩:∃ y,its[j]?= some y:=⟨_,List.getElem?_eq_getElem (by omega)⟩;obtain⟨b,o,rfl,a5,hc⟩:=HA.o (by omega);obtain⟨cs,O,hr,hR⟩:=hc j y hy;have G:=(beT HB.o C.o);have HR:=I (za hr G a5);have HC:=I (IH.o y (List.mem_of_getElem? hy) (far - 1) cs wr (by omega) ((hR.under G).more G.size));have a3:=I O;have X:((far - 1:Nat):Int)=(far:Int) - 1:=by omega
     clear hc hr hR G hy O h0;rw[X] at HC;clear X;go_wp2_with (first|(with_reducible refine z0I 39 _ rfl ?hw b (o+j*6) cs _ rfl HR.o Tryz.underlying39 rfl ?hi ?_;(case hw=>exact wA rfl);(case hi=>rw[a3.o];kernel_rfl))|(go_at_call 28;refine HC.o.mono ?_;rintro e w' ⟨z,rfl,K⟩;have a2:=I K;clear K));all_goals
      go_roundg g;case measure=>omega
      case rel=>exact⟨j+1,_,by omega,by go_num,rfl,(beT C.o a2.o)⟩
theorem zgZ:∀ (x:VT) (m:Int) (cs:List Value) (w:World),0<=m->m < 500->ValAt w w.heap.size cs x->Calls Tryz.prog 63 #[.agg ⟨cs⟩,.int .i64 m] w (z5f w):=by
 intro x
 induction x using VT.ind with
 |h k n f s ns its ih=>
  intro m cs w c6 c7 hv;obtain⟨vn,vi,rfl,_,_,_,_,_,a5,hi⟩:=hv.inv;obtain⟨_,A,c,rfl,hA⟩:=hi;have HA:=I hA;have IH:=I ih;unfold maxLen at a5;clear hA hv ih;go_enter Tryz.func63,Tryz.ntmps63;go_upto_region 1 with (fail);have O:=zc w (.cells ⟨[.int .i64 k,.int .i64 n,.float .f64 f,.string s,vn,.slice A its.length c]⟩ 39);have K:=zE w (.cells ⟨[.int .i64 k,.int .i64 n,.float .f64 f,.string s,vn,.slice A its.length c]⟩ 39);have c5:=zA w ⟨[.int .i64 k,.int .i64 n,.float .f64 f,.string s,vn,.slice A its.length c]⟩ 39 5;generalize w.alloc (.cells ⟨[.int .i64 k,.int .i64 n,.float .f64 f,.string s,vn,.slice A its.length c]⟩ 39)= W at*;have Y:=I O;have C5:=I c5;have a3:=I K;clear O c5 K;go_wp2;go_loopg [1,5] its.length (fun g u i wr=>∃ (j:Nat) (x:Int),j+g= its.length/\i= .int .i64 j/\u= .int .i64 x/\0<=x/\x<=500/\Below W.heap.size W wr);case atStart=>exact⟨0,m+1,by omega,rfl,rfl,by omega,by omega,Below.refl _ _⟩
  case round=>
   obtain⟨j,x,hj,rfl,rfl,a6,c8,N⟩:=hrel;have C:=I N;have d5:=(N.cell (p:=⟨w.heap.size,5,none⟩) a3.o).trans C5.o;clear N;simp only[List.getElem?_toArray,List.getElem?_cons_succ,List.getElem?_cons_zero] at d5;cases gk with
   |zero=>
    have b9: ¬ ((j:Int) <(its.length:Int)):=by omega
    go_wp2;all_goals
     go_ret;exact⟨_,by omega,by omega,rfl,(beT Y.o C.o)⟩
   |succ g=>
    have c4:(j:Int) <(its.length:Int):=by omega
    by_cases h0:x < 500
    ·have c9:w.heap.size<=wr.heap.size:=Nat.le_trans Y.o.size C.o.size
     obtain⟨y,hy⟩:∃ y,its[j]?= some y:=⟨_,List.getElem?_eq_getElem (by omega)⟩;obtain⟨b,o,rfl,a4,hc⟩:=HA.o (by omega);obtain⟨cs,X,hr,hR⟩:=hc j y hy;have G:=(beT Y.o C.o);have HR:=I (za hr G a4);have HC:=I (IH.o y (List.mem_of_getElem? hy) x cs wr a6 h0 ((hR.under G).more G.size));have a2:=I X;clear hc hr hR G hy X;go_wp2_with (first|(with_reducible refine z0I 39 _ rfl ?hw b (o+j*6) cs _ rfl HR.o Tryz.underlying39 rfl ?hi ?_;(case hw=>exact wA rfl);(case hi=>rw[a2.o];kernel_rfl))|(go_at_call 63;refine HC.o.mono ?_;rintro e w' ⟨z,K,a8,rfl,N⟩;have a1:=I N;clear N));go_roundg g;case measure=>omega
     case rel=>exact⟨j+1,_,by omega,by go_num,rfl,K,a8,(beT C.o a1.o)⟩
    ·go_wp2
     all_goals
      go_ret;exact⟨_,by omega,by omega,rfl,(beT Y.o C.o)⟩
theorem vlen {w:World} {B:Nat} {cs:List Value} {x:VT} (h:ValAt w B cs x):cs.length= 6:=by
 cases h;rfl
theorem zh2 (x:VT) (cs:List Value) (w:World) (hv:ValAt w w.heap.size cs x):Calls Tryz.prog 29 #[.agg ⟨cs⟩] w (z5f w):=by
 have C:=I (vlen hv);have Y:=I hv;clear hv;go_enter Tryz.func29,Tryz.ntmps29;go_upto_region 1 with (fail);have g:=I (zc w (.cells ⟨cs⟩ 39));have X:=I (zG w cs 39);generalize w.alloc (.cells ⟨cs⟩ 39)= W at*;have O:=I (zgZ x 0 cs W (by omega) (by omega) ((Y.o.under g.o).more g.o.size));go_wp2_with (first|(with_reducible refine z0I 39 _ rfl ?hw w.heap.size 0 cs _ rfl X.o Tryz.underlying39 rfl ?hi ?_;(case hw=>exact wA rfl);(case hi=>rw[C.o];kernel_rfl))|(go_at_call 63;refine O.o.mono ?_;rintro e w' ⟨z,G,K,rfl,N⟩;have A:=I N;clear N));go_ret;exact⟨z,G,K,rfl,(beT g.o A.o)⟩
theorem zdJ (x:VT) (cs:List Value) (w:World) (hv:ValAt w w.heap.size cs x):Calls Tryz.prog 9 #[.agg ⟨cs⟩] w (z5e w):=by
 have C:=I (vlen hv);have HV:=I hv;clear hv;go_enter Tryz.func9,Tryz.ntmps9;go_upto_region 1 with (fail);have G:=I (zc w (.cells ⟨cs⟩ 39));have HR:=I (zG w cs 39);have X:=I (zE w (.cells ⟨cs⟩ 39));generalize w.alloc (.cells ⟨cs⟩ 39)= W at*;have Y:=I (zh0 x 40 cs W (by omega) ((HV.o.under G.o).more G.o.size));go_wp2_with (first|(with_reducible refine z0I 39 _ rfl ?hw w.heap.size 0 cs _ rfl HR.o Tryz.underlying39 rfl ?hi ?_;(case hw=>exact wA rfl);(case hi=>rw[C.o];kernel_rfl))|(go_at_call 28;fail));refine Y.o.mono ?_;rintro e w2 ⟨z,rfl,A⟩;have g:=I (beT G.o A);have O:=I (za HR.o A X.o);have N:=I (zh2 x cs w2 ((HV.o.under g.o).more g.o.size));clear A Y;by_cases hz:z<=30
 ·go_wp2_with (first|(with_reducible refine z0I 39 _ rfl ?hw w.heap.size 0 cs _ rfl O.o Tryz.underlying39 rfl ?hi ?_;(case hw=>exact wA rfl);(case hi=>rw[C.o];kernel_rfl))|(go_at_call 29;refine N.o.mono ?_;rintro e w' ⟨y,a2,a3,rfl,A⟩;have K:=I A;clear A))
  all_goals
   go_ret;exact⟨_,rfl,(beT g.o K.o)⟩
 ·go_wp2
  all_goals
   go_ret;exact⟨_,rfl,g.o⟩
end
section
open Go Go.RowKit
mutual
def cntE:ET->Nat->Nat
 | .mk _ _ _ _ its,n=>cntEL its (n+1)
def cntEL:List ET->Nat->Nat
 |[],n=>n
 |a::l,n=>if 500<=n then n else cntEL l (cntE a n)
end
theorem z87:∀ (l:List ET) (n:Nat),(∀ x∈l,∀ m,m < 500->cntE x m<=500)->n<=500->cntEL l n<=500
 |[],n,_,h=>by rw[cntEL];exact h
 |a::l,n,h,hn=>by
  rw[cntEL]
  by_cases h5:500<=n
  ·rw[if_pos h5];exact hn
  ·rw[if_neg h5];exact z87 l _ (fun x hx=>h x (List.mem_cons_of_mem _ hx)) (h a (List.mem_cons_self ..) n (by omega))
theorem z6B (t:ET):∀ m,m < 500->cntE t m<=500:=by
 induction t using ET.ind with
 |h k s v ns its ih=>exact fun m hm=>by rw[cntE];exact z87 its _ ih (by omega)
theorem z5i {l:List ET} {k:Nat} {x:ET} (h:l[k]?= some x):l.drop k= x::l.drop (k+1):=by
 obtain⟨h1,h2⟩:=List.getElem?_eq_some_iff.1 h;rw[List.drop_eq_getElem_cons h1,h2]
theorem z5C {l:List ET} {k m:Nat} {x:ET} (h:l[k]?= some x):cntEL (l.drop k) m= if 500<=m then m else cntEL (l.drop (k+1)) (cntE x m):=by
 rw[z5i h,cntEL]
theorem z79 {l:List ET} {m:Nat}:cntEL (l.drop l.length) m= m:=by
 rw[List.drop_eq_nil_of_le (Nat.le_refl _),cntEL]
theorem eslen {w:World} {B:Nat} {cs:List Value} {x:ET} (h:ExpAt w B cs x):cs.length= 10:=by
 cases h;rfl
theorem z8g:∀ (t:ET) (m:Nat) (cs:List Value) (p o:Nat) (w:World),m < 500->w.rangeAt p o cs->ExpAt w w.heap.size cs t->
  Calls Tryz.prog 109 #[.pointer (some ⟨p,o,none⟩),.int .i64 m] w fun e w'=>e= .returned (.int .i64 (cntE t m:Nat))/\w'= w:=by
 intro t
 induction t using ET.ind with
 |h k s t ns its ih=>
  intro m cs p o w hm hr hv;have IH:=I ih;obtain⟨v0,v1,v2,v3,v4,v5,vn,vi,rfl,_,_,_,_,a0,hi⟩:=hv.inv;obtain⟨_,A,c,rfl,hA⟩:=hi;unfold maxLen at a0;have HA:=I hA;have d5:=hr 9 _ rfl;have HS:=I (fun k m x=>z5C (l:=its) (k:=k) (m:=m) (x:=x));have HE:=I (fun m=>z79 (l:=its) (m:=m));have X:=I (fun x m hm=>z6B x m hm);have H0:Hid (cntEL (its.drop 0) (m+1)= cntE (.mk k s t ns its) m):=I (by rw[cntE];rfl);have b8:(m:Int) < 500:=by omega
  clear ih hA hr hv;generalize cntE (.mk k s t ns its) m= res at*;go_enter Tryz.func109,Tryz.ntmps109;go_wp2;go_loopg [1,13] its.length (fun q n x u=>∃ (j m:Nat),j+q= its.length/\x= .int .i64 j/\n= .int .i64 m/\m<=500/\u= w/\cntEL (its.drop j) m= res);case atStart=>exact⟨0,m+1,by omega,rfl,by go_num,by omega,rfl,H0.o⟩
  case round=>
   obtain⟨j,m,hj,rfl,rfl,b9,rfl,g⟩:=hrel;have HR:=I g;clear g;cases gk with
   |zero=>
    obtain rfl:j= its.length:=by omega
    have b4: ¬ ((its.length:Int) <(its.length:Int)):=by omega
    have N:=I (HR.o.symm.trans (HE.o m));go_wp2;go_ret;exact⟨by rw[N.o];rfl,rfl⟩
   |succ q=>
    have b7:(j:Int) <(its.length:Int):=by omega
    obtain⟨x,O⟩:∃ x,its[j]?= some x:=⟨_,List.getElem?_eq_getElem (by omega)⟩;obtain⟨b,o',rfl,b3,Y⟩:=HA.o (by omega);obtain⟨ks,b6,G,K⟩:=Y j x O;have N:=I (HR.o.symm.trans (HS.o j m x O));by_cases h5:500<=m
    ·have C:=I (N.o.trans (if_pos h5))
     have t1:(500:Int)<=(m:Int):=by omega
     clear Y G K O N;go_wp2;go_ret;exact⟨by rw[C.o];rfl,rfl⟩
    ·have C:=I (N.o.trans (if_neg h5))
     have t1: ¬ ((500:Int)<=(m:Int)):=by omega
     have HC:=I (IH.o x (List.mem_of_getElem? O) m ks b (o'+j*10) wr (by omega) G K);have a1:=X.o x m (by omega);clear Y G K O N h5;go_wp2_with (go_at_call 109;refine HC.o.mono ?_;rintro e z ⟨rfl,rfl⟩);go_roundg q;case measure=>omega
     case rel=>exact⟨j+1,_,by omega,by go_num,rfl,a1,rfl,C.o.symm⟩
theorem zaE (t:ET) (cs:List Value) (w:World) (hv:ExpAt w w.heap.size cs t):Calls Tryz.prog 69 #[.agg ⟨cs⟩] w fun e w'=>e= .returned (.int .i64 (cntE t 0:Nat))/\Below w.heap.size w w':=by
 have g:=I (zc w (.cells ⟨cs⟩ 47));have A:=I (z8g t 0 cs w.heap.size 0 (w.alloc (.cells ⟨cs⟩ 47)) (by decide) (zG w cs 47) ((hv.under g.o).more g.o.size));go_enter Tryz.func69,Tryz.ntmps69;go_wp2_with (go_at_call 109;refine A.o.mono ?_;rintro e z ⟨rfl,rfl⟩);go_ret;exact⟨rfl,g.o⟩
theorem z9J:∀ (t:ET) (m:Nat) (cs:List Value) (w:World),m < 500->ExpAt w w.heap.size cs t->
  Calls Tryz.prog 87 #[.agg ⟨cs⟩,.int .i64 m] w fun e w'=>e= .returned (.int .i64 (cntE t m:Nat))/\Below w.heap.size w w':=by
 intro t
 induction t using ET.ind with
 |h k s t ns its ih=>
  intro m cs w hm hv;have IH:=I ih;obtain⟨v0,v1,v2,v3,v4,v5,vn,vi,rfl,_,_,_,_,b5,hi⟩:=hv.inv;obtain⟨_,A,c,rfl,hA⟩:=hi;unfold maxLen at b5;have HA:=I hA;have HS:=I (fun k m x=>z5C (l:=its) (k:=k) (m:=m) (x:=x));have HE:=I (fun m=>z79 (l:=its) (m:=m));have a6:=I (fun x m hm=>z6B x m hm);have a4:Hid (∀ k m,500<=m->cntEL (its.drop k) m= m):=I (fun k m h=>by
   cases its.drop k with
   |nil=>rw[cntEL]
   |cons a l=>rw[cntEL,if_pos h])
  have H0:Hid (cntEL (its.drop 0) (m+1)= cntE (.mk k s t ns its) m):=I (by rw[cntE];rfl);clear ih hA hv;generalize cntE (.mk k s t ns its) m= res at*;go_enter Tryz.func87,Tryz.ntmps87;go_upto_region 1 with (fail);have X:=zc w (.cells ⟨[.int .i64 k,.string s,v0,v1,v2,v3,v4,v5,vn,.slice A its.length c]⟩ 47);have Y:=zE w (.cells ⟨[.int .i64 k,.string s,v0,v1,v2,v3,v4,v5,vn,.slice A its.length c]⟩ 47);have c5:=zA w ⟨[.int .i64 k,.string s,v0,v1,v2,v3,v4,v5,vn,.slice A its.length c]⟩ 47 9;generalize w.alloc (.cells ⟨[.int .i64 k,.string s,v0,v1,v2,v3,v4,v5,vn,.slice A its.length c]⟩ 47)= W at*;have HB:=I X;have C5:=I c5;have a9:=I Y;clear X c5 Y;have e0:(m:Int) < 500:=by omega
  go_wp2;go_loopg [1,5] its.length (fun g u i wr=>∃ (j m:Nat),j+g= its.length/\i= .int .i64 j/\u= .int .i64 m/\m<=500/\Below W.heap.size W wr/\cntEL (its.drop j) m= res);case atStart=>exact⟨0,m+1,by omega,rfl,by go_num,by omega,Below.refl _ _,H0.o⟩
  case round=>
   obtain⟨j,m,hj,rfl,rfl,e1,hb,K⟩:=hrel;have C:=I hb;have HR:=I K;have d5:=(hb.cell (p:=⟨w.heap.size,9,none⟩) a9.o).trans C5.o;clear hb K;simp only[List.getElem?_toArray,List.getElem?_cons_succ,List.getElem?_cons_zero] at d5;have c6:(m:Int)<=500:=by omega
   cases gk with
   |zero=>
    obtain rfl:j= its.length:=by omega
    have d7: ¬ ((its.length:Int) <(its.length:Int)):=by omega
    have O:=I (HR.o.symm.trans (HE.o m));go_wp2;go_ret;exact⟨by rw[O.o];go_num,(beT HB.o C.o)⟩
   |succ g=>
    have d9:(j:Int) <(its.length:Int):=by omega
    by_cases h0:m < 500
    ·have e2:w.heap.size<=wr.heap.size:=Nat.le_trans HB.o.size C.o.size
     obtain⟨y,hy⟩:∃ y,its[j]?= some y:=⟨_,List.getElem?_eq_getElem (by omega)⟩;obtain⟨b,o,rfl,b3,hc⟩:=HA.o (by omega);obtain⟨cs,b4,hr,hR⟩:=hc j y hy;have G:=(beT HB.o C.o);have O:=I (HR.o.symm.trans (HS.o j m y hy));have b0:=I (O.o.trans (if_neg (by omega)));have a8:=I (za hr G b3);have HC:=I (IH.o y (List.mem_of_getElem? hy) m cs wr h0 ((hR.under G).more G.size));have a5:=I b4;have b6:=a6.o y m h0;have b1:(m:Int) < 500:=by omega
     clear hc hr hR G hy O h0;go_wp2_with (first|((with_reducible refine z8 tyK47 _ rfl ?_ a8.o rfl a5.o ?_);exact wA rfl)|(go_at_call 87;refine zg HC.o ?_;intro w' a3));go_roundg g;case measure=>omega
     case rel=>exact⟨j+1,_,by omega,by go_num,rfl,b6,(beT C.o a3.o),b0.o.symm⟩
    ·have O:=I (HR.o.symm.trans (a4.o j m (by omega)))
     have b1: ¬ ((m:Int) < 500):=by omega
     have N:m= 500:=by omega
     go_wp2;all_goals
      go_ret;exact⟨by rw[O.o,N];rfl,(beT HB.o C.o)⟩
theorem z9K (t:ET) (cs:List Value) (w:World) (hv:ExpAt w w.heap.size cs t):Calls Tryz.prog 56 #[.agg ⟨cs⟩] w fun e w'=>e= .returned (.int .i64 (cntE t 0:Nat))/\Below w.heap.size w w':=by
 have C:=I (eslen hv);have N:=I hv;clear hv;go_enter Tryz.func56,Tryz.ntmps56;go_upto_region 1 with (fail);have g:=I (zc w (.cells ⟨cs⟩ 47));have K:=I (zG w cs 47);generalize w.alloc (.cells ⟨cs⟩ 47)= W at*;have G:=I (z9J t 0 cs W (by omega) ((N.o.under g.o).more g.o.size));go_wp2_with (first|((with_reducible refine z8 tyK47 _ rfl ?_ K.o rfl C.o ?_);exact wA rfl)|(go_at_call 87;refine zg G.o ?_;intro w' A));go_ret;exact⟨rfl,(beT g.o A.o)⟩
end
section
open Go Go.RowKit
def z29 (s:ByteArray) (x:VarT):Bool:=x.name.toList ==s.toList
def findV:List VarT->ByteArray->Int
 |[],_=> -1
 |x::l,s=>if z29 s x= true then 0 else if findV l s= -1 then -1 else findV l s+1
theorem z5k {s:ByteArray}:∀ {l:List VarT},(∀ (k:Nat) x,l[k]?= some x->z29 s x= false)->findV l s= -1
 |[],_=>rfl
 |x::l,h=>by
  unfold findV
  rw[if_neg (by rw[h 0 x rfl];decide),z5k fun k y hy=>h (k+1) y hy,if_pos rfl]
theorem z4b {s:ByteArray}:∀ {l:List VarT} (j:Nat) (x:VarT),l[j]?= some x->z29 s x= true->(∀ k,k < j->∀ y,l[k]?= some y->z29 s y= false)->findV l s=(j:Int)
 |[],j,x,h,_,_=>by simp at h
 |a::l,0,x,h,hx,_=>by
  obtain rfl:a= x:=by simpa using h
  unfold findV
  rw[if_pos hx];rfl
 |a::l,j+1,x,h,hx,hno=>by
  have g:=z4b (l:=l) j x (by simpa using h) hx fun k hk y hy=>hno (k+1) (by omega) y (by simpa using hy)
  unfold findV
  rw[if_neg (by rw[hno 0 (by omega) a rfl];decide),g,if_neg (by omega)]
  omega
theorem z9b {w:World} {B:Nat} {ks:List Value} {x:VarT} (h:VarAt w B ks x):∃ a b c d e f g i j,ks=[.string x.name,.int .i64 x.label,a,b,c,d,e,f,g,i,j]:=by
 obtain⟨ct,ci,rfl,h3,h6,_,_⟩:=h.ex
 match ct,ci,h3,h6 with
 |[a,b,c],[d,e,f,g,i,j],_,_=>exact⟨a,b,c,d,e,f,g,i,j,rfl⟩
end
section
open Go
theorem z7i:∀ (ks pre rest:List Value),rest.length= ks.length->
  (ks.zipIdx pre.length).foldl (fun(cs:Array Value) (p:Value × Nat)=>cs.setIfInBounds (0+p.2) p.1) (pre ++ rest).toArray=(pre ++ ks).toArray
 |[],pre,rest,h=>by
  rw[List.eq_nil_of_length_eq_zero h];rfl
 |k::ks,pre,rest,h=>by
  cases rest with
  |nil=>cases h
  |cons r rest=>
   rw[List.zipIdx_cons,List.foldl_cons]
   have h1:(pre ++ r::rest).toArray.setIfInBounds (0+pre.length) k=((pre ++ [k]) ++ rest).toArray:=by
    rw[Nat.zero_add,List.setIfInBounds_toArray]
    congr 1
    simp
   show List.foldl _ ((pre ++ r::rest).toArray.setIfInBounds (0+pre.length) k) _= _;rw[h1];have:=z7i ks (pre ++ [k]) rest (by simpa using h);rw[List.length_append] at this;rw[List.append_assoc] at this ⊢;rw[List.append_assoc] at this;exact this
theorem z8n (size:Nat) (ks:List Value) (cells:Array Value) (h1:ks.length= size) (h2:cells.size= size):Instr.fill (fun i=>some (i*size,size)) cells [(0,.agg ks.toArray)]= some ks.toArray:=by
 unfold Instr.fill;simp only[Nat.zero_mul];have g:(Value.agg ks.toArray).cells= ks.toArray:=rfl;rw[g];rw[if_neg (by simp[h1,h2])];unfold Instr.fill
 congr 1
 have:=z7i ks [] cells.toList (by simpa [h1] using h2)
 simpa using this
section
variable {P:Program}
theorem z6k (w:World) (t e:TypeId) (i:TypeInfo) (z:Value) (ks:List Value) (ht:P.underlying t= some (.slice e)) (hi:P.info? e= some i) (hz:i.zero= some z) (hsz:i.size= ks.length) (h0:0 < ks.length) (hmax:ks.length<=1000):
  (Instr.buildSlice t 1 #[(0,.agg ks.toArray)]).run P w= .ok (.slice (some ⟨w.heap.size,0,none⟩) 1 1) (w.alloc (.cells ⟨ks⟩ e)):=by
 have C:(sizeOf e).run P w= .ok ks.length w:=by simp[sizeOf,typeInfo,hi,hsz]
 have g:(zeroValue e).run P w= .ok z w:=by simp[zeroValue,typeInfo,hi,hz]
 have A:∀ cells:Array Value,cells.size= ks.length->Instr.fill (fun i=>some (i*ks.length,ks.length)) cells [(0,.agg ks.toArray)]= some ks.toArray:=fun cells hc=>z8n ks.length ks cells rfl hc;unfold Instr.buildSlice;simp only[Sem.run_bind,run_underlying ht,Result.andThen_ok,C,Nat.one_mul];rw[if_neg (by omega),if_neg (by omega)];simp only[Sem.run_bind,Sem.run_pure,Result.andThen_ok,g];rw[A _ (by simp)];simp[newRow]
variable {ops:Array Oper} {rest:List Oper} {o:Oper} {a:Act} {w:World} {Q:Exit->Act->World->Prop}
theorem z1D (t:TypeId) (x:Operand) (ho:o.op= .buildSlice t 1 #[(0,x)]) (hw:Region.wanted o (yielded ops a.tmps)= true) (e:TypeId) (i:TypeInfo) (z:Value) (ks:List Value) (hx:a.eval x= .agg ks.toArray)
  (ht:P.underlying t= some (.slice e)) (hi:P.info? e= some i) (hz:i.zero= some z) (hsz:i.size= ks.length) (h0:0 < ks.length) (hmax:ks.length<=1000)
  (h:wpList P ops Q rest (a.put o.dst (.slice (some ⟨w.heap.size,0,none⟩) 1 1)) (w.alloc (.cells ⟨ks⟩ e))):wpList P ops Q (o::rest) a w:=by
 refine wpList_step fun K hK=> ?_;rw[if_pos hw];unfold Oper.wp execOp;have g:=z6k (P:=P) w t e i z ks ht hi hz hsz h0 hmax;simp only[ho,List.map_toArray,List.map_cons,List.map_nil,hx,Sem.run_bind,Sem.run_pure,Result.andThen_ok,g];exact hK _ _ h
end
end
section
open Go
section
variable {P:Program} {ops:Array Oper} {S:World->Prop} {Q:Exit->Act->World->Prop} {i:Nat} {r:OrdT} {a:Act} {w:World}
end
theorem z6I:∀ (ks:List Value) (n m:Nat) (pre mid post:List Value),mid.length= ks.length->n+m= pre.length->
  (ks.zipIdx m).foldl (fun(cs:Array Value) (p:Value × Nat)=>cs.setIfInBounds (n+p.2) p.1) (pre ++ mid ++ post).toArray=(pre ++ ks ++ post).toArray
 |[],n,m,pre,mid,post,h,_=>by
  rw[List.eq_nil_of_length_eq_zero h];rfl
 |k::ks,n,m,pre,mid,post,h,hn=>by
  cases mid with
  |nil=>cases h
  |cons x mid=>
   rw[List.zipIdx_cons,List.foldl_cons]
   have h1:(pre ++ x::mid ++ post).toArray.setIfInBounds (n+m) k=((pre ++ [k]) ++ mid ++ post).toArray:=by
    rw[hn,List.setIfInBounds_toArray]
    congr 1
    simp
   show List.foldl _ ((pre ++ x::mid ++ post).toArray.setIfInBounds (n+m) k) _= _;rw[h1];have:=z6I ks n (m+1) (pre ++ [k]) mid post (by simpa using h) (by rw[List.length_append,List.length_singleton];omega);rw[this]
   congr 1
   simp
theorem zew (size:Nat) (k1 k2:List Value) (cells:Array Value) (h1:k1.length= size) (h2:k2.length= size) (hc:cells.size= 2*size):
  Instr.fill (fun i=>some (i*size,size)) cells [(0,.agg k1.toArray),(1,.agg k2.toArray)]= some (k1 ++ k2).toArray:=by
 have e1:(Value.agg k1.toArray).cells= k1.toArray:=rfl;have e2:(Value.agg k2.toArray).cells= k2.toArray:=rfl;obtain⟨m1,m2,K,A,g⟩:∃ m1 m2:List Value,cells=(m1 ++ m2).toArray/\m1.length= size/\m2.length= size:=by
  refine⟨cells.toList.take size,cells.toList.drop size,by simp,?_,?_⟩
  ·rw[List.length_take,Array.length_toList];omega
  ·rw[List.length_drop,Array.length_toList];omega
 subst K;unfold Instr.fill;simp only[e1];rw[if_neg (by simp[h1,A,g])];have f1:=z6I k1 (0*size) 0 [] m1 m2 (by rw[A,h1]) (by simp);rw[List.nil_append,List.nil_append] at f1;have C:(k1.toArray.zipIdx).foldl (fun(cs:Array Value) (p:Value × Nat)=>cs.setIfInBounds (0*size+p.2) p.1) (m1 ++ m2).toArray=(k1 ++ m2).toArray:=by
  rw[← f1];simp
 rw[show(k1.toArray.zipIdx.foldl (fun cs x=>match x with|(c,j)=>cs.setIfInBounds (0*size+j) c) (m1 ++ m2).toArray)=(k1 ++ m2).toArray from C];unfold Instr.fill;simp only[e2];rw[if_neg (by simp[h1,h2,g])];have f2:=z6I k2 (1*size) 0 k1 m2 [] (by rw[g,h2]) (by rw[h1];simp);rw[List.append_nil,List.append_nil] at f2;have G:(k2.toArray.zipIdx).foldl (fun(cs:Array Value) (p:Value × Nat)=>cs.setIfInBounds (1*size+p.2) p.1) (k1 ++ m2).toArray=(k1 ++ k2).toArray:=by
  rw[← f2];simp
 rw[show(k2.toArray.zipIdx.foldl (fun cs x=>match x with|(c,j)=>cs.setIfInBounds (1*size+j) c) (k1 ++ m2).toArray)=(k1 ++ k2).toArray from G];rfl
section
variable {P:Program}
variable {o:Oper} {a:Act} {w:World}
end
end
section
open Go Go.RowKit
section
variable {P:Program} {ops:Array Oper} {rest:List Oper} {o:Oper} {a:Act} {w:World} {Q:Exit->Act->World->Prop}
def Whole (T:TypeId) (w:World) (b:Nat) (cs:List Value):Prop:=w.heap[b]?= some (.cells ⟨cs⟩ T (0,0))
theorem Whole.new (w:World) (cs:List Value) (T:TypeId):Whole T (w.alloc (.cells ⟨cs⟩ T)) w.heap.size cs:=heap_alloc_new w _
theorem Whole.range {T:TypeId} {b:Nat} {cs:List Value} (h:Whole T w b cs):w.rangeAt b 0 cs:=by
 intro j v hv;rw[Nat.zero_add];rw[cell_of_row w b j ⟨cs⟩ T _ h]
 simpa using hv
theorem Whole.lt {T:TypeId} {b:Nat} {cs:List Value} (h:Whole T w b cs):b < w.heap.size:=by
 rcases Nat.lt_or_ge b w.heap.size with h1|h1
 ·exact h1
 ·unfold Whole at h;rw[Array.getElem?_eq_none h1] at h;cases h
theorem Whole.keep {T:TypeId} {w':World} {b:Nat} {cs:List Value} (h:Whole T w b cs) (hb:w'.heap[b]?= w.heap[b]?):Whole T w' b cs:=hb.trans h
theorem Whole.there {T:TypeId} {b:Nat} {cs:List Value} (h:Whole T w b cs):w.there b 0 cs.length:=by
 intro j hj;rw[Nat.zero_add,cell_of_row w b j ⟨cs⟩ T _ h];refine⟨by simp[hj],?_⟩;unfold World.frozen?;have h2:w.heap[b]?= some (.cells ⟨cs⟩ T (0,0)):=h;simp[h2]
theorem Whole.tag {T:TypeId} {b:Nat} {cs:List Value} (h:Whole T w b cs):Tag w b T:=⟨_,h⟩
theorem z1G (b:Nat) (T:TypeId):∀ (vs pre mid:List Value) (w:World),w.heap[b]?= some (.cells ⟨pre ++ mid⟩ T (0,0))->mid.length= vs.length->(w.setCells b pre.length vs).heap[b]?= some (.cells ⟨pre ++ vs⟩ T (0,0))
 |[],pre,mid,w,h,hl=>by
  rw[List.eq_nil_of_length_eq_zero hl] at h
  exact h
 |v::vs,pre,[],w,h,hl=>by cases hl
 |v::vs,pre,m::mid,w,h,hl=>by
  have h1:(w.setCell ⟨b,pre.length,none⟩ v).heap[b]?= some (.cells ⟨(pre ++ [v]) ++ mid⟩ T (0,0)):=by
   show(w.heap.modify b _)[b]?= _;rw[Array.getElem?_modify,if_pos rfl,h];simp
  have h2:=z1G b T vs (pre ++ [v]) mid (w.setCell ⟨b,pre.length,none⟩ v) h1 (by simpa using hl);rw[List.length_append] at h2;have e:pre ++ [v] ++ vs= pre ++ v::vs:=by simp
  rw[e] at h2;exact h2
theorem z3t (b:Nat):∀ (cs:List Value) (w:World) (i:Nat),But w (w.setCells b i cs) b b
 |[],w,_=>But.refl w b b
 |v::cs,w,i=>(But.setAt w b i v).trans (z3t b cs _ (i+1))
theorem z12 (T:TypeId) (x y:Operand) (ho:o.op= .store T x y) (hn:o.dst= none) (hw:Region.wanted o (yielded ops a.tmps)= true) (b:Nat) (cs0 cs:List Value) (hb:Whole T w b cs0) (hl:cs0.length= cs.length)
  (hx:a.eval x= .pointer (some ⟨b,0,none⟩)) (hy:a.eval y= .agg cs.toArray) (hi:(P.info? T).map (·.size)= some cs.length) (h1:∀ v∈cs,v.oneCell'= true)
  (h:∀ Z,Whole T Z b cs->But w Z b b->wpList P ops Q rest a Z):wpList P ops Q (o::rest) a w:=by
 have h:=fun Z h1 h2=>(show wpList P ops Q rest (a.put o.dst undef) Z from by rw[hn];exact h Z h1 h2);refine z4z T x y ho hw b 0 cs hx hy (by rw[← hl];exact hb.there) hi h1 (h _ ?_ (z3t b cs w 0));have:=z1G b T cs [] cs0 w hb hl;exact this
theorem zi {P:Program} {ops:Array Oper} {rest:List Oper} {o:Oper} {a:Act} {w:World} {Q:Exit->Act->World->Prop} (T:TypeId) (x y:Operand) (ho:o.op= .store T x y) (hn:o.dst= none) (hw:Region.wanted o (yielded ops a.tmps)= true) {b:Nat} {cs0:List Value} (hb:Whole T w b cs0) (cs:List Value) (hl:cs0.length= cs.length) (hx:a.eval x= .pointer (some ⟨b,0,none⟩)) (hy:a.eval y= .agg cs.toArray) (hi:(P.info? T).map (·.size)= some cs.length) (h1:∀ v∈cs,v.oneCell'= true) (h:∀ Z,Go.RowKit.Hid (Whole T Z b cs)->Go.RowKit.Hid (But w Z b b)->wpList P ops Q rest a Z):wpList P ops Q (o::rest) a w:=z12 T x y ho hn hw b cs0 cs hb hl hx hy hi h1 fun Z p q=>h Z (I p) (I q)
end
end
section
open Go Go.RowKit
abbrev valC (k n:Int) (f:Nat) (s:ByteArray):List Value:=[.int .i64 k,.int .i64 n,.float .f64 f,.string s,.slice none 0 0,.slice none 0 0]
end
section
open Go Go.RowKit
section
variable {P:Program} {ops:Array Oper} {S:World->Prop} {Q:Exit->Act->World->Prop} {i:Nat} {r:List (Nat × Bool)} {o:Oper} {a:Act} {w:World}
theorem z1e (T:TypeId) (ho:o.op= .alloc T) (j:TypeInfo) (z:Value) (hi:P.info? T= some j) (hz:j.zero= some z):
  (execOp a.eval o).run P w= .ok (.value (.pointer (some ⟨w.heap.size,0,none⟩))) (w.alloc (.cells z.cells T)):=by
 have hzv:(zeroValue T).run P w= .ok z w:=by simp[zeroValue,typeInfo,hi,hz]
 unfold execOp;simp only[ho,Instr.alloc,Sem.run_bind,hzv,Result.andThen_ok];simp[newVar,newRow]
theorem z1H (d:Option Tmp) (T:TypeId) (o:Oper) (x y:Operand) (hi:ops[i]?= some o) (ho:o.op= .store T x y) (hd:o.dst= d) (hw:Region.wanted o (yielded ops a.tmps)= true) (b:Nat) (cs0 cs:List Value) (hb:Whole T w b cs0) (hl:cs0.length= cs.length)
  (hx:a.eval x= .pointer (some ⟨b,0,none⟩)) (hy:a.eval y= .agg cs.toArray) (hi2:(P.info? T).map (·.size)= some cs.length) (h1:∀ v∈cs,v.oneCell'= true)
  (h:∀ Z,Whole T Z b cs->But w Z b b->S Z/\wpOrd P ops S Q r (a.put d undef) Z):wpOrd P ops S Q ((i,false)::r) a w:=by
 subst hd;refine z4J o hi hw fun K hK=> ?_;have g:=h (w.setCells b 0 cs) (z1G b T cs [] cs0 w hb hl) (z3t b cs w 0);exact wp_store_mid T x y ho b 0 cs.toArray hx hy (by rw[List.size_toArray,← hl];exact hb.there) (by simpa using hi2) (all_oneCell_toArray h1) (by simpa using hK _ _ g.1 g.2)
end
theorem Whole.cells {T:TypeId} {w:World} {b:Nat} {cs:List Value} (h:Whole T w b cs) (k:Nat) {v:Value} (hv:cs[k]?= some v):w.cell? ⟨b,k,none⟩= some v:=by
 have:=h.range k v hv;rwa [Nat.zero_add] at this
theorem PS.under {T:TypeId} {pb tb c:Nat} {E:Int} {toks:List Tok} {w w':World} {i:Nat} {d:Int} (h:PS T pb tb c E toks w i d) (b:Nat) (hp:b≠pb) (ht:b≠tb) (hb:But w w' b b):PS T pb tb c E toks w' i d:=
 ⟨(hb.block pb h.lt.2 (Ne.symm hp) (Ne.symm hp)).trans h.blk,h.ne,⟨Nat.lt_of_lt_of_le h.lt.1 hb.size,Nat.lt_of_lt_of_le h.lt.2 hb.size⟩,fun j t hj a v hv=>(hb.cell h.lt.1 (Ne.symm ht) (Ne.symm ht)).trans (h.tok j t hj a v hv),h.len⟩
section
variable {pb tb c:Nat} {E:Int} {toks:List Tok} {w:World} {i:Nat} {d:Int}
end
end
section
open Go Go.RowKit
def KeptP (p:Nat->Prop) (w:World) (cs:List Value) (t:ET):Prop:=ExpAt (only w p) w.heap.size cs t
theorem KeptP.to {p q:Nat->Prop} {w w':World} {cs:List Value} {t:ET} (h:KeptP p w cs t) (hb:∀ b,p b->b < w.heap.size->q b/\w'.heap[b]?= w.heap[b]?) (hs:w.heap.size<=w'.heap.size):KeptP q w' cs t:=
 (ExpAt.cells h (z4H hb)).more hs
theorem KeptP.one {p:Nat->Prop} {w:World} {cs:List Value} {t:ET} (h:KeptP p w cs t):∀ v∈cs,v.oneCell'= true:=ExpAt.one h
theorem KeptP.len {p:Nat->Prop} {w:World} {cs:List Value} {t:ET} (h:KeptP p w cs t):cs.length= 10:=by
 cases t with
 |mk k s v ns its=>
  obtain⟨c0,c1,c2,c3,c4,c5,vn,vi,rfl,_⟩:=ExpAt.inv h;rfl
theorem zC (n:Int) (h:(Lit.int .i64 n).wf= true):wfI n:=h
theorem zfh (w:World) (B:Nat) (k n:Int) (f:Nat) (s:ByteArray) (hk:wfI k) (hn:wfI n) (hf:(Lit.float .f64 f).wf= true) (hs:s.size<=maxLen):ValAt w B (valC k n f s) (.mk k n f s [] []):=
 ValAt.of hk hn hf hs (SlAt.nil w B 1 _) (Nat.zero_le _) (SlAt.nil w B 6 _)
section
variable (pb tb c:Nat) (E:Int) (toks:List Tok)
variable {pb tb c E toks}
end
end
section
open Go Go.RowKit
section
variable {P:Program} {ops:Array Oper} {S:World->Prop} {Q:Exit->Act->World->Prop} {i:Nat} {r:List (Nat × Bool)} {a:Act} {w:World}
variable {t u:OrdT} {j:Nat}
theorem z3R (h1:zT P ops S Q (.act i t) a w) (h2:zT P ops S Q (.act j u) a w):zT P ops S Q (.two i j t u) a w:=⟨h1,h2⟩
theorem z0R (d:Option Tmp) (v:Value) (w':World) (o:Oper) (hi:ops[i]?= some o) (hd:o.dst= d) (hw:Region.wanted o (yielded ops a.tmps)= true)
  (hrun:(execOp a.eval o).run P w= .ok (.value v) w') (hS:S w') (h:zT P ops S Q t (a.put d v) w'):zT P ops S Q (.act i t) a w:=by
 subst hd;refine z5v o hi hw fun K hK=> ?_;unfold Oper.wp;rw[hrun];exact hK _ _ hS h
theorem z0L (d:Option Tmp) (T:TypeId) (o:Oper) (x y:Operand) (hi:ops[i]?= some o) (ho:o.op= .store T x y) (hd:o.dst= d) (hw:Region.wanted o (yielded ops a.tmps)= true) (b:Nat) (cs0 cs:List Value) (hb:Whole T w b cs0) (hl:cs0.length= cs.length)
  (hx:a.eval x= .pointer (some ⟨b,0,none⟩)) (hy:a.eval y= .agg cs.toArray) (hi2:(P.info? T).map (·.size)= some cs.length) (h1:∀ v∈cs,v.oneCell'= true)
  (h:∀ Z,Whole T Z b cs->But w Z b b->S Z/\zT P ops S Q t (a.put d undef) Z):zT P ops S Q (.act i t) a w:=by
 subst hd;refine z5v o hi hw fun K hK=> ?_;have g:=h (w.setCells b 0 cs) (z1G b T cs [] cs0 w hb hl) (z3t b cs w 0);exact wp_store_mid T x y ho b 0 cs.toArray hx hy (by rw[List.size_toArray,← hl];exact hb.there) (by simpa using hi2) (all_oneCell_toArray h1) (by simpa using hK _ _ g.1 g.2)
end
end
section
open Go
section
variable {P:Program} {ops:Array Oper} {S:World->Prop} {Q:Exit->Act->World->Prop} {i:Nat} {r:List (Nat × Bool)} {t:OrdT} {a:Act} {w:World}
theorem z4K (d:Option Tmp) (f:FuncId) {fn:Func} (hf:P.funcs[f]?= some fn) (hn:(fn.name == "runtime.NumGoroutine")= false) (hb:fn.body.isNone= false) (vals:List Value)
  (o:Oper) (args:List Operand) (ts:Array TypeId) (hi:ops[i]?= some o) (ho:o.op= .call { callee:= .value (.func f),args:=args.toArray,argTypes:=ts })
  (hd:o.dst= d) (hw:Region.wanted o (yielded ops a.tmps)= true) (hv:args.map a.eval= vals)
  (h:Calls P f vals.toArray w fun e w'=>(∃ v,e= .returned v/\S w'/\wpOrd P ops S Q r (a.put d v) w')\/∃ c,e= .panicked c/\Q (.panic c) a w'):wpOrd P ops S Q ((i,false)::r) a w:=by
 subst hd;refine z4J o hi hw fun K hK=> ?_;unfold Oper.wp;rw[show(execOp a.eval o).run P w= .ok (.enter f vals.toArray) w by rw[← hv,← List.map_toArray];exact z4a hf hn hb o args.toArray ts ho,Oper.upon_enter];refine h.mono fun e w' he=> ?_;rcases he with ⟨v,rfl,g,A⟩|⟨c,rfl,C⟩
 ·exact hK _ _ g A
 ·exact C
end
end
section
open Go.RowKit
theorem zce:(Tryz.prog.info? 62).map (fun i=>(i.zero,i.size,i.bytes))= some (some (.agg #[.int .i64 0,.int .i64 0,.int .i64 0]),3,24):=by kernel_rfl
theorem z4Y {P:Program} {e:TypeId} {z:Option Value} {s b:Nat} (h:(P.info? e).map (fun i=>(i.zero,i.size,i.bytes))= some (z,s,b)):∃ i,P.info? e= some i/\i.zero= z/\i.size= s/\i.bytes= b:=by
 cases hq:P.info? e with
 |none=>rw[hq] at h;cases h
 |some i=>
  rw[hq] at h;simp at h;exact⟨i,rfl,h.1,h.2.1,h.2.2⟩
theorem z3K {n:Nat} (h:n<=10000):n<=maxLen:=by unfold maxLen;omega
theorem z6i {n:Nat} (h:n<=10000):n*24<=140737488355328:=by omega
def z80 (w:World) (l:List EdgeT) (e:Ending) (w':World):Prop:=∃ v,e= .returned v/\OwnSl 62 3 encE w' w.heap.size v l/\Below w.heap.size w w'
theorem z48 (g:List GN) (c0 c1 c2 c3 c4 v5:Value) (w:World) (hg:GraphAt w w.heap.size v5 g) (hlen:(zH g).length<=10000):
  Calls Tryz.prog 14 #[.agg ⟨[c0,c1,c2,c3,c4,v5]⟩] w (z80 w (zH g)):=by
 obtain⟨i0,hi,d2,d3,d4⟩:=z4Y zce;have b7:=I hi;have b9:=I d2;have c5:=I d3;have c6:=I d4;obtain⟨g3,A,c,rfl,hA⟩:=hg;have HA:=I hA;have X:=I hlen;clear hi d2 d3 d4 hA hlen;go_enter Tryz.func14,Tryz.ntmps14;go_upto_region 1 with (fail);have HB:=I (zc w (.cells ⟨[c0,c1,c2,c3,c4,.slice A g.length c]⟩ 27));have e3:=I (zE w (.cells ⟨[c0,c1,c2,c3,c4,.slice A g.length c]⟩ 27));have b5:=I (zA w ⟨[c0,c1,c2,c3,c4,.slice A g.length c]⟩ 27 5);generalize w.alloc (.cells ⟨[c0,c1,c2,c3,c4,.slice A g.length c]⟩ 27)= W at*;have d5:=b5.o;simp only[List.getElem?_toArray,List.getElem?_cons_succ,List.getElem?_cons_zero] at d5;go_wp2;clear d5;go_loopg [2,10] g.length (fun q v i wr=>∃ j:Nat,j+q= g.length/\i= .int .i64 j/\OwnSl 62 3 encE wr W.heap.size v (zH (g.take j))/\Below W.heap.size W wr);case atStart=>exact⟨0,by omega,rfl,OwnSl.nil _ _,Below.refl _ _⟩
 case round=>
  obtain⟨j,hj,rfl,C,Y⟩:=hrel;have a2:=I C;have d8:=I Y;have a7:=I (beT HB.o Y);have d5:=(Y.cell (p:=⟨w.heap.size,5,none⟩) e3.o).trans b5.o;simp only[List.getElem?_toArray,List.getElem?_cons_succ,List.getElem?_cons_zero] at d5;clear Y C;cases gk with
  |zero=>
   have g2: ¬ ((j:Int) <(g.length:Int)):=by omega
   have b3:=I (List.take_of_length_le (l:=g) (i:=j) (by omega));go_wp2;go_ret;exact⟨_,rfl,by rw[b3.o] at a2;exact a2.o.mono HB.o.size,a7.o⟩
  |succ q=>
   have g4:(j:Int) <(g.length:Int):=by omega
   obtain⟨y,hy⟩:∃ y,g[j]?= some y:=⟨_,List.getElem?_eq_getElem (by omega)⟩;obtain⟨b,o,rfl,e6,hc⟩:=HA.o (by omega);obtain⟨ks,e8,hr,hR⟩:=hc j y hy;have b4:=fun(z:World) (hz:Below w.heap.size w z)=>za hr hz e6;obtain⟨vn,d1,e9⟩:=hR.next;obtain⟨g5,NA,nc,rfl,c9⟩:=e9;have HN:=I (fun(z:World) (hz:Below w.heap.size w z)=>(z0C (b4 z hz) 2 d1));have HK:=I (fun(z:World) (hz:Below w.heap.size w z)=>(z0C (b4 z hz) 26 hR.catch_));have e1:=I c9;have b6:=I (z5K hy);have b8:=I (fun(k:Nat) (hk:k<=y.next.length)=>zaC hy hk);clear hc e8 hr hR b4 d1 c9 hy;have dn:=HN.o wr a7.o;go_wp2;clear d5 dn;go_loopg [2,22] y.next.length (fun q2 v i u=>∃ k:Nat,k+q2= y.next.length/\i= .int .i64 k/\OwnSl 62 3 encE u W.heap.size v (zH (g.take j) ++ nextE j 0 (y.next.take k))/\Below W.heap.size W u);case atStart=>exact⟨0,by omega,rfl,by simpa [nextE] using a2.o,d8.o⟩
   case round=>
    obtain⟨k,hk,rfl,C,Y⟩:=hrel;have G:=I C;have a0:=I Y;have a1:=I (beT HB.o Y);clear Y C;cases gk with
    |succ q2=>
     have f7:(k:Int) <(y.next.length:Int):=by omega
     obtain⟨t,ht⟩:∃ t,y.next[k]?= some t:=⟨_,List.getElem?_eq_getElem (by omega)⟩;obtain⟨bn,on,rfl,e7,c7⟩:=e1.o (by omega);obtain⟨cs,c8,a8,a9⟩:=c7 k t ht;have dt:wr.cell? ⟨bn,on+k,none⟩= some (.int .i64 t):=by
      have:=z0C (za a8 a1.o e7) 0 (v:= .int .i64 t) (by rw[a9.1];rfl)
      simpa using this
     have e2:=I (zcC (i:=j) ht);have a4:=I ((b8.o k (by omega)).2.2 (by omega));have a5:=I (G.o.below (zc wr (.cells ⟨encE (j,k,t)⟩ 62)));have b0:=I (z0l wr (encE (j,k,t)) 62);have b1:=I (z3K (Nat.le_trans a4.o X.o));have b2:=I (z6i (Nat.le_trans a4.o X.o));have O:=I (a0.o.alloc a0.o.size (.cells ⟨encE (j,k,t)⟩ 62));clear c7 c8 a8 a9 ht;go_wp2_with (at_builtin;refine z72 rfl _ _ 59 rfl W.heap.size 62 i0 (.agg #[.int .i64 0,.int .i64 0,.int .i64 0]) 3 24 encE Tryz.underlying59 b7.o b9.o c5.o c6.o rfl (by decide) z2D z3y _ _ rfl a5.o wr.heap.size 1 (j,k,t) rfl b0.o b1.o b2.o O.o.size ?_);intro v' w' C hg;have K:=I C;have a6:=I (O.o.grown hg O.o.size (fun b Y=>a5.o.block Y));clear C hg;go_wp2;go_roundg q2;case measure=>omega
     case rel=>exact⟨k+1,by omega,by go_num,by rw[e2.o];first|exact K.o|(rw[← List.append_assoc];exact K.o),a6.o⟩
    |zero=>
     have f4: ¬ ((k:Int) <(y.next.length:Int)):=by omega
     have b3:=I (List.take_of_length_le (l:=y.next) (i:=k) (by omega));rw[b3.o] at G;have dk:=HK.o wr a1.o;have dn:=HN.o wr a1.o;by_cases hcat:0<=y.catch_
     ·go_upto_region 11 with (fail)
      have a4:=I ((b8.o y.next.length (Nat.le_refl _)).2.1 hcat);have HE:Hid (nodeE j y= nextE j 0 y.next ++ [(j,y.next.length,y.catch_)]):=I (by unfold nodeE;rw[if_pos hcat]);refine z0u 13 [(0,true),(1,true),(2,true),(3,true),(4,true),(5,true),(6,true),(7,true),(8,true),(9,true),(10,true),(11,true),(12,false)]
       (fun z=>z.cell? ⟨b,o+j*29+2,none⟩= some (.slice NA y.next.length nc)/\z.cell? ⟨b,o+j*29+26,none⟩= some (.int .i64 y.catch_)) (by kernel_rfl) (by kernel_rfl) rfl (by intro c a d v w h;cases d<;>exact h) ?_
      have a6:=I a0.o.drew;have K:=I (G.o.below (Below.refl _ wr).drew);have N:wr.drew.cell? ⟨b,o+j*29+2,none⟩= some (.slice NA y.next.length nc)/\wr.drew.cell? ⟨b,o+j*29+26,none⟩= some (.int .i64 y.catch_):=⟨dn,dk⟩;clear dk dn G a0;generalize wr.drew= wd at*;refine zf 40 _ rfl rfl rfl rfl N rfl ?_;go_frame;refine zf 41 (.int .i64 j) rfl rfl rfl rfl N rfl ?_;go_frame;refine zf 42 (.pointer (some ⟨b,o+j*29,none⟩)) rfl rfl rfl rfl N rfl ?_;go_frame;refine z7 43 (.pointer (some ⟨b,o+j*29,none⟩)) rfl rfl rfl N (fun z hz=>by go_simp) ?_;go_frame;refine z7 44 (.pointer (some ⟨b,o+j*29+2,none⟩)) rfl rfl rfl N (fun z hz=>by go_simp) ?_;go_frame;refine z7 45 (.slice NA y.next.length nc) rfl rfl rfl N (fun z hz=>by have dn:=hz.1;go_simp) ?_;go_frame;refine z7 46 (.int .i64 y.next.length) rfl rfl rfl N (fun z hz=>by go_simp) ?_;go_frame;refine zf 47 (.pointer (some ⟨b,o+j*29,none⟩)) rfl rfl rfl rfl N rfl ?_;go_frame;refine z7 48 (.pointer (some ⟨b,o+j*29,none⟩)) rfl rfl rfl N (fun z hz=>by go_simp) ?_;go_frame;refine z7 49 (.pointer (some ⟨b,o+j*29+26,none⟩)) rfl rfl rfl N (fun z hz=>by go_simp) ?_;go_frame;refine z7 50 (.int .i64 y.catch_) rfl rfl rfl N (fun z hz=>by have dk:=hz.2;go_simp) ?_;go_frame;refine z7 51 (.agg ⟨encE (j,y.next.length,y.catch_)⟩) rfl rfl rfl N (fun z hz=>by go_simp;rfl) ?_;go_frame;have d0:(wd.alloc (.cells ⟨encE (j,y.next.length,y.catch_)⟩ 62)).cell? ⟨b,o+j*29+2,none⟩= some (.slice NA y.next.length nc)/\(wd.alloc (.cells ⟨encE (j,y.next.length,y.catch_)⟩ 62)).cell? ⟨b,o+j*29+26,none⟩= some (.int .i64 y.catch_):=
       ⟨((zc wd _).cell (p:=⟨b,o+j*29+2,none⟩) (World.block_lt_of_cell? wd _ N.1)).trans N.1,((zc wd _).cell (p:=⟨b,o+j*29+26,none⟩) (World.block_lt_of_cell? wd _ N.2)).trans N.2⟩
      refine z2y (some 52) (.slice (some ⟨wd.heap.size,0,none⟩) 1 1) (wd.alloc (.cells ⟨encE (j,y.next.length,y.catch_)⟩ 62)) _ rfl rfl (by exact wA rfl) (by go_simp;rfl) d0 ?_;go_frame;refine z2I ?_;simp only[List.drop_succ_cons,List.drop_zero];clear N d0 hcat;have a5:=I (K.o.below (zc wd (.cells ⟨encE (j,y.next.length,y.catch_)⟩ 62)));have b0:=I (z0l wd (encE (j,y.next.length,y.catch_)) 62);have b1:=I (z3K (Nat.le_trans a4.o X.o));have b2:=I (z6i (Nat.le_trans a4.o X.o));have O:=I (a6.o.alloc a6.o.size (.cells ⟨encE (j,y.next.length,y.catch_)⟩ 62));go_wp2_with (at_builtin;refine z72 rfl _ _ 59 rfl W.heap.size 62 i0 (.agg #[.int .i64 0,.int .i64 0,.int .i64 0]) 3 24 encE Tryz.underlying59 b7.o b9.o c5.o c6.o rfl (by decide) z2D z3y _ _ rfl a5.o wd.heap.size 1 (j,y.next.length,y.catch_) rfl b0.o b1.o b2.o O.o.size ?_);intro v' w' C hg;have a3:=I C;have d9:=I (O.o.grown hg O.o.size (fun b Y=>a5.o.block Y));clear C hg;go_wp2;go_roundg q;case measure=>omega
      case rel=>exact⟨j+1,by omega,by go_num,by rw[b6.o,HE.o];first|exact a3.o|(rw[← List.append_assoc];exact a3.o),d9.o⟩
     ·have HE:Hid (nodeE j y= nextE j 0 y.next):=I (by unfold nodeE;rw[if_neg hcat,List.append_nil])
      go_wp2;go_roundg q;case measure=>omega
      case rel=>exact⟨j+1,by omega,by go_num,by rw[b6.o,HE.o];exact G.o,a0.o⟩
end
section
open Go.RowKit
theorem zb1 {α:Type} {T:TypeId} {k B base:Nat} {enc:α->List Value} {w0 w w':World} {v:Value} {l:List α} (h:Below B w0 w) (hB:B<=w.heap.size) (hown:OwnSl T k enc w base v l) (hbase:B<=base) (hg:w.grownBy w' v.ownBlock):Below B w0 w':=
 h.grown hg hB fun b hb=>Nat.le_trans hbase (hown.block hb)
end
section
open Go Go.RowKit
structure Box1 (w:World) (b:Nat) (v:Value):Prop where
 cell:w.cell? ⟨b,0,none⟩= some v
 fz:w.frozen? ⟨b,0,none⟩= false
 one:w.cell? ⟨b,1,none⟩= none
 lt:b < w.heap.size
theorem Box1.new (w:World) (v:Value) (T:TypeId):Box1 (w.alloc (.cells #[v] T)) w.heap.size v:=⟨zA w #[v] T 0,z2o w #[v] T 0,zA w #[v] T 1,zE w _⟩
theorem Box1.keep {w W:World} {b:Nat} {v:Value} (h:Box1 w b v) (hb:W.heap[b]?= w.heap[b]?):Box1 W b v:=
 ⟨(World.cell?_of_block (a:=⟨b,0,none⟩) hb).trans h.cell,(World.frozen?_of_block (a:=⟨b,0,none⟩) hb).trans h.fz,(World.cell?_of_block (a:=⟨b,1,none⟩) hb).trans h.one,by
  rcases Nat.lt_or_ge b W.heap.size with h2|h2
  ·exact h2
  ·rw[Array.getElem?_eq_none h2,Array.getElem?_eq_getElem h.lt] at hb;cases hb⟩
theorem Box1.below {w W:World} {b B:Nat} {v:Value} (h:Box1 w b v) (hb:Below B w W) (hB:b < B):Box1 W b v:=h.keep (hb.block b hB)
theorem Box1.set {w:World} {b:Nat} {v:Value} (h:Box1 w b v) (u:Value):Box1 (w.setCell ⟨b,0,none⟩ u) b u:=
 ⟨World.cell?_setCell_same _ _ _ h.cell,by rw[World.frozen?_setCell];exact h.fz,(World.cell?_setCell_other _ _ _ _ (by simp)).trans h.one,by simpa [World.setCell] using h.lt⟩
def outP (n p:Int) (e:EdgeT):Bool:=((e.1:Int) ==n) && ((e.2.1:Int) ==p)
def outK (E:List EdgeT) (n p:Int):Int:=if(E.findIdx? (outP n p)).isSome= true then((E.findIdx? (outP n p)).getD 0:Nat) else -1
theorem zgQ {E:List EdgeT} {n p:Int} (h:∀ (k:Nat) e,E[k]?= some e->outP n p e= false):outK E n p= -1:=by
 have:E.findIdx? (outP n p)= none:=by
  rw[List.findIdx?_eq_none_iff];intro e he;obtain⟨k,hk⟩:=List.mem_iff_getElem?.1 he;exact h k e hk
 unfold outK;rw[this];rfl
theorem zg3 {E:List EdgeT} {n p:Int} {j:Nat} {e:EdgeT} (hj:E[j]?= some e) (hp:outP n p e= true) (h:∀ (k:Nat),k < j->∀ e,E[k]?= some e->outP n p e= false):outK E n p= j:=by
 have:E.findIdx? (outP n p)= some j:=by
  rw[List.findIdx?_eq_some_iff_getElem];obtain⟨h1,h2⟩:=List.getElem?_eq_some_iff.1 hj;refine⟨h1,by rw[h2];exact hp,fun k hk=> ?_⟩;have:=h k hk (E[k]'(by omega)) (List.getElem?_eq_getElem _);simp[this]
 unfold outK;rw[this];rfl
theorem zf1 (e:EdgeT) (n p:Int) (pb qb:Nat) (w:World) (hp:w.cell? ⟨pb,0,none⟩= some (.int .i64 n)) (hq:w.cell? ⟨qb,0,none⟩= some (.int .i64 p)) (hlp:pb < w.heap.size/\qb < w.heap.size):
  Calls Tryz.prog 48 #[.agg #[.int .i64 e.1,.int .i64 e.2.1,.int .i64 e.2.2],.pointer (some ⟨pb,0,none⟩),.pointer (some ⟨qb,0,none⟩)] w fun e' w'=>e'= .returned (.bool (outP n p e))/\Below w.heap.size w w':=by
 have K:=I (zc w (.cells ⟨encE e⟩ 62));have N:=I (z0l w (encE e) 62);have HP:=I hp;have HQ:=I hq;have O:=I hlp;have C:Hid (outP n p e=(((e.1:Int) ==n) && ((e.2.1:Int) ==p))):=I rfl;clear hp hq hlp;go_enter Tryz.func48,Tryz.ntmps48;go_upto_region 1 with (fail);have Y:w.alloc (.cells ⟨encE e⟩ 62)= w.alloc (.cells #[.int .i64 e.1,.int .i64 e.2.1,.int .i64 e.2.2] 62):=rfl;rw[Y] at K N;generalize w.alloc (.cells #[.int .i64 e.1,.int .i64 e.2.1,.int .i64 e.2.2] 62)= W at*;have d0:W.cell? ⟨w.heap.size,0,none⟩= some (.int .i64 e.1):=N.o 0 _ rfl;have d1:W.cell? ⟨w.heap.size,1,none⟩= some (.int .i64 e.2.1):=N.o 1 _ rfl;have d2:=(K.o.cell (p:=⟨pb,0,none⟩) O.o.1).trans HP.o;have d3:=(K.o.cell (p:=⟨qb,0,none⟩) O.o.2).trans HQ.o;obtain⟨X,A⟩:∃ X,w.heap.size= X:=⟨_,rfl⟩;have g:Hid (Below w.heap.size w W):=K;rw[A] at d0 d1;rw[A];clear A Y;by_cases h1:(e.1:Int)= n
 ·have t1:((e.1:Int) ==n)= true:=by simpa using h1
  by_cases h2:(e.2.1:Int)= p
  ·have t2:((e.2.1:Int) ==p)= true:=by simpa using h2
   have G:Hid (outP n p e= true):=I (by rw[C.o,t1,t2];rfl);clear h1 h2 C;go_wp2;go_ret;exact⟨by rw[G.o];try rfl,g.o⟩
  ·have t2:((e.2.1:Int) ==p)= false:=by simpa using h2
   have G:Hid (outP n p e= false):=I (by rw[C.o,t1,t2];rfl);clear h1 h2 C;go_wp2;go_ret;exact⟨by rw[G.o];try rfl,g.o⟩
 ·have t1:((e.1:Int) ==n)= false:=by simpa using h1
  have G:Hid (outP n p e= false):=I (by rw[C.o,t1];rfl);clear h1 C;go_wp2;go_ret;exact⟨by rw[G.o];try rfl,g.o⟩
theorem zcd (E:List EdgeT) (n p:Int) (v:Value) (pb qb:Nat) (w:World) (hv:SlAt w w.heap.size 3 (Enc encE) v E) (hE:E.length<=10000) (hp:w.cell? ⟨pb,0,none⟩= some (.int .i64 n)) (hq:w.cell? ⟨qb,0,none⟩= some (.int .i64 p)) (hlp:pb < w.heap.size/\qb < w.heap.size):
  Calls Tryz.prog 47 #[v,.func (.func 48) #[] #[.pointer (some ⟨pb,0,none⟩),.pointer (some ⟨qb,0,none⟩)]] w fun e w'=>e= .returned (.int .i64 (outK E n p))/\Below w.heap.size w w':=by
 obtain⟨a9,EA,ec,rfl,a1⟩:=hv;have a3:=I a1;have a5:=I (fun e u (hu:Below w.heap.size w u)=>zf1 e n p pb qb u ((hu.cell (p:=⟨pb,0,none⟩) hlp.1).trans hp) ((hu.cell (p:=⟨qb,0,none⟩) hlp.2).trans hq) ⟨Nat.lt_of_lt_of_le hlp.1 hu.size,Nat.lt_of_lt_of_le hlp.2 hu.size⟩);have N:=I (zgQ (E:=E) (n:=n) (p:=p));have O:=I (fun j e=>zg3 (E:=E) (n:=n) (p:=p) (j:=j) (e:=e));clear hp hq hlp;have b3:(E.length:Int)<=10000:=by omega
 clear a1 a9;go_enter Tryz.func47,Tryz.ntmps47;go_wp2;go_loopg [8] E.length (fun q x u=>∃ j:Nat,j+q= E.length/\x= .int .i64 j/\Below w.heap.size w u/\∀ k,k < j->∀ e,E[k]?= some e->outP n p e= false);case atStart=>exact⟨0,by omega,rfl,Below.refl _ _,fun k hk=>absurd hk (Nat.not_lt_zero k)⟩
 case round=>
  obtain⟨j,hj,rfl,hb,a2⟩:=hrel;have g:=I hb;have K:=I a2;clear hb a2;cases gk with
  |zero=>
   obtain rfl:j= E.length:=by omega
   have b5: ¬ ((E.length:Int) <(E.length:Int)):=by omega
   have HR:Hid (outK E n p= -1):=I (N.o fun k e X=>K.o k (List.getElem?_eq_some_iff.1 X).1 e X);go_wp2;go_ret;exact⟨by rw[HR.o];try rfl,g.o⟩
  |succ q=>
   have b4:(j:Int) <(E.length:Int):=by omega
   obtain⟨e,X⟩:∃ e,E[j]?= some e:=⟨_,List.getElem?_eq_getElem (by omega)⟩;obtain⟨b,o,rfl,a8,hc⟩:=a3.o (by omega);have Y:Hid (wr.rangeAt b (o+j*3) [.int .i64 e.1,.int .i64 e.2.1,.int .i64 e.2.2]):=I (by
    obtain⟨ks,h1,h2,h3⟩:=hc j e X;have a7:ks= encE e:=h3;subst a7;exact za h2 g.o a8)
   have HE:=I X;have C:=I (a5.o e wr g.o);clear hc X;cases ho:outP n p e with
   |true=>
    have HR:Hid (outK E n p= j):=I (O.o j e HE.o ho fun k hk e' he'=>K.o k hk e' he');rw[ho] at C;clear ho;go_wp2_with (first|((with_reducible refine z8 tyK62 _ rfl ?_ Y.o rfl ?_ ?_);exact wA rfl;rfl)|(go_at_call 48;refine C.o.mono ?_;rintro e' w4 ⟨rfl,A⟩;have G:=I A;clear A));go_ret;exact⟨by rw[HR.o];try rfl,(beT g.o G.o)⟩
   |false=>
    have a4:Hid (∀ k,k < j+1->∀ e,E[k]?= some e->outP n p e= false):=I fun k hk e' he'=>by
     by_cases ek:k= j
     ·subst ek
      have:=HE.o;rw[he'] at this;injection this with this;rw[this];exact ho
     ·exact K.o k (by omega) e' he'
    rw[ho] at C;clear ho;go_wp2_with (first|((with_reducible refine z8 tyK62 _ rfl ?_ Y.o rfl ?_ ?_);exact wA rfl;rfl)|(go_at_call 48;refine C.o.mono ?_;rintro e' w4 ⟨rfl,A⟩;have G:=I A;clear A));go_roundg q;case measure=>omega
    case rel=>exact⟨j+1,by omega,by go_num,(beT g.o G.o),a4.o⟩
theorem zg1 (g:List GN) (a p:Int) (c0 c1 c2 c3 c4 v5:Value) (w:World) (hg:GraphAt w w.heap.size v5 g) (hlen:(zH g).length<=10000):
  Calls Tryz.prog 15 #[.agg ⟨[c0,c1,c2,c3,c4,v5]⟩,.int .i64 a,.int .i64 p] w fun e w'=>e= .returned (.int .i64 (outK (zH g) a p))/\Below w.heap.size w w':=by
 have HG:=I hg;have O:=I hlen;obtain⟨b4,A,c,rfl,hA⟩:=hg;clear hA hlen b4;go_enter Tryz.func15,Tryz.ntmps15;go_upto_region 1 with (fail);have a6:=I (zc w (.cells ⟨[c0,c1,c2,c3,c4,.slice A g.length c]⟩ 27));have a9:=I (zE w (.cells ⟨[c0,c1,c2,c3,c4,.slice A g.length c]⟩ 27));have a8:=I (zG w [c0,c1,c2,c3,c4,.slice A g.length c] 27);have a3:Hid ((w.alloc (.cells ⟨[c0,c1,c2,c3,c4,.slice A g.length c]⟩ 27)).heap.size= w.heap.size+1):=I (by simp);generalize w.alloc (.cells ⟨[c0,c1,c2,c3,c4,.slice A g.length c]⟩ 27)= W1 at*;have X:=I (Box1.new W1 (.int .i64 a) 3);have a7:=I (zc W1 (.cells #[.int .i64 a] 3));have Y:Hid ((W1.alloc (.cells #[.int .i64 a] 3)).heap.size= w.heap.size+1+1):=I (by rw[← a3.o];simp);rw[a3.o] at X;generalize W1.alloc (.cells #[.int .i64 a] 3)= W2 at*;have G:=I (Box1.new W2 (.int .i64 p) 3);have a1:=I (zc W2 (.cells #[.int .i64 p] 3));have C:=I (X.o.below a1.o X.o.lt);rw[Y.o] at G;generalize W2.alloc (.cells #[.int .i64 p] 3)= W3 at*;have N:=I (beT a7.o a1.o);have a2:=I (beT a6.o N.o);have b3:=I (za a8.o N.o a9.o);obtain⟨pb,a4⟩:∃ pb,w.heap.size+1= pb:=⟨_,rfl⟩;rw[a4] at G C;rw[a4];obtain⟨qb,a5⟩:∃ qb,pb+1= qb:=⟨_,rfl⟩;rw[a5] at G;rw[a5];have b2:=I (z48 g c0 c1 c2 c3 c4 (.slice A g.length c) W3 (HG.o.next a2.o) O.o);clear a6 a9 a8 a3 X a7 Y a1 N a4 a5;go_wp2_with (first|((with_reducible refine z8 tyK27 _ rfl ?_ b3.o rfl ?_ ?_);exact wA rfl;rfl)|(go_at_call 14;refine b2.o.mono ?_;rintro e w4 ⟨v4,rfl,a0,K⟩;have b0:=I K;have HI:=I (zcd (zH g) a p v4 pb qb w4 (a0.at z2D (by have:=O.o;omega)) O.o (C.o.below K C.o.lt).cell (G.o.below K G.o.lt).cell ⟨(C.o.below K C.o.lt).lt,(G.o.below K G.o.lt).lt⟩);clear a0 K)|(go_at_call 47;refine zg HI.o ?_;intro w5 b1));go_ret;exact⟨rfl,a2.o.trans ((beT b0.o b1.o).mono a2.o.size)⟩
end
end Go.Proofs.YtpmjcbjdcjjplaaGreatDoor
