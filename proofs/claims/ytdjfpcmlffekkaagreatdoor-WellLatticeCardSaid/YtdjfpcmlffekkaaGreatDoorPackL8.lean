/- Parts of a proof: Walk, SmallV, ECnt, IndexV, Build1, Order5, Par2, Par3, Prim, ParL, Tree10, OrdP. -/
import Derived.Test.YtdjfpcmlffekkaaGreatDoorProg
import Derived.Deep.DeepCutAuto
import Derived.Deep.LoopGhost
import Derived.Deep.Cut
import Derived.Deep.Draws
import Derived.Deep.QuietTactic
import Derived.BigQuiet
import Derived.BigRegion
import Derived.Maps.RangeWalk
import Derived.StillTailTactics
import Derived.WalkMore
import Derived.RegionTactic
import Derived.Lib.SliceRun
import Derived.Lib.Hide
import Derived.Test.YtdjfpcmlffekkaaGreatDoorPackL4
import Derived.Test.YtdjfpcmlffekkaaGreatDoorPackL6
import Derived.Test.YtdjfpcmlffekkaaGreatDoorPackL7
set_option maxHeartbeats 8000000
set_option maxRecDepth 100000
set_option linter.unusedVariables false
set_option linter.unusedSimpArgs false
namespace Go.Proofs.YtdjfpcmlffekkaaGreatDoor
section
open Go.RowKit
def z63 (w:World) (e:Ending) (w':World):Prop:=∃ n:Int,e= .returned (.int .i64 n)/\Below w.heap.size w w'
def z4N (w:World) (e:Ending) (w':World):Prop:=∃ b:Bool,e= .returned (.bool b)/\Below w.heap.size w w'
theorem zB (w:World) (cs:Array Value) (T:TypeId) (i:Nat):(w.alloc (.cells cs T)).cell? ⟨w.heap.size,i,none⟩= cs[i]?:=
 cell_of_row _ w.heap.size i cs T (0,0) (heap_alloc_new w _)
theorem zD (w:World) (cs:List Value) (T:TypeId):(w.alloc (.cells ⟨cs⟩ T)).rangeAt w.heap.size 0 cs:=fun j v hv=>by
 rw[Nat.zero_add,zB];simpa using hv
theorem z16 (w:World) (cs:List Value) (T:TypeId):∀ j v,cs[j]?= some v->(w.alloc (.cells ⟨cs⟩ T)).cell? ⟨w.heap.size,j,none⟩= some v:=fun j v hv=>by
 rw[zB];simpa using hv
theorem zd (w:World) (o:Obj):Below w.heap.size w (w.alloc o):=(Below.refl w.heap.size w).alloc (Nat.le_refl _) o
theorem zL (w:World) (o:Obj):w.heap.size <(w.alloc o).heap.size:=by simp
theorem z39 {B:Nat} {u w:World} (h:Below B u w) {b:Nat} (hb:B<=b) (vs:List Value):∀ o,Below B u (w.setCells b o vs):=by
 induction vs generalizing w with
 |nil=>intro o;exact h
 |cons v vs ih=>intro o;exact ih (w:=w.setCell ⟨b,o,none⟩ v) (h.setCell hb v) (o+1)
theorem z6Q (b:Nat) (vs:List Value):∀ (o:Nat) (w:World),(w.setCells b o vs).heap.size= w.heap.size:=by
 induction vs with
 |nil=>intro o w;rfl
 |cons v vs ih=>intro o w;exact(ih (o+1) (w.setCell ⟨b,o,none⟩ v)).trans (by simp[World.setCell])
theorem z3n (w:World) (cs:Array Value) (T:TypeId) (i:Nat):(w.alloc (.cells cs T)).frozen? ⟨w.heap.size,i,none⟩= false:=by
 have h:=heap_alloc_new w (.cells cs T)
 unfold World.frozen?
 rw[h]
 simp
theorem z71 (w:World) (z:Array Value) (T:TypeId):(w.alloc (.cells z T)).there w.heap.size 0 z.size:=fun j hj=>by
 rw[Nat.zero_add,zB,z3n]
 exact⟨by rw[Array.getElem?_eq_getElem hj];rfl,rfl⟩
def Tag (w:World) (b:Nat) (T:TypeId):Prop:=∃ c,w.heap[b]?= some (.cells c T (0,0))
theorem Tag.set {w:World} {b:Nat} {T:TypeId} (h:Tag w b T) (p:Addr) (v:Value):Tag (w.setCell p v) b T:=by
 obtain⟨c,hc⟩:=h
 unfold World.setCell Tag
 simp only[Array.getElem?_modify,hc]
 split
 ·exact⟨_,rfl⟩
 ·exact⟨_,rfl⟩
theorem Tag.sets {b:Nat} {T:TypeId} (q:Nat) (vs:List Value):∀ (o:Nat) {w:World},Tag w b T->Tag (w.setCells q o vs) b T:=by
 induction vs with
 |nil=>intro o w h;exact h
 |cons v vs ih=>intro o w h;exact ih (o+1) (h.set ⟨q,o,none⟩ v)
theorem OwnSl.apart {α:Type} {T T':TypeId} {k nb base:Nat} {enc:α->List Value} {w:World} {v:Value} {l:List α} (h:OwnSl T k enc w base v l) (ht:Tag w nb T') (hne:T≠T'):some nb≠v.ownBlock:=by
 intro hb
 obtain⟨c,hc⟩:=ht
 rcases h.2 with ⟨rfl,_⟩|⟨g,cap,cur,rfl,_,hg,_⟩
 ·cases hb
 ·have:nb= g:=by simpa [Value.ownBlock] using hb
  subst this
  rw[hc] at hg
  injection hg with hg
  injection hg with _ hg _
  exact hne hg.symm
structure Boxed (T:TypeId) (w W:World) (cs:List Value):Prop where
 tag:Tag W w.heap.size T
 below:Below w.heap.size w W
 range:W.rangeAt w.heap.size 0 cs
 size:w.heap.size < W.heap.size
theorem z8m (w:World) (z:Array Value) (T:TypeId) (cs:List Value) (h:cs.length= z.size):Boxed T w ((w.alloc (.cells z T)).setCells w.heap.size 0 cs) cs:=
 ⟨Tag.sets _ _ _ ⟨z,heap_alloc_new w _⟩,z39 (zd w _) (Nat.le_refl _) cs 0,World.rangeAt_setCells_same _ _ _ _ (by rw[h];exact z71 w z T),by rw[z6Q];simp⟩
section
variable {P:Program} {ops:Array Oper} {rest:List Oper} {o:Oper} {a:Act} {w:World} {Q:Exit->Act->World->Prop}
theorem zJ (T:TypeId) (x y:Operand) (ho:o.op= .store T x y) (hw:Region.wanted o (yielded ops a.tmps)= true) (w0:World) (z:Array Value) (cs:List Value) (hwld:w= w0.alloc (.cells z T)) (hz:cs.length= z.size)
  (hx:a.eval x= .pointer (some ⟨w0.heap.size,0,none⟩)) (hy:a.eval y= .agg cs.toArray) (hi:(P.info? T).map (·.size)= some cs.length) (h1:∀ v∈cs,v.oneCell'= true)
  (h:∀ Z,Boxed T w0 Z cs->wpList P ops Q rest (a.put o.dst undef) Z):wpList P ops Q (o::rest) a w:=by
 subst hwld
 exact z47 T x y ho hw w0.heap.size 0 cs hx hy (by rw[hz];exact z71 w0 z T) hi h1 (h _ (z8m w0 z T cs hz))
end
theorem Boxed.cell {T:TypeId} {w W:World} {cs:List Value} (h:Boxed T w W cs) (j:Nat) {v:Value} (hv:cs[j]?= some v):W.cell? ⟨w.heap.size,j,none⟩= some v:=by
 have:=h.range j v hv
 rwa [Nat.zero_add] at this
theorem Boxed.cell' {T:TypeId} {w W Z:World} {cs:List Value} (h:Boxed T w W cs) (hb:Below W.heap.size W Z) (j:Nat) {v:Value} (hv:cs[j]?= some v):Z.cell? ⟨w.heap.size,j,none⟩= some v:=
 (hb.cell (p:=⟨w.heap.size,j,none⟩) h.size).trans (h.cell j hv)
theorem Boxed.sub {T:TypeId} {w W Z:World} {cs:List Value} (h:Boxed T w W cs) (hb:Below W.heap.size W Z) (p q r:List Value) (hc:cs= p ++ q ++ r) (k:Nat) (hk:k= p.length):Z.rangeAt w.heap.size k q:=fun j v hv=>by
 subst hk
 have:=h.cell' hb (p.length+j) (v:=v) (by rw[hc,List.append_assoc,List.getElem?_append_right (by omega),show p.length+j - p.length= j by omega,List.getElem?_append_left (List.getElem?_eq_some_iff.1 hv).1];exact hv)
 exact this
theorem zb0 {w:World} {b o:Nat} {p cs q:List Value} (h:w.rangeAt b o (p ++ cs ++ q)) (k:Nat) (hk:k= o+p.length):w.rangeAt b k cs:=fun j v hv=>by
 subst hk
 have:=h (p.length+j) v (by rw[List.append_assoc,List.getElem?_append_right (by omega),show p.length+j - p.length= j by omega,List.getElem?_append_left (List.getElem?_eq_some_iff.1 hv).1];exact hv)
 rw[Nat.add_assoc];exact this
theorem z1f {w:World} {b o:Nat} {cs:List Value} (h:w.rangeAt b o cs) (j:Nat) {v:Value} (hv:cs[j]?= some v):w.cell? ⟨b,o+j,none⟩= some v:=h j v hv
end
section
open Go.RowKit
def z4R (w:World) (e:Ending) (w':World):Prop:=∃ n:Int,0<=n/\n<=500/\e= .returned (.int .i64 n)/\Below w.heap.size w w'
theorem zfp:∀ (x:VT) (far:Nat) (cs:List Value) (w:World),far<=40->ValAt w w.heap.size cs x->Calls Tryz.prog 38 #[.agg ⟨cs⟩,.int .i64 far] w (z63 w):=by
 intro x
 induction x using VT.ind with
 |h k n f s ns its ih=>
  intro far cs w hfar hv
  obtain⟨vn,vi,rfl,_,_,_,_,_,hil,hi⟩:=hv.inv
  obtain⟨_,A,c,rfl,hA⟩:=hi
  have HA:=I hA
  have IH:=I ih
  unfold maxLen at hil
  clear hA hv ih
  go_enter Tryz.func38,Tryz.ntmps38
  go_upto_region 1 with (fail)
  have hb0:=zd w (.cells ⟨[.int .i64 k,.int .i64 n,.float .f64 f,.string s,vn,.slice A its.length c]⟩ 52)
  have hz0:=zL w (.cells ⟨[.int .i64 k,.int .i64 n,.float .f64 f,.string s,vn,.slice A its.length c]⟩ 52)
  have c5:=zB w ⟨[.int .i64 k,.int .i64 n,.float .f64 f,.string s,vn,.slice A its.length c]⟩ 52 5
  generalize w.alloc (.cells ⟨[.int .i64 k,.int .i64 n,.float .f64 f,.string s,vn,.slice A its.length c]⟩ 52)= W at*
  have HB:=I hb0
  have C5:=I c5
  have HSZ:=I hz0
  clear hb0 c5 hz0
  go_wp2
  go_loopg [5,6] its.length (fun g m i wr=>∃ (j:Nat) (x:Int),j+g= its.length/\i= .int .i64 j/\m= .int .i64 x/\Below W.heap.size W wr)
  case atStart=>exact⟨0,0,by omega,rfl,rfl,Below.refl _ _⟩
  case round=>
   obtain⟨j,x,hj,rfl,rfl,hb⟩:=hrel
   have HB1:=I hb
   have d5:=(hb.cell (p:=⟨w.heap.size,5,none⟩) HSZ.o).trans C5.o
   clear hb
   simp only[List.getElem?_toArray,List.getElem?_cons_succ,List.getElem?_cons_zero] at d5
   cases gk with
   |zero=>
    have hge: ¬ ((j:Int) <(its.length:Int)):=by omega
    go_wp2
    go_ret
    exact⟨_,rfl,HB.o.trans (HB1.o.mono HB.o.size)⟩
   |succ g=>
    have hlt:(j:Int) <(its.length:Int):=by omega
    by_cases h0:far= 0
    ·subst h0
     go_wp2
     go_ret
     exact⟨_,rfl,HB.o.trans (HB1.o.mono HB.o.size)⟩
    ·have hpos:(0:Int) <(far:Int):=by omega
     have hz2:w.heap.size<=wr.heap.size:=Nat.le_trans HB.o.size HB1.o.size
     obtain⟨y,hy⟩:∃ y,its[j]?= some y:=⟨_,List.getElem?_eq_getElem (by omega)⟩
     obtain⟨b,o,rfl,hbb,hc⟩:=HA.o (by omega)
     obtain⟨cs,hcl,hr,hR⟩:=hc j y hy
     have hB2:=HB.o.trans (HB1.o.mono HB.o.size)
     have HR:=I (zc hr hB2 hbb)
     have HC:=I (IH.o y (List.mem_of_getElem? hy) (far - 1) cs wr (by omega) ((hR.under hB2).more hB2.size))
     have HCL:=I hcl
     have hf1:((far - 1:Nat):Int)=(far:Int) - 1:=by omega
     clear hc hr hR hB2 hy hcl h0
     rw[hf1] at HC
     clear hf1
     go_wp2_with (first|(with_reducible refine za 52 _ rfl ?hw b (o+j*6) cs _ rfl HR.o Tryz.underlying52 rfl ?hi ?_;(case hw=>exact wA rfl);(case hi=>rw[HCL.o];kernel_rfl))|(go_at_call 38;refine HC.o.mono ?_;rintro e w' ⟨z,rfl,hb⟩;have HB2:=I hb;clear hb))
     all_goals
      go_roundg g
      case measure=>omega
      case rel=>exact⟨j+1,_,by omega,by go_num,rfl,HB1.o.trans (HB2.o.mono HB1.o.size)⟩
theorem zfl:∀ (x:VT) (m:Int) (cs:List Value) (w:World),0<=m->m < 500->ValAt w w.heap.size cs x->Calls Tryz.prog 57 #[.agg ⟨cs⟩,.int .i64 m] w (z4R w):=by
 intro x
 induction x using VT.ind with
 |h k n f s ns its ih=>
  intro m cs w hm0 hm1 hv
  obtain⟨vn,vi,rfl,_,_,_,_,_,hil,hi⟩:=hv.inv
  obtain⟨_,A,c,rfl,hA⟩:=hi
  have HA:=I hA
  have IH:=I ih
  unfold maxLen at hil
  clear hA hv ih
  go_enter Tryz.func57,Tryz.ntmps57
  go_upto_region 1 with (fail)
  have hb0:=zd w (.cells ⟨[.int .i64 k,.int .i64 n,.float .f64 f,.string s,vn,.slice A its.length c]⟩ 52)
  have hz0:=zL w (.cells ⟨[.int .i64 k,.int .i64 n,.float .f64 f,.string s,vn,.slice A its.length c]⟩ 52)
  have c5:=zB w ⟨[.int .i64 k,.int .i64 n,.float .f64 f,.string s,vn,.slice A its.length c]⟩ 52 5
  generalize w.alloc (.cells ⟨[.int .i64 k,.int .i64 n,.float .f64 f,.string s,vn,.slice A its.length c]⟩ 52)= W at*
  have HB:=I hb0
  have C5:=I c5
  have HSZ:=I hz0
  clear hb0 c5 hz0
  go_wp2
  go_loopg [1,5] its.length (fun g u i wr=>∃ (j:Nat) (x:Int),j+g= its.length/\i= .int .i64 j/\u= .int .i64 x/\0<=x/\x<=500/\Below W.heap.size W wr)
  case atStart=>exact⟨0,m+1,by omega,rfl,rfl,by omega,by omega,Below.refl _ _⟩
  case round=>
   obtain⟨j,x,hj,rfl,rfl,hx0,hx1,hb⟩:=hrel
   have HB1:=I hb
   have d5:=(hb.cell (p:=⟨w.heap.size,5,none⟩) HSZ.o).trans C5.o
   clear hb
   simp only[List.getElem?_toArray,List.getElem?_cons_succ,List.getElem?_cons_zero] at d5
   cases gk with
   |zero=>
    have hge: ¬ ((j:Int) <(its.length:Int)):=by omega
    go_wp2
    all_goals
     go_ret
     exact⟨_,by omega,by omega,rfl,HB.o.trans (HB1.o.mono HB.o.size)⟩
   |succ g=>
    have hlt:(j:Int) <(its.length:Int):=by omega
    by_cases h0:x < 500
    ·have hz2:w.heap.size<=wr.heap.size:=Nat.le_trans HB.o.size HB1.o.size
     obtain⟨y,hy⟩:∃ y,its[j]?= some y:=⟨_,List.getElem?_eq_getElem (by omega)⟩
     obtain⟨b,o,rfl,hbb,hc⟩:=HA.o (by omega)
     obtain⟨cs,hcl,hr,hR⟩:=hc j y hy
     have hB2:=HB.o.trans (HB1.o.mono HB.o.size)
     have HR:=I (zc hr hB2 hbb)
     have HC:=I (IH.o y (List.mem_of_getElem? hy) x cs wr hx0 h0 ((hR.under hB2).more hB2.size))
     have HCL:=I hcl
     clear hc hr hR hB2 hy hcl
     go_wp2_with (first|(with_reducible refine za 52 _ rfl ?hw b (o+j*6) cs _ rfl HR.o Tryz.underlying52 rfl ?hi ?_;(case hw=>exact wA rfl);(case hi=>rw[HCL.o];kernel_rfl))|(go_at_call 57;refine HC.o.mono ?_;rintro e w' ⟨z,hz0,hz1,rfl,hb⟩;have HB2:=I hb;clear hb))
     go_roundg g
     case measure=>omega
     case rel=>exact⟨j+1,_,by omega,by go_num,rfl,hz0,hz1,HB1.o.trans (HB2.o.mono HB1.o.size)⟩
    ·go_wp2
     all_goals
      go_ret
      exact⟨_,by omega,by omega,rfl,HB.o.trans (HB1.o.mono HB.o.size)⟩
theorem vlen {w:World} {B:Nat} {cs:List Value} {x:VT} (h:ValAt w B cs x):cs.length= 6:=by
 cases h;rfl
theorem zfk (x:VT) (cs:List Value) (w:World) (hv:ValAt w w.heap.size cs x):Calls Tryz.prog 39 #[.agg ⟨cs⟩] w (z4R w):=by
 have HCL:=I (vlen hv)
 have HV:=I hv
 clear hv
 go_enter Tryz.func39,Tryz.ntmps39
 go_upto_region 1 with (fail)
 have HB:=I (zd w (.cells ⟨cs⟩ 52))
 have HR:=I (zD w cs 52)
 generalize w.alloc (.cells ⟨cs⟩ 52)= W at*
 have HC:=I (zfl x 0 cs W (by omega) (by omega) ((HV.o.under HB.o).more HB.o.size))
 go_wp2_with (first|(with_reducible refine za 52 _ rfl ?hw w.heap.size 0 cs _ rfl HR.o Tryz.underlying52 rfl ?hi ?_;(case hw=>exact wA rfl);(case hi=>rw[HCL.o];kernel_rfl))|(go_at_call 57;refine HC.o.mono ?_;rintro e w' ⟨z,hz0,hz1,rfl,hb⟩;have HB2:=I hb;clear hb))
 go_ret
 exact⟨z,hz0,hz1,rfl,HB.o.trans (HB2.o.mono HB.o.size)⟩
theorem zbz (x:VT) (cs:List Value) (w:World) (hv:ValAt w w.heap.size cs x):Calls Tryz.prog 18 #[.agg ⟨cs⟩] w (z4N w):=by
 have HCL:=I (vlen hv)
 have HV:=I hv
 clear hv
 go_enter Tryz.func18,Tryz.ntmps18
 go_upto_region 1 with (fail)
 have HB:=I (zd w (.cells ⟨cs⟩ 52))
 have HR:=I (zD w cs 52)
 have HSZ:=I (zL w (.cells ⟨cs⟩ 52))
 generalize w.alloc (.cells ⟨cs⟩ 52)= W at*
 have HC:=I (zfp x 40 cs W (by omega) ((HV.o.under HB.o).more HB.o.size))
 go_wp2_with (first|(with_reducible refine za 52 _ rfl ?hw w.heap.size 0 cs _ rfl HR.o Tryz.underlying52 rfl ?hi ?_;(case hw=>exact wA rfl);(case hi=>rw[HCL.o];kernel_rfl))|(go_at_call 38;fail))
 refine HC.o.mono ?_
 rintro e w2 ⟨z,rfl,hb⟩
 have HB2:=I (HB.o.trans (hb.mono HB.o.size))
 have HR2:=I (zc HR.o hb HSZ.o)
 have HC2:=I (zfk x cs w2 ((HV.o.under HB2.o).more HB2.o.size))
 clear hb HC
 by_cases hz:z<=30
 ·go_wp2_with (first|(with_reducible refine za 52 _ rfl ?hw w.heap.size 0 cs _ rfl HR2.o Tryz.underlying52 rfl ?hi ?_;(case hw=>exact wA rfl);(case hi=>rw[HCL.o];kernel_rfl))|(go_at_call 39;refine HC2.o.mono ?_;rintro e w' ⟨y,hy0,hy1,rfl,hb⟩;have HB3:=I hb;clear hb))
  all_goals
   go_ret
   exact⟨_,rfl,HB2.o.trans (HB3.o.mono HB2.o.size)⟩
 ·go_wp2
  all_goals
   go_ret
   exact⟨_,rfl,HB2.o⟩
end
section
open Go Go.RowKit
mutual
def cntE:ET->Nat->Nat
 | .mk _ _ _ _ its,n=>cntEL its (n+1)
def cntEL:List ET->Nat->Nat
 |[],n=>n
 |a::l,n=>if 500<=n then n else cntEL l (cntE a n)
end
theorem z7t:∀ (l:List ET) (n:Nat),(∀ x∈l,∀ m,m < 500->cntE x m<=500)->n<=500->cntEL l n<=500
 |[],n,_,h=>by rw[cntEL];exact h
 |a::l,n,h,hn=>by
  rw[cntEL]
  by_cases h5:500<=n
  ·rw[if_pos h5];exact hn
  ·rw[if_neg h5];exact z7t l _ (fun x hx=>h x (List.mem_cons_of_mem _ hx)) (h a (List.mem_cons_self ..) n (by omega))
theorem z64 (t:ET):∀ m,m < 500->cntE t m<=500:=by
 induction t using ET.ind with
 |h k s v ns its ih=>exact fun m hm=>by rw[cntE];exact z7t its _ ih (by omega)
theorem z58 {l:List ET} {k:Nat} {x:ET} (h:l[k]?= some x):l.drop k= x::l.drop (k+1):=by
 obtain⟨h1,h2⟩:=List.getElem?_eq_some_iff.1 h
 rw[List.drop_eq_getElem_cons h1,h2]
theorem z5R {l:List ET} {k m:Nat} {x:ET} (h:l[k]?= some x):cntEL (l.drop k) m= if 500<=m then m else cntEL (l.drop (k+1)) (cntE x m):=by
 rw[z58 h,cntEL]
theorem z6t {l:List ET} {m:Nat}:cntEL (l.drop l.length) m= m:=by
 rw[List.drop_eq_nil_of_le (Nat.le_refl _),cntEL]
theorem eslen {w:World} {B:Nat} {cs:List Value} {x:ET} (h:ExpAt w B cs x):cs.length= 10:=by
 cases h;rfl
theorem z7z:∀ (t:ET) (m:Nat) (cs:List Value) (p o:Nat) (w:World),m < 500->w.rangeAt p o cs->ExpAt w w.heap.size cs t->
  Calls Tryz.prog 125 #[.pointer (some ⟨p,o,none⟩),.int .i64 m] w fun e w'=>e= .returned (.int .i64 (cntE t m:Nat))/\w'= w:=by
 intro t
 induction t using ET.ind with
 |h k s t ns its ih=>
  intro m cs p o w hm hr hv
  have IH:=I ih
  obtain⟨v0,v1,v2,v3,v4,v5,vn,vi,rfl,_,_,_,_,hil,hi⟩:=hv.inv
  obtain⟨_,A,c,rfl,hA⟩:=hi
  unfold maxLen at hil
  have HA:=I hA
  have d5:=hr 9 _ rfl
  have HS:=I (fun k m x=>z5R (l:=its) (k:=k) (m:=m) (x:=x))
  have HE:=I (fun m=>z6t (l:=its) (m:=m))
  have HLE:=I (fun x m hm=>z64 x m hm)
  have H0:Hid (cntEL (its.drop 0) (m+1)= cntE (.mk k s t ns its) m):=I (by rw[cntE];rfl)
  have hm2:(m:Int) < 500:=by omega
  clear ih hA hr hv
  generalize cntE (.mk k s t ns its) m= res at*
  go_enter Tryz.func125,Tryz.ntmps125
  go_wp2
  go_loopg [1,13] its.length (fun q n x u=>∃ (j m:Nat),j+q= its.length/\x= .int .i64 j/\n= .int .i64 m/\m<=500/\u= w/\cntEL (its.drop j) m= res)
  case atStart=>exact⟨0,m+1,by omega,rfl,by go_num,by omega,rfl,H0.o⟩
  case round=>
   obtain⟨j,m,hj,rfl,rfl,hm5,rfl,hres⟩:=hrel
   have HR:=I hres
   clear hres
   cases gk with
   |zero=>
    obtain rfl:j= its.length:=by omega
    have hge: ¬ ((its.length:Int) <(its.length:Int)):=by omega
    have HV:=I (HR.o.symm.trans (HE.o m))
    go_wp2
    go_ret
    exact⟨by rw[HV.o];rfl,rfl⟩
   |succ q=>
    have hlt:(j:Int) <(its.length:Int):=by omega
    obtain⟨x,hx⟩:∃ x,its[j]?= some x:=⟨_,List.getElem?_eq_getElem (by omega)⟩
    obtain⟨b,o',rfl,hbl,hc⟩:=HA.o (by omega)
    obtain⟨ks,hkl,hks,hvx⟩:=hc j x hx
    have HV:=I (HR.o.symm.trans (HS.o j m x hx))
    by_cases h5:500<=m
    ·have HV2:=I (HV.o.trans (if_pos h5))
     have t1:(500:Int)<=(m:Int):=by omega
     clear hc hks hvx hx HV
     go_wp2
     go_ret
     exact⟨by rw[HV2.o];rfl,rfl⟩
    ·have HV2:=I (HV.o.trans (if_neg h5))
     have t1: ¬ ((500:Int)<=(m:Int)):=by omega
     have HC:=I (IH.o x (List.mem_of_getElem? hx) m ks b (o'+j*10) wr (by omega) hks hvx)
     have hle:=HLE.o x m (by omega)
     clear hc hks hvx hx HV h5
     go_wp2_with (go_at_call 125;refine HC.o.mono ?_;rintro e z ⟨rfl,rfl⟩)
     go_roundg q
     case measure=>omega
     case rel=>exact⟨j+1,_,by omega,by go_num,rfl,hle,rfl,HV2.o.symm⟩
theorem zaA (t:ET) (cs:List Value) (w:World) (hv:ExpAt w w.heap.size cs t):Calls Tryz.prog 106 #[.agg ⟨cs⟩] w fun e w'=>e= .returned (.int .i64 (cntE t 0:Nat))/\Below w.heap.size w w':=by
 have HB1:=I (zd w (.cells ⟨cs⟩ 54))
 have HC:=I (z7z t 0 cs w.heap.size 0 (w.alloc (.cells ⟨cs⟩ 54)) (by decide) (zD w cs 54) ((hv.under HB1.o).more HB1.o.size))
 go_enter Tryz.func106,Tryz.ntmps106
 go_wp2_with (go_at_call 125;refine HC.o.mono ?_;rintro e z ⟨rfl,rfl⟩)
 go_ret
 exact⟨rfl,HB1.o⟩
theorem z8G:∀ (t:ET) (m:Nat) (cs:List Value) (w:World),m < 500->ExpAt w w.heap.size cs t->
  Calls Tryz.prog 58 #[.agg ⟨cs⟩,.int .i64 m] w fun e w'=>e= .returned (.int .i64 (cntE t m:Nat))/\Below w.heap.size w w':=by
 intro t
 induction t using ET.ind with
 |h k s t ns its ih=>
  intro m cs w hm hv
  have IH:=I ih
  obtain⟨v0,v1,v2,v3,v4,v5,vn,vi,rfl,_,_,_,_,hil,hi⟩:=hv.inv
  obtain⟨_,A,c,rfl,hA⟩:=hi
  unfold maxLen at hil
  have HA:=I hA
  have HS:=I (fun k m x=>z5R (l:=its) (k:=k) (m:=m) (x:=x))
  have HE:=I (fun m=>z6t (l:=its) (m:=m))
  have HLE:=I (fun x m hm=>z64 x m hm)
  have HCE:Hid (∀ k m,500<=m->cntEL (its.drop k) m= m):=I (fun k m h=>by
   cases its.drop k with
   |nil=>rw[cntEL]
   |cons a l=>rw[cntEL,if_pos h])
  have H0:Hid (cntEL (its.drop 0) (m+1)= cntE (.mk k s t ns its) m):=I (by rw[cntE];rfl)
  clear ih hA hv
  generalize cntE (.mk k s t ns its) m= res at*
  go_enter Tryz.func58,Tryz.ntmps58
  go_upto_region 1 with (fail)
  have hb0:=zd w (.cells ⟨[.int .i64 k,.string s,v0,v1,v2,v3,v4,v5,vn,.slice A its.length c]⟩ 54)
  have hz0:=zL w (.cells ⟨[.int .i64 k,.string s,v0,v1,v2,v3,v4,v5,vn,.slice A its.length c]⟩ 54)
  have c5:=zB w ⟨[.int .i64 k,.string s,v0,v1,v2,v3,v4,v5,vn,.slice A its.length c]⟩ 54 9
  generalize w.alloc (.cells ⟨[.int .i64 k,.string s,v0,v1,v2,v3,v4,v5,vn,.slice A its.length c]⟩ 54)= W at*
  have HB:=I hb0
  have C5:=I c5
  have HSZ:=I hz0
  clear hb0 c5 hz0
  have hm2:(m:Int) < 500:=by omega
  go_wp2
  go_loopg [1,5] its.length (fun g u i wr=>∃ (j m:Nat),j+g= its.length/\i= .int .i64 j/\u= .int .i64 m/\m<=500/\Below W.heap.size W wr/\cntEL (its.drop j) m= res)
  case atStart=>exact⟨0,m+1,by omega,rfl,by go_num,by omega,Below.refl _ _,H0.o⟩
  case round=>
   obtain⟨j,m,hj,rfl,rfl,hm5,hb,hres⟩:=hrel
   have HB1:=I hb
   have HR:=I hres
   have d5:=(hb.cell (p:=⟨w.heap.size,9,none⟩) HSZ.o).trans C5.o
   clear hb hres
   simp only[List.getElem?_toArray,List.getElem?_cons_succ,List.getElem?_cons_zero] at d5
   have hm5':(m:Int)<=500:=by omega
   cases gk with
   |zero=>
    obtain rfl:j= its.length:=by omega
    have hge: ¬ ((its.length:Int) <(its.length:Int)):=by omega
    have HV:=I (HR.o.symm.trans (HE.o m))
    go_wp2
    go_ret
    exact⟨by rw[HV.o];go_num,HB.o.trans (HB1.o.mono HB.o.size)⟩
   |succ g=>
    have hlt:(j:Int) <(its.length:Int):=by omega
    by_cases h0:m < 500
    ·have hz2:w.heap.size<=wr.heap.size:=Nat.le_trans HB.o.size HB1.o.size
     obtain⟨y,hy⟩:∃ y,its[j]?= some y:=⟨_,List.getElem?_eq_getElem (by omega)⟩
     obtain⟨b,o,rfl,hbb,hc⟩:=HA.o (by omega)
     obtain⟨cs,hcl,hr,hR⟩:=hc j y hy
     have hB2:=HB.o.trans (HB1.o.mono HB.o.size)
     have HV:=I (HR.o.symm.trans (HS.o j m y hy))
     have HV2:=I (HV.o.trans (if_neg (by omega)))
     have HR1:=I (zc hr hB2 hbb)
     have HC:=I (IH.o y (List.mem_of_getElem? hy) m cs wr h0 ((hR.under hB2).more hB2.size))
     have HCL:=I hcl
     have hle:=HLE.o y m h0
     have h0':(m:Int) < 500:=by omega
     clear hc hr hR hB2 hy HV h0
     go_wp2_with (first|((with_reducible refine za 54 _ rfl ?_ b (o+j*10) cs _ rfl HR1.o Tryz.underlying54 rfl ?_ ?_);(exact wA rfl);rw[HCL.o];kernel_rfl)|(go_at_call 58;refine HC.o.mono ?_;rintro e w' ⟨rfl,hb⟩;have HB2:=I hb;clear hb))
     go_roundg g
     case measure=>omega
     case rel=>exact⟨j+1,_,by omega,by go_num,rfl,hle,HB1.o.trans (HB2.o.mono HB1.o.size),HV2.o.symm⟩
    ·have HV:=I (HR.o.symm.trans (HCE.o j m (by omega)))
     have h0': ¬ ((m:Int) < 500):=by omega
     have hm500:m= 500:=by omega
     go_wp2
     all_goals
      go_ret
      exact⟨by rw[HV.o,hm500];rfl,HB.o.trans (HB1.o.mono HB.o.size)⟩
theorem z8A (t:ET) (cs:List Value) (w:World) (hv:ExpAt w w.heap.size cs t):Calls Tryz.prog 41 #[.agg ⟨cs⟩] w fun e w'=>e= .returned (.int .i64 (cntE t 0:Nat))/\Below w.heap.size w w':=by
 have HCL:=I (eslen hv)
 have HV:=I hv
 clear hv
 go_enter Tryz.func41,Tryz.ntmps41
 go_upto_region 1 with (fail)
 have HB:=I (zd w (.cells ⟨cs⟩ 54))
 have HR:=I (zD w cs 54)
 generalize w.alloc (.cells ⟨cs⟩ 54)= W at*
 have HC:=I (z8G t 0 cs W (by omega) ((HV.o.under HB.o).more HB.o.size))
 go_wp2_with (first|((with_reducible refine za 54 _ rfl ?_ w.heap.size 0 cs _ rfl HR.o Tryz.underlying54 rfl ?_ ?_);(exact wA rfl);rw[HCL.o];kernel_rfl)|(go_at_call 58;refine HC.o.mono ?_;rintro e w' ⟨rfl,hb⟩;have HB2:=I hb;clear hb))
 go_ret
 exact⟨rfl,HB.o.trans (HB2.o.mono HB.o.size)⟩
end
section
open Go Go.RowKit
def z23 (s:ByteArray) (x:VarT):Bool:=x.name.toList ==s.toList
def findV:List VarT->ByteArray->Int
 |[],_=> -1
 |x::l,s=>if z23 s x= true then 0 else if findV l s= -1 then -1 else findV l s+1
theorem z4T {s:ByteArray}:∀ {l:List VarT},(∀ (k:Nat) x,l[k]?= some x->z23 s x= false)->findV l s= -1
 |[],_=>rfl
 |x::l,h=>by
  unfold findV
  rw[if_neg (by rw[h 0 x rfl];decide),z4T fun k y hy=>h (k+1) y hy,if_pos rfl]
theorem z3C {s:ByteArray}:∀ {l:List VarT} (j:Nat) (x:VarT),l[j]?= some x->z23 s x= true->(∀ k,k < j->∀ y,l[k]?= some y->z23 s y= false)->findV l s=(j:Int)
 |[],j,x,h,_,_=>by simp at h
 |a::l,0,x,h,hx,_=>by
  obtain rfl:a= x:=by simpa using h
  unfold findV
  rw[if_pos hx];rfl
 |a::l,j+1,x,h,hx,hno=>by
  have ih:=z3C (l:=l) j x (by simpa using h) hx fun k hk y hy=>hno (k+1) (by omega) y (by simpa using hy)
  unfold findV
  rw[if_neg (by rw[hno 0 (by omega) a rfl];decide),ih,if_neg (by omega)]
  omega
theorem z7R {w:World} {B:Nat} {ks:List Value} {x:VarT} (h:VarAt w B ks x):∃ a b c d e f g i j,ks=[.string x.name,.int .i64 x.label,a,b,c,d,e,f,g,i,j]:=by
 obtain⟨ct,ci,rfl,h3,h6,_,_⟩:=h.ex
 match ct,ci,h3,h6 with
 |[a,b,c],[d,e,f,g,i,j],_,_=>exact⟨a,b,c,d,e,f,g,i,j,rfl⟩
end
section
open Go
theorem z6G:∀ (ks pre rest:List Value),rest.length= ks.length->
  (ks.zipIdx pre.length).foldl (fun(cs:Array Value) (p:Value × Nat)=>cs.setIfInBounds (0+p.2) p.1) (pre ++ rest).toArray=(pre ++ ks).toArray
 |[],pre,rest,h=>by
  rw[List.eq_nil_of_length_eq_zero h];rfl
 |k::ks,pre,rest,h=>by
  cases rest with
  |nil=>cases h
  |cons r rest=>
   rw[List.zipIdx_cons,List.foldl_cons]
   have h1:(pre ++ r::rest).toArray.setIfInBounds (0+pre.length) k=((pre ++ [k]) ++ rest).toArray:=by
    rw[Nat.zero_add,List.setIfInBounds_toArray]
    congr 1
    simp
   show List.foldl _ ((pre ++ r::rest).toArray.setIfInBounds (0+pre.length) k) _= _
   rw[h1]
   have:=z6G ks (pre ++ [k]) rest (by simpa using h)
   rw[List.length_append] at this
   rw[List.append_assoc] at this ⊢
   rw[List.append_assoc] at this
   exact this
theorem z7L (size:Nat) (ks:List Value) (cells:Array Value) (h1:ks.length= size) (h2:cells.size= size):Instr.fill (fun i=>some (i*size,size)) cells [(0,.agg ks.toArray)]= some ks.toArray:=by
 unfold Instr.fill
 simp only[Nat.zero_mul]
 have hc:(Value.agg ks.toArray).cells= ks.toArray:=rfl
 rw[hc]
 rw[if_neg (by simp[h1,h2])]
 unfold Instr.fill
 congr 1
 have:=z6G ks [] cells.toList (by simpa [h1] using h2)
 simpa using this
section
variable {P:Program}
theorem z5c (w:World) (t e:TypeId) (i:TypeInfo) (z:Value) (ks:List Value) (ht:P.underlying t= some (.slice e)) (hi:P.info? e= some i) (hz:i.zero= some z) (hsz:i.size= ks.length) (h0:0 < ks.length) (hmax:ks.length<=1000):
  (Instr.buildSlice t 1 #[(0,.agg ks.toArray)]).run P w= .ok (.slice (some ⟨w.heap.size,0,none⟩) 1 1) (w.alloc (.cells ⟨ks⟩ e)):=by
 have hs:(sizeOf e).run P w= .ok ks.length w:=by simp[sizeOf,typeInfo,hi,hsz]
 have hzv:(zeroValue e).run P w= .ok z w:=by simp[zeroValue,typeInfo,hi,hz]
 have hf:∀ cells:Array Value,cells.size= ks.length->Instr.fill (fun i=>some (i*ks.length,ks.length)) cells [(0,.agg ks.toArray)]= some ks.toArray:=fun cells hc=>z7L ks.length ks cells rfl hc
 unfold Instr.buildSlice
 simp only[Sem.run_bind,run_underlying ht,Result.andThen_ok,hs,Nat.one_mul]
 rw[if_neg (by omega),if_neg (by omega)]
 simp only[Sem.run_bind,Sem.run_pure,Result.andThen_ok,hzv]
 rw[hf _ (by simp)]
 simp[newRow]
variable {ops:Array Oper} {rest:List Oper} {o:Oper} {a:Act} {w:World} {Q:Exit->Act->World->Prop}
theorem z1u (t:TypeId) (x:Operand) (ho:o.op= .buildSlice t 1 #[(0,x)]) (hw:Region.wanted o (yielded ops a.tmps)= true) (e:TypeId) (i:TypeInfo) (z:Value) (ks:List Value) (hx:a.eval x= .agg ks.toArray)
  (ht:P.underlying t= some (.slice e)) (hi:P.info? e= some i) (hz:i.zero= some z) (hsz:i.size= ks.length) (h0:0 < ks.length) (hmax:ks.length<=1000)
  (h:wpList P ops Q rest (a.put o.dst (.slice (some ⟨w.heap.size,0,none⟩) 1 1)) (w.alloc (.cells ⟨ks⟩ e))):wpList P ops Q (o::rest) a w:=by
 refine wpList_step fun K hK=> ?_
 rw[if_pos hw]
 unfold Oper.wp execOp
 have hr:=z5c (P:=P) w t e i z ks ht hi hz hsz h0 hmax
 simp only[ho,List.map_toArray,List.map_cons,List.map_nil,hx,Sem.run_bind,Sem.run_pure,Result.andThen_ok,hr]
 exact hK _ _ h
end
end
section
open Go
section
variable {P:Program} {ops:Array Oper} {S:World->Prop} {Q:Exit->Act->World->Prop} {i:Nat} {r:OrdT} {a:Act} {w:World}
end
theorem z6e:∀ (ks:List Value) (n m:Nat) (pre mid post:List Value),mid.length= ks.length->n+m= pre.length->
  (ks.zipIdx m).foldl (fun(cs:Array Value) (p:Value × Nat)=>cs.setIfInBounds (n+p.2) p.1) (pre ++ mid ++ post).toArray=(pre ++ ks ++ post).toArray
 |[],n,m,pre,mid,post,h,_=>by
  rw[List.eq_nil_of_length_eq_zero h];rfl
 |k::ks,n,m,pre,mid,post,h,hn=>by
  cases mid with
  |nil=>cases h
  |cons x mid=>
   rw[List.zipIdx_cons,List.foldl_cons]
   have h1:(pre ++ x::mid ++ post).toArray.setIfInBounds (n+m) k=((pre ++ [k]) ++ mid ++ post).toArray:=by
    rw[hn,List.setIfInBounds_toArray]
    congr 1
    simp
   show List.foldl _ ((pre ++ x::mid ++ post).toArray.setIfInBounds (n+m) k) _= _
   rw[h1]
   have:=z6e ks n (m+1) (pre ++ [k]) mid post (by simpa using h) (by rw[List.length_append,List.length_singleton];omega)
   rw[this]
   congr 1
   simp
theorem ze2 (size:Nat) (k1 k2:List Value) (cells:Array Value) (h1:k1.length= size) (h2:k2.length= size) (hc:cells.size= 2*size):
  Instr.fill (fun i=>some (i*size,size)) cells [(0,.agg k1.toArray),(1,.agg k2.toArray)]= some (k1 ++ k2).toArray:=by
 have e1:(Value.agg k1.toArray).cells= k1.toArray:=rfl
 have e2:(Value.agg k2.toArray).cells= k2.toArray:=rfl
 obtain⟨m1,m2,hm,hl1,hl2⟩:∃ m1 m2:List Value,cells=(m1 ++ m2).toArray/\m1.length= size/\m2.length= size:=by
  refine⟨cells.toList.take size,cells.toList.drop size,by simp,?_,?_⟩
  ·rw[List.length_take,Array.length_toList];omega
  ·rw[List.length_drop,Array.length_toList];omega
 subst hm
 unfold Instr.fill
 simp only[e1]
 rw[if_neg (by simp[h1,hl1,hl2])]
 have f1:=z6e k1 (0*size) 0 [] m1 m2 (by rw[hl1,h1]) (by simp)
 rw[List.nil_append,List.nil_append] at f1
 have f1':(k1.toArray.zipIdx).foldl (fun(cs:Array Value) (p:Value × Nat)=>cs.setIfInBounds (0*size+p.2) p.1) (m1 ++ m2).toArray=(k1 ++ m2).toArray:=by
  rw[← f1];simp
 rw[show(k1.toArray.zipIdx.foldl (fun cs x=>match x with|(c,j)=>cs.setIfInBounds (0*size+j) c) (m1 ++ m2).toArray)=(k1 ++ m2).toArray from f1']
 unfold Instr.fill
 simp only[e2]
 rw[if_neg (by simp[h1,h2,hl2])]
 have f2:=z6e k2 (1*size) 0 k1 m2 [] (by rw[hl2,h2]) (by rw[h1];simp)
 rw[List.append_nil,List.append_nil] at f2
 have f2':(k2.toArray.zipIdx).foldl (fun(cs:Array Value) (p:Value × Nat)=>cs.setIfInBounds (1*size+p.2) p.1) (k1 ++ m2).toArray=(k1 ++ k2).toArray:=by
  rw[← f2];simp
 rw[show(k2.toArray.zipIdx.foldl (fun cs x=>match x with|(c,j)=>cs.setIfInBounds (1*size+j) c) (k1 ++ m2).toArray)=(k1 ++ k2).toArray from f2']
 rfl
section
variable {P:Program}
variable {o:Oper} {a:Act} {w:World}
end
end
section
open Go Go.RowKit
section
variable {P:Program} {ops:Array Oper} {rest:List Oper} {o:Oper} {a:Act} {w:World} {Q:Exit->Act->World->Prop}
def Whole (T:TypeId) (w:World) (b:Nat) (cs:List Value):Prop:=w.heap[b]?= some (.cells ⟨cs⟩ T (0,0))
theorem Whole.new (w:World) (cs:List Value) (T:TypeId):Whole T (w.alloc (.cells ⟨cs⟩ T)) w.heap.size cs:=heap_alloc_new w _
theorem Whole.range {T:TypeId} {b:Nat} {cs:List Value} (h:Whole T w b cs):w.rangeAt b 0 cs:=by
 intro j v hv
 rw[Nat.zero_add]
 rw[cell_of_row w b j ⟨cs⟩ T _ h]
 simpa using hv
theorem Whole.lt {T:TypeId} {b:Nat} {cs:List Value} (h:Whole T w b cs):b < w.heap.size:=by
 rcases Nat.lt_or_ge b w.heap.size with h1|h1
 ·exact h1
 ·unfold Whole at h;rw[Array.getElem?_eq_none h1] at h;cases h
theorem Whole.keep {T:TypeId} {w':World} {b:Nat} {cs:List Value} (h:Whole T w b cs) (hb:w'.heap[b]?= w.heap[b]?):Whole T w' b cs:=hb.trans h
theorem Whole.there {T:TypeId} {b:Nat} {cs:List Value} (h:Whole T w b cs):w.there b 0 cs.length:=by
 intro j hj
 rw[Nat.zero_add,cell_of_row w b j ⟨cs⟩ T _ h]
 refine⟨by simp[hj],?_⟩
 unfold World.frozen?
 have h2:w.heap[b]?= some (.cells ⟨cs⟩ T (0,0)):=h
 simp[h2]
theorem Whole.tag {T:TypeId} {b:Nat} {cs:List Value} (h:Whole T w b cs):Tag w b T:=⟨_,h⟩
theorem z1G (b:Nat) (T:TypeId):∀ (vs pre mid:List Value) (w:World),w.heap[b]?= some (.cells ⟨pre ++ mid⟩ T (0,0))->mid.length= vs.length->(w.setCells b pre.length vs).heap[b]?= some (.cells ⟨pre ++ vs⟩ T (0,0))
 |[],pre,mid,w,h,hl=>by
  rw[List.eq_nil_of_length_eq_zero hl] at h
  exact h
 |v::vs,pre,[],w,h,hl=>by cases hl
 |v::vs,pre,m::mid,w,h,hl=>by
  have h1:(w.setCell ⟨b,pre.length,none⟩ v).heap[b]?= some (.cells ⟨(pre ++ [v]) ++ mid⟩ T (0,0)):=by
   show(w.heap.modify b _)[b]?= _
   rw[Array.getElem?_modify,if_pos rfl,h]
   simp
  have h2:=z1G b T vs (pre ++ [v]) mid (w.setCell ⟨b,pre.length,none⟩ v) h1 (by simpa using hl)
  rw[List.length_append] at h2
  have e:pre ++ [v] ++ vs= pre ++ v::vs:=by simp
  rw[e] at h2
  exact h2
theorem z3x (b:Nat):∀ (cs:List Value) (w:World) (i:Nat),But w (w.setCells b i cs) b b
 |[],w,_=>But.refl w b b
 |v::cs,w,i=>(But.setAt w b i v).trans (z3x b cs _ (i+1))
theorem zf (T:TypeId) (x y:Operand) (ho:o.op= .store T x y) (hn:o.dst= none) (hw:Region.wanted o (yielded ops a.tmps)= true) (b:Nat) (cs0 cs:List Value) (hb:Whole T w b cs0) (hl:cs0.length= cs.length)
  (hx:a.eval x= .pointer (some ⟨b,0,none⟩)) (hy:a.eval y= .agg cs.toArray) (hi:(P.info? T).map (·.size)= some cs.length) (h1:∀ v∈cs,v.oneCell'= true)
  (h:∀ Z,Whole T Z b cs->But w Z b b->wpList P ops Q rest a Z):wpList P ops Q (o::rest) a w:=by
 have h:=fun Z h1 h2=>(show wpList P ops Q rest (a.put o.dst undef) Z from by rw[hn];exact h Z h1 h2)
 refine z47 T x y ho hw b 0 cs hx hy (by rw[← hl];exact hb.there) hi h1 (h _ ?_ (z3x b cs w 0))
 have:=z1G b T cs [] cs0 w hb hl
 exact this
end
end
section
open Go Go.RowKit
abbrev valC (k n:Int) (f:Nat) (s:ByteArray):List Value:=[.int .i64 k,.int .i64 n,.float .f64 f,.string s,.slice none 0 0,.slice none 0 0]
end
section
open Go Go.RowKit
section
variable {P:Program} {ops:Array Oper} {S:World->Prop} {Q:Exit->Act->World->Prop} {i:Nat} {r:List (Nat × Bool)} {o:Oper} {a:Act} {w:World}
theorem z1c (T:TypeId) (ho:o.op= .alloc T) (j:TypeInfo) (z:Value) (hi:P.info? T= some j) (hz:j.zero= some z):
  (execOp a.eval o).run P w= .ok (.value (.pointer (some ⟨w.heap.size,0,none⟩))) (w.alloc (.cells z.cells T)):=by
 have hzv:(zeroValue T).run P w= .ok z w:=by simp[zeroValue,typeInfo,hi,hz]
 unfold execOp
 simp only[ho,Instr.alloc,Sem.run_bind,hzv,Result.andThen_ok]
 simp[newVar,newRow]
theorem z1C (d:Option Tmp) (T:TypeId) (o:Oper) (x y:Operand) (hi:ops[i]?= some o) (ho:o.op= .store T x y) (hd:o.dst= d) (hw:Region.wanted o (yielded ops a.tmps)= true) (b:Nat) (cs0 cs:List Value) (hb:Whole T w b cs0) (hl:cs0.length= cs.length)
  (hx:a.eval x= .pointer (some ⟨b,0,none⟩)) (hy:a.eval y= .agg cs.toArray) (hi2:(P.info? T).map (·.size)= some cs.length) (h1:∀ v∈cs,v.oneCell'= true)
  (h:∀ Z,Whole T Z b cs->But w Z b b->S Z/\wpOrd P ops S Q r (a.put d undef) Z):wpOrd P ops S Q ((i,false)::r) a w:=by
 subst hd
 refine z4e o hi hw fun K hK=> ?_
 have hz:=h (w.setCells b 0 cs) (z1G b T cs [] cs0 w hb hl) (z3x b cs w 0)
 exact wp_store_mid T x y ho b 0 cs.toArray hx hy (by rw[List.size_toArray,← hl];exact hb.there) (by simpa using hi2) (all_oneCell_toArray h1) (by simpa using hK _ _ hz.1 hz.2)
end
theorem Whole.cells {T:TypeId} {w:World} {b:Nat} {cs:List Value} (h:Whole T w b cs) (k:Nat) {v:Value} (hv:cs[k]?= some v):w.cell? ⟨b,k,none⟩= some v:=by
 have:=h.range k v hv
 rwa [Nat.zero_add] at this
theorem PS.under {T:TypeId} {pb tb c:Nat} {E:Int} {toks:List Tok} {w w':World} {i:Nat} {d:Int} (h:PS T pb tb c E toks w i d) (b:Nat) (hp:b≠pb) (ht:b≠tb) (hb:But w w' b b):PS T pb tb c E toks w' i d:=
 ⟨(hb.block pb h.lt.2 (Ne.symm hp) (Ne.symm hp)).trans h.blk,h.ne,⟨Nat.lt_of_lt_of_le h.lt.1 hb.size,Nat.lt_of_lt_of_le h.lt.2 hb.size⟩,fun j t hj a v hv=>(hb.cell h.lt.1 (Ne.symm ht) (Ne.symm ht)).trans (h.tok j t hj a v hv),h.len⟩
section
variable {pb tb c:Nat} {E:Int} {toks:List Tok} {w:World} {i:Nat} {d:Int}
end
end
section
open Go Go.RowKit
def KeptP (p:Nat->Prop) (w:World) (cs:List Value) (t:ET):Prop:=ExpAt (only w p) w.heap.size cs t
theorem KeptP.to {p q:Nat->Prop} {w w':World} {cs:List Value} {t:ET} (h:KeptP p w cs t) (hb:∀ b,p b->b < w.heap.size->q b/\w'.heap[b]?= w.heap[b]?) (hs:w.heap.size<=w'.heap.size):KeptP q w' cs t:=
 (ExpAt.cells h (z49 hb)).more hs
theorem KeptP.one {p:Nat->Prop} {w:World} {cs:List Value} {t:ET} (h:KeptP p w cs t):∀ v∈cs,v.oneCell'= true:=ExpAt.one h
theorem KeptP.len {p:Nat->Prop} {w:World} {cs:List Value} {t:ET} (h:KeptP p w cs t):cs.length= 10:=by
 cases t with
 |mk k s v ns its=>
  obtain⟨c0,c1,c2,c3,c4,c5,vn,vi,rfl,_⟩:=ExpAt.inv h
  rfl
theorem zx (n:Int) (h:(Lit.int .i64 n).wf= true):wfI n:=h
theorem zdl (w:World) (B:Nat) (k n:Int) (f:Nat) (s:ByteArray) (hk:wfI k) (hn:wfI n) (hf:(Lit.float .f64 f).wf= true) (hs:s.size<=maxLen):ValAt w B (valC k n f s) (.mk k n f s [] []):=
 ValAt.of hk hn hf hs (SlAt.nil w B 1 _) (Nat.zero_le _) (SlAt.nil w B 6 _)
section
variable (pb tb c:Nat) (E:Int) (toks:List Tok)
variable {pb tb c E toks}
end
end
section
open Go Go.RowKit
section
variable {P:Program} {ops:Array Oper} {S:World->Prop} {Q:Exit->Act->World->Prop} {i:Nat} {r:List (Nat × Bool)} {a:Act} {w:World}
variable {t u:OrdT} {j:Nat}
theorem z3i (h1:zU P ops S Q (.act i t) a w) (h2:zU P ops S Q (.act j u) a w):zU P ops S Q (.two i j t u) a w:=⟨h1,h2⟩
theorem z0G (d:Option Tmp) (v:Value) (w':World) (o:Oper) (hi:ops[i]?= some o) (hd:o.dst= d) (hw:Region.wanted o (yielded ops a.tmps)= true)
  (hrun:(execOp a.eval o).run P w= .ok (.value v) w') (hS:S w') (h:zU P ops S Q t (a.put d v) w'):zU P ops S Q (.act i t) a w:=by
 subst hd
 refine z4W o hi hw fun K hK=> ?_
 unfold Oper.wp
 rw[hrun]
 exact hK _ _ hS h
theorem z0D (d:Option Tmp) (T:TypeId) (o:Oper) (x y:Operand) (hi:ops[i]?= some o) (ho:o.op= .store T x y) (hd:o.dst= d) (hw:Region.wanted o (yielded ops a.tmps)= true) (b:Nat) (cs0 cs:List Value) (hb:Whole T w b cs0) (hl:cs0.length= cs.length)
  (hx:a.eval x= .pointer (some ⟨b,0,none⟩)) (hy:a.eval y= .agg cs.toArray) (hi2:(P.info? T).map (·.size)= some cs.length) (h1:∀ v∈cs,v.oneCell'= true)
  (h:∀ Z,Whole T Z b cs->But w Z b b->S Z/\zU P ops S Q t (a.put d undef) Z):zU P ops S Q (.act i t) a w:=by
 subst hd
 refine z4W o hi hw fun K hK=> ?_
 have hz:=h (w.setCells b 0 cs) (z1G b T cs [] cs0 w hb hl) (z3x b cs w 0)
 exact wp_store_mid T x y ho b 0 cs.toArray hx hy (by rw[List.size_toArray,← hl];exact hb.there) (by simpa using hi2) (all_oneCell_toArray h1) (by simpa using hK _ _ hz.1 hz.2)
end
end
section
open Go
section
variable {P:Program} {ops:Array Oper} {S:World->Prop} {Q:Exit->Act->World->Prop} {i:Nat} {r:List (Nat × Bool)} {t:OrdT} {a:Act} {w:World}
theorem z4o (d:Option Tmp) (f:FuncId) {fn:Func} (hf:P.funcs[f]?= some fn) (hn:(fn.name == "runtime.NumGoroutine")= false) (hb:fn.body.isNone= false) (vals:List Value)
  (o:Oper) (args:List Operand) (ts:Array TypeId) (hi:ops[i]?= some o) (ho:o.op= .call { callee:= .value (.func f),args:=args.toArray,argTypes:=ts })
  (hd:o.dst= d) (hw:Region.wanted o (yielded ops a.tmps)= true) (hv:args.map a.eval= vals)
  (h:Calls P f vals.toArray w fun e w'=>(∃ v,e= .returned v/\S w'/\wpOrd P ops S Q r (a.put d v) w')\/∃ c,e= .panicked c/\Q (.panic c) a w'):wpOrd P ops S Q ((i,false)::r) a w:=by
 subst hd
 refine z4e o hi hw fun K hK=> ?_
 unfold Oper.wp
 rw[show(execOp a.eval o).run P w= .ok (.enter f vals.toArray) w by rw[← hv,← List.map_toArray];exact z3Z hf hn hb o args.toArray ts ho,Oper.upon_enter]
 refine h.mono fun e w' he=> ?_
 rcases he with ⟨v,rfl,hS,hh⟩|⟨c,rfl,hq⟩
 ·exact hK _ _ hS hh
 ·exact hq
end
end
end Go.Proofs.YtdjfpcmlffekkaaGreatDoor
