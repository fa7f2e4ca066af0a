/- Parts of a proof: Walk, SmallV, Par1, Build1, Order5, Par2, IndexV, Par3, Prim, ParL, LabsP, Order6. -/
import Derived.Test.YteolfamhmfidbaaGreatDoorProg
import Derived.Deep.DeepCutAuto
import Derived.Deep.LoopGhost
import Derived.Deep.Cut
import Derived.Deep.Draws
import Derived.Deep.QuietTactic
import Derived.BigQuiet
import Derived.BigRegion
import Derived.Maps.RangeWalk
import Derived.StillTailTactics
import Derived.WalkMore
import Derived.RegionTactic
import Derived.Lib.SliceRun
import Derived.Lib.Hide
import Derived.Test.YteolfamhmfidbaaGreatDoorPackJ3
import Derived.Test.YteolfamhmfidbaaGreatDoorPackJ5
import Derived.Test.YteolfamhmfidbaaGreatDoorPackJ6
set_option maxHeartbeats 8000000
set_option maxRecDepth 100000
set_option linter.unusedVariables false
set_option linter.unusedSimpArgs false
namespace Go.Proofs.YteolfamhmfidbaaGreatDoor
section
open Go.RowKit
def z6n (w:World) (e:Ending) (w':World):Prop:=∃ n:Int,e= .returned (.int .i64 n)/\Below w.heap.size w w'
def z4Z (w:World) (e:Ending) (w':World):Prop:=∃ b:Bool,e= .returned (.bool b)/\Below w.heap.size w w'
theorem zp (w:World) (cs:Array Value) (T:TypeId) (i:Nat):(w.alloc (.cells cs T)).cell? ⟨w.heap.size,i,none⟩= cs[i]?:=
 cell_of_row _ w.heap.size i cs T (0,0) (heap_alloc_new w _)
theorem zm (w:World) (cs:List Value) (T:TypeId):(w.alloc (.cells ⟨cs⟩ T)).rangeAt w.heap.size 0 cs:=fun j v hv=>by
 rw[Nat.zero_add,zp];simpa using hv
theorem z0l (w:World) (cs:List Value) (T:TypeId):∀ j v,cs[j]?= some v->(w.alloc (.cells ⟨cs⟩ T)).cell? ⟨w.heap.size,j,none⟩= some v:=fun j v hv=>by
 rw[zp];simpa using hv
theorem zc (w:World) (o:Obj):Below w.heap.size w (w.alloc o):=(Below.refl w.heap.size w).alloc (Nat.le_refl _) o
theorem zw (w:World) (o:Obj):w.heap.size <(w.alloc o).heap.size:=by simp
theorem z2c {B:Nat} {u w:World} (h:Below B u w) {b:Nat} (hb:B<=b) (vs:List Value):∀ o,Below B u (w.setCells b o vs):=by
 induction vs generalizing w with
 |nil=>intro o;exact h
 |cons v vs ih=>intro o;exact ih (w:=w.setCell ⟨b,o,none⟩ v) (h.setCell hb v) (o+1)
theorem z7m (b:Nat) (vs:List Value):∀ (o:Nat) (w:World),(w.setCells b o vs).heap.size= w.heap.size:=by
 induction vs with
 |nil=>intro o w;rfl
 |cons v vs ih=>intro o w;exact(ih (o+1) (w.setCell ⟨b,o,none⟩ v)).trans (by simp[World.setCell])
theorem z3m (w:World) (cs:Array Value) (T:TypeId) (i:Nat):(w.alloc (.cells cs T)).frozen? ⟨w.heap.size,i,none⟩= false:=by
 have h:=heap_alloc_new w (.cells cs T)
 unfold World.frozen?
 rw[h]
 simp
theorem z7q (w:World) (z:Array Value) (T:TypeId):(w.alloc (.cells z T)).there w.heap.size 0 z.size:=fun j hj=>by
 rw[Nat.zero_add,zp,z3m]
 exact⟨by rw[Array.getElem?_eq_getElem hj];rfl,rfl⟩
def Tag (w:World) (b:Nat) (T:TypeId):Prop:=∃ c,w.heap[b]?= some (.cells c T (0,0))
theorem Tag.set {w:World} {b:Nat} {T:TypeId} (h:Tag w b T) (p:Addr) (v:Value):Tag (w.setCell p v) b T:=by
 obtain⟨c,hc⟩:=h
 unfold World.setCell Tag
 simp only[Array.getElem?_modify,hc]
 split
 ·exact⟨_,rfl⟩
 ·exact⟨_,rfl⟩
theorem Tag.sets {b:Nat} {T:TypeId} (q:Nat) (vs:List Value):∀ (o:Nat) {w:World},Tag w b T->Tag (w.setCells q o vs) b T:=by
 induction vs with
 |nil=>intro o w h;exact h
 |cons v vs ih=>intro o w h;exact ih (o+1) (h.set ⟨q,o,none⟩ v)
theorem OwnSl.apart {α:Type} {T T':TypeId} {k nb base:Nat} {enc:α->List Value} {w:World} {v:Value} {l:List α} (h:OwnSl T k enc w base v l) (ht:Tag w nb T') (hne:T≠T'):some nb≠v.ownBlock:=by
 intro hb
 obtain⟨c,hc⟩:=ht
 rcases h.2 with ⟨rfl,_⟩|⟨g,cap,cur,rfl,_,hg,_⟩
 ·cases hb
 ·have:nb= g:=by simpa [Value.ownBlock] using hb
  subst this
  rw[hc] at hg
  injection hg with hg
  injection hg with _ hg _
  exact hne hg.symm
structure Boxed (T:TypeId) (w W:World) (cs:List Value):Prop where
 tag:Tag W w.heap.size T
 below:Below w.heap.size w W
 range:W.rangeAt w.heap.size 0 cs
 size:w.heap.size < W.heap.size
theorem z93 (w:World) (z:Array Value) (T:TypeId) (cs:List Value) (h:cs.length= z.size):Boxed T w ((w.alloc (.cells z T)).setCells w.heap.size 0 cs) cs:=
 ⟨Tag.sets _ _ _ ⟨z,heap_alloc_new w _⟩,z2c (zc w _) (Nat.le_refl _) cs 0,World.rangeAt_setCells_same _ _ _ _ (by rw[h];exact z7q w z T),by rw[z7m];simp⟩
section
variable {P:Program} {ops:Array Oper} {rest:List Oper} {o:Oper} {a:Act} {w:World} {Q:Exit->Act->World->Prop}
theorem z0c (T:TypeId) (x y:Operand) (ho:o.op= .store T x y) (hw:Region.wanted o (yielded ops a.tmps)= true) (w0:World) (z:Array Value) (cs:List Value) (hwld:w= w0.alloc (.cells z T)) (hz:cs.length= z.size)
  (hx:a.eval x= .pointer (some ⟨w0.heap.size,0,none⟩)) (hy:a.eval y= .agg cs.toArray) (hi:(P.info? T).map (·.size)= some cs.length) (h1:∀ v∈cs,v.oneCell'= true)
  (h:∀ Z,Boxed T w0 Z cs->wpList P ops Q rest (a.put o.dst undef) Z):wpList P ops Q (o::rest) a w:=by
 subst hwld
 exact z2C T x y ho hw w0.heap.size 0 cs hx hy (by rw[hz];exact z7q w0 z T) hi h1 (h _ (z93 w0 z T cs hz))
end
theorem Boxed.cell {T:TypeId} {w W:World} {cs:List Value} (h:Boxed T w W cs) (j:Nat) {v:Value} (hv:cs[j]?= some v):W.cell? ⟨w.heap.size,j,none⟩= some v:=by
 have:=h.range j v hv
 rwa [Nat.zero_add] at this
theorem Boxed.cell' {T:TypeId} {w W Z:World} {cs:List Value} (h:Boxed T w W cs) (hb:Below W.heap.size W Z) (j:Nat) {v:Value} (hv:cs[j]?= some v):Z.cell? ⟨w.heap.size,j,none⟩= some v:=
 (hb.cell (p:=⟨w.heap.size,j,none⟩) h.size).trans (h.cell j hv)
theorem Boxed.sub {T:TypeId} {w W Z:World} {cs:List Value} (h:Boxed T w W cs) (hb:Below W.heap.size W Z) (p q r:List Value) (hc:cs= p ++ q ++ r) (k:Nat) (hk:k= p.length):Z.rangeAt w.heap.size k q:=fun j v hv=>by
 subst hk
 have:=h.cell' hb (p.length+j) (v:=v) (by rw[hc,List.append_assoc,List.getElem?_append_right (by omega),show p.length+j - p.length= j by omega,List.getElem?_append_left (List.getElem?_eq_some_iff.1 hv).1];exact hv)
 exact this
theorem z3S {w:World} {b o:Nat} {p cs q:List Value} (h:w.rangeAt b o (p ++ cs ++ q)) (k:Nat) (hk:k= o+p.length):w.rangeAt b k cs:=fun j v hv=>by
 subst hk
 have:=h (p.length+j) v (by rw[List.append_assoc,List.getElem?_append_right (by omega),show p.length+j - p.length= j by omega,List.getElem?_append_left (List.getElem?_eq_some_iff.1 hv).1];exact hv)
 rw[Nat.add_assoc];exact this
theorem z5B {w:World} {b o:Nat} {cs:List Value} (h:w.rangeAt b o cs) (j:Nat) {v:Value} (hv:cs[j]?= some v):w.cell? ⟨b,o+j,none⟩= some v:=h j v hv
end
section
open Go.RowKit
def z5m (w:World) (e:Ending) (w':World):Prop:=∃ n:Int,0<=n/\n<=500/\e= .returned (.int .i64 n)/\Below w.heap.size w w'
theorem zg4:∀ (x:VT) (far:Nat) (cs:List Value) (w:World),far<=40->ValAt w w.heap.size cs x->Calls Tryz.prog 33 #[.agg ⟨cs⟩,.int .i64 far] w (z6n w):=by
 intro x
 induction x using VT.ind with
 |h k n f s ns its ih=>
  intro far cs w hfar hv
  obtain⟨vn,vi,rfl,_,_,_,_,_,hil,hi⟩:=hv.inv
  obtain⟨_,A,c,rfl,hA⟩:=hi
  have HA:=I hA
  have IH:=I ih
  unfold maxLen at hil
  clear hA hv ih
  go_enter Tryz.func33,Tryz.ntmps33
  go_upto_region 1 with (fail)
  have hb0:=zc w (.cells ⟨[.int .i64 k,.int .i64 n,.float .f64 f,.string s,vn,.slice A its.length c]⟩ 27)
  have hz0:=zw w (.cells ⟨[.int .i64 k,.int .i64 n,.float .f64 f,.string s,vn,.slice A its.length c]⟩ 27)
  have c5:=zp w ⟨[.int .i64 k,.int .i64 n,.float .f64 f,.string s,vn,.slice A its.length c]⟩ 27 5
  generalize w.alloc (.cells ⟨[.int .i64 k,.int .i64 n,.float .f64 f,.string s,vn,.slice A its.length c]⟩ 27)= W at*
  have HB:=I hb0
  have C5:=I c5
  have HSZ:=I hz0
  clear hb0 c5 hz0
  go_wp2
  go_loopg [5,6] its.length (fun g m i wr=>∃ (j:Nat) (x:Int),j+g= its.length/\i= .int .i64 j/\m= .int .i64 x/\Below W.heap.size W wr)
  case atStart=>exact⟨0,0,by omega,rfl,rfl,Below.refl _ _⟩
  case round=>
   obtain⟨j,x,hj,rfl,rfl,hb⟩:=hrel
   have HB1:=I hb
   have d5:=(hb.cell (p:=⟨w.heap.size,5,none⟩) HSZ.o).trans C5.o
   clear hb
   simp only[List.getElem?_toArray,List.getElem?_cons_succ,List.getElem?_cons_zero] at d5
   cases gk with
   |zero=>
    have hge: ¬ ((j:Int) <(its.length:Int)):=by omega
    go_wp2
    go_ret
    exact⟨_,rfl,HB.o.trans (HB1.o.mono HB.o.size)⟩
   |succ g=>
    have hlt:(j:Int) <(its.length:Int):=by omega
    by_cases h0:far= 0
    ·subst h0
     go_wp2
     go_ret
     exact⟨_,rfl,HB.o.trans (HB1.o.mono HB.o.size)⟩
    ·have hpos:(0:Int) <(far:Int):=by omega
     have hz2:w.heap.size<=wr.heap.size:=Nat.le_trans HB.o.size HB1.o.size
     obtain⟨y,hy⟩:∃ y,its[j]?= some y:=⟨_,List.getElem?_eq_getElem (by omega)⟩
     obtain⟨b,o,rfl,hbb,hc⟩:=HA.o (by omega)
     obtain⟨cs,hcl,hr,hR⟩:=hc j y hy
     have hB2:=HB.o.trans (HB1.o.mono HB.o.size)
     have HR:=I (za hr hB2 hbb)
     have HC:=I (IH.o y (List.mem_of_getElem? hy) (far - 1) cs wr (by omega) ((hR.under hB2).more hB2.size))
     have HCL:=I hcl
     have hf1:((far - 1:Nat):Int)=(far:Int) - 1:=by omega
     clear hc hr hR hB2 hy hcl h0
     rw[hf1] at HC
     clear hf1
     go_wp2_with (first|(with_reducible refine z7 27 _ rfl ?hw b (o+j*6) cs _ rfl HR.o Tryz.underlying27 rfl ?hi ?_;(case hw=>exact wA rfl);(case hi=>rw[HCL.o];kernel_rfl))|(go_at_call 33;refine HC.o.mono ?_;rintro e w' ⟨z,rfl,hb⟩;have HB2:=I hb;clear hb))
     all_goals
      go_roundg g
      case measure=>omega
      case rel=>exact⟨j+1,_,by omega,by go_num,rfl,HB1.o.trans (HB2.o.mono HB1.o.size)⟩
theorem zgo:∀ (x:VT) (m:Int) (cs:List Value) (w:World),0<=m->m < 500->ValAt w w.heap.size cs x->Calls Tryz.prog 61 #[.agg ⟨cs⟩,.int .i64 m] w (z5m w):=by
 intro x
 induction x using VT.ind with
 |h k n f s ns its ih=>
  intro m cs w hm0 hm1 hv
  obtain⟨vn,vi,rfl,_,_,_,_,_,hil,hi⟩:=hv.inv
  obtain⟨_,A,c,rfl,hA⟩:=hi
  have HA:=I hA
  have IH:=I ih
  unfold maxLen at hil
  clear hA hv ih
  go_enter Tryz.func61,Tryz.ntmps61
  go_upto_region 1 with (fail)
  have hb0:=zc w (.cells ⟨[.int .i64 k,.int .i64 n,.float .f64 f,.string s,vn,.slice A its.length c]⟩ 27)
  have hz0:=zw w (.cells ⟨[.int .i64 k,.int .i64 n,.float .f64 f,.string s,vn,.slice A its.length c]⟩ 27)
  have c5:=zp w ⟨[.int .i64 k,.int .i64 n,.float .f64 f,.string s,vn,.slice A its.length c]⟩ 27 5
  generalize w.alloc (.cells ⟨[.int .i64 k,.int .i64 n,.float .f64 f,.string s,vn,.slice A its.length c]⟩ 27)= W at*
  have HB:=I hb0
  have C5:=I c5
  have HSZ:=I hz0
  clear hb0 c5 hz0
  go_wp2
  go_loopg [1,5] its.length (fun g u i wr=>∃ (j:Nat) (x:Int),j+g= its.length/\i= .int .i64 j/\u= .int .i64 x/\0<=x/\x<=500/\Below W.heap.size W wr)
  case atStart=>exact⟨0,m+1,by omega,rfl,rfl,by omega,by omega,Below.refl _ _⟩
  case round=>
   obtain⟨j,x,hj,rfl,rfl,hx0,hx1,hb⟩:=hrel
   have HB1:=I hb
   have d5:=(hb.cell (p:=⟨w.heap.size,5,none⟩) HSZ.o).trans C5.o
   clear hb
   simp only[List.getElem?_toArray,List.getElem?_cons_succ,List.getElem?_cons_zero] at d5
   cases gk with
   |zero=>
    have hge: ¬ ((j:Int) <(its.length:Int)):=by omega
    go_wp2
    all_goals
     go_ret
     exact⟨_,by omega,by omega,rfl,HB.o.trans (HB1.o.mono HB.o.size)⟩
   |succ g=>
    have hlt:(j:Int) <(its.length:Int):=by omega
    by_cases h0:x < 500
    ·have hz2:w.heap.size<=wr.heap.size:=Nat.le_trans HB.o.size HB1.o.size
     obtain⟨y,hy⟩:∃ y,its[j]?= some y:=⟨_,List.getElem?_eq_getElem (by omega)⟩
     obtain⟨b,o,rfl,hbb,hc⟩:=HA.o (by omega)
     obtain⟨cs,hcl,hr,hR⟩:=hc j y hy
     have hB2:=HB.o.trans (HB1.o.mono HB.o.size)
     have HR:=I (za hr hB2 hbb)
     have HC:=I (IH.o y (List.mem_of_getElem? hy) x cs wr hx0 h0 ((hR.under hB2).more hB2.size))
     have HCL:=I hcl
     clear hc hr hR hB2 hy hcl
     go_wp2_with (first|(with_reducible refine z7 27 _ rfl ?hw b (o+j*6) cs _ rfl HR.o Tryz.underlying27 rfl ?hi ?_;(case hw=>exact wA rfl);(case hi=>rw[HCL.o];kernel_rfl))|(go_at_call 61;refine HC.o.mono ?_;rintro e w' ⟨z,hz0,hz1,rfl,hb⟩;have HB2:=I hb;clear hb))
     go_roundg g
     case measure=>omega
     case rel=>exact⟨j+1,_,by omega,by go_num,rfl,hz0,hz1,HB1.o.trans (HB2.o.mono HB1.o.size)⟩
    ·go_wp2
     all_goals
      go_ret
      exact⟨_,by omega,by omega,rfl,HB.o.trans (HB1.o.mono HB.o.size)⟩
theorem vlen {w:World} {B:Nat} {cs:List Value} {x:VT} (h:ValAt w B cs x):cs.length= 6:=by
 cases h;rfl
theorem zgn (x:VT) (cs:List Value) (w:World) (hv:ValAt w w.heap.size cs x):Calls Tryz.prog 34 #[.agg ⟨cs⟩] w (z5m w):=by
 have HCL:=I (vlen hv)
 have HV:=I hv
 clear hv
 go_enter Tryz.func34,Tryz.ntmps34
 go_upto_region 1 with (fail)
 have HB:=I (zc w (.cells ⟨cs⟩ 27))
 have HR:=I (zm w cs 27)
 generalize w.alloc (.cells ⟨cs⟩ 27)= W at*
 have HC:=I (zgo x 0 cs W (by omega) (by omega) ((HV.o.under HB.o).more HB.o.size))
 go_wp2_with (first|(with_reducible refine z7 27 _ rfl ?hw w.heap.size 0 cs _ rfl HR.o Tryz.underlying27 rfl ?hi ?_;(case hw=>exact wA rfl);(case hi=>rw[HCL.o];kernel_rfl))|(go_at_call 61;refine HC.o.mono ?_;rintro e w' ⟨z,hz0,hz1,rfl,hb⟩;have HB2:=I hb;clear hb))
 go_ret
 exact⟨z,hz0,hz1,rfl,HB.o.trans (HB2.o.mono HB.o.size)⟩
theorem z7L (x:VT) (cs:List Value) (w:World) (hv:ValAt w w.heap.size cs x):Calls Tryz.prog 11 #[.agg ⟨cs⟩] w (z4Z w):=by
 have HCL:=I (vlen hv)
 have HV:=I hv
 clear hv
 go_enter Tryz.func11,Tryz.ntmps11
 go_upto_region 1 with (fail)
 have HB:=I (zc w (.cells ⟨cs⟩ 27))
 have HR:=I (zm w cs 27)
 have HSZ:=I (zw w (.cells ⟨cs⟩ 27))
 generalize w.alloc (.cells ⟨cs⟩ 27)= W at*
 have HC:=I (zg4 x 40 cs W (by omega) ((HV.o.under HB.o).more HB.o.size))
 go_wp2_with (first|(with_reducible refine z7 27 _ rfl ?hw w.heap.size 0 cs _ rfl HR.o Tryz.underlying27 rfl ?hi ?_;(case hw=>exact wA rfl);(case hi=>rw[HCL.o];kernel_rfl))|(go_at_call 33;fail))
 refine HC.o.mono ?_
 rintro e w2 ⟨z,rfl,hb⟩
 have HB2:=I (HB.o.trans (hb.mono HB.o.size))
 have HR2:=I (za HR.o hb HSZ.o)
 have HC2:=I (zgn x cs w2 ((HV.o.under HB2.o).more HB2.o.size))
 clear hb HC
 by_cases hz:z<=30
 ·go_wp2_with (first|(with_reducible refine z7 27 _ rfl ?hw w.heap.size 0 cs _ rfl HR2.o Tryz.underlying27 rfl ?hi ?_;(case hw=>exact wA rfl);(case hi=>rw[HCL.o];kernel_rfl))|(go_at_call 34;refine HC2.o.mono ?_;rintro e w' ⟨y,hy0,hy1,rfl,hb⟩;have HB3:=I hb;clear hb))
  all_goals
   go_ret
   exact⟨_,rfl,HB2.o.trans (HB3.o.mono HB2.o.size)⟩
 ·go_wp2
  all_goals
   go_ret
   exact⟨_,rfl,HB2.o⟩
end
section
open Go Go.RowKit
abbrev PSt (pb tb c:Nat) (E:Int) (toks:List Tok) (w:World) (i:Nat) (d:Int):Prop:=PS 134 pb tb c E toks w i d
def isB (toks:List Tok) (i:Nat) (s:ByteArray):Bool:=match toks[i]? with
 |some t=>decide (t.kind= 6) && (t.s.toList ==s.toList)
 |none=>false
section
variable {pb tb c:Nat} {E:Int} {toks:List Tok} {w w':World} {i:Nat} {d:Int}
theorem zf2 (s:ByteArray) (h:PSt pb tb c E toks w i d):Calls Tryz.prog 165 #[.pointer (some ⟨pb,0,none⟩),.string s] w fun e w'=>e= .returned (.bool (isB toks i s))/\Below w.heap.size w w':=by
 have HB:Hid (∀ n,Below w.heap.size w (w.drewN n)):=I fun n=>⟨rfl,rfl,rfl,Nat.le_refl _,fun _ _=>rfl⟩
 have d0:=h.cell 0
 have d1:=h.cell 1
 have d3:=h.cell 3
 simp only[List.getElem?_toArray,List.getElem?_cons_succ,List.getElem?_cons_zero] at d0 d1 d3
 have hl:=h.len
 by_cases hi:i < toks.length
 ·obtain⟨t,ht⟩:∃ t,toks[i]?= some t:=⟨_,List.getElem?_eq_getElem hi⟩
  have hr:=h.tok i t ht
  have c0:w.cell? ⟨tb,i*6,none⟩= some (.int .i64 t.kind):=hr 0 _ rfl
  have c5:w.cell? ⟨tb,i*6+5,none⟩= some (.string t.s):=hr 5 _ rfl
  have hlt:(i:Int) <(toks.length:Int):=by omega
  have hb:isB toks i s=(decide (t.kind= 6) && (t.s.toList ==s.toList)):=by unfold isB;rw[ht]
  by_cases hk:t.kind= 6
  ·have e6:(t.kind ==6)= true:=by simpa using hk
   have hb2:isB toks i s=(t.s.toList ==s.toList):=by rw[hb,decide_eq_true hk];rfl
   have HR:=I hb2
   clear h hr ht hb hb2 hk
   generalize t.kind= tk at*
   go_enter Tryz.func165,Tryz.ntmps165
   go_upto_region 1 with (fail)
   go_quiet (fail)
   go_wp2
   go_ret
   exact⟨by rw[HR.o];rfl,HB.o _⟩
  ·have e6:(t.kind ==6)= false:=by simpa using hk
   have HR:Hid (isB toks i s= false):=I (by rw[hb,decide_eq_false hk];rfl)
   clear h hr ht hb c5
   generalize t.kind= tk at*
   go_enter Tryz.func165,Tryz.ntmps165
   go_upto_region 1 with (fail)
   go_quiet (fail)
   go_wp2
   go_ret
   exact⟨by rw[HR.o];rfl,HB.o _⟩
 ·have HR:Hid (isB toks i s= false):=I (by unfold isB;rw[List.getElem?_eq_none (by omega)])
  have hlt: ¬ ((i:Int) <(toks.length:Int)):=by omega
  clear h hi
  go_enter Tryz.func165,Tryz.ntmps165
  go_upto_region 1 with (fail)
  go_quiet (fail)
  go_wp2
  go_ret
  exact⟨by rw[HR.o];rfl,HB.o _⟩
theorem z1s {s:ByteArray} (h:isB toks i s= true):i < toks.length:=by
 unfold isB at h
 cases ht:toks[i]? with
 |none=>rw[ht] at h;cases h
 |some t=>exact(List.getElem?_eq_some_iff.1 ht).1
theorem PS.keepB {T:TypeId} (h:PS T pb tb c E toks w i d) (hb:Below w.heap.size w w'):PS T pb tb c E toks w' i d/\But w w' pb pb:=⟨h.keep hb,But.of_below hb pb pb⟩
theorem z8j (s:ByteArray) (h:PSt pb tb c E toks w i d):Calls Tryz.prog 125 #[.pointer (some ⟨pb,0,none⟩),.string s] w fun e w'=>
  e= .returned (.bool (isB toks i s))/\PSt pb tb c E toks w' (if isB toks i s= true then i+1 else i) d/\But w w' pb pb:=by
 have HI:=I (zf2 s h)
 have H:=I h
 cases hb:isB toks i s with
 |false=>
  rw[hb] at HI
  clear h hb
  go_enter Tryz.func125,Tryz.ntmps125
  go_wp2_with (go_at_call 165;refine HI.o.mono ?_;rintro e z ⟨rfl,hb⟩;have HB:=I hb;clear hb)
  go_ret
  exact⟨rfl,(H.o.keepB HB.o).1,(H.o.keepB HB.o).2⟩
 |true=>
  have hlt:=z1s hb
  have hl:=h.len
  rw[hb] at HI
  have HW:Hid (IntKind.i64.wrap ((i:Int)+1)=((i+1:Nat):Int)):=I (by rw[IntKind.wrap_i64];omega)
  clear h hb
  go_enter Tryz.func125,Tryz.ntmps125
  go_upto_region 2 with (go_at_call 165;refine HI.o.mono ?_;rintro e z ⟨rfl,hb⟩;have HB:=I hb;have d1:=(H.o.keep hb).cell 1;have f1:=(H.o.keep hb).thaw 1;clear hb)
  simp only[List.getElem?_toArray,List.getElem?_cons_succ,List.getElem?_cons_zero] at d1
  go_wp2
  go_ret
  have h2:=(H.o.keep HB.o).setI (i+1)
  have h3:=(But.of_below HB.o pb pb).trans (But.setAt z pb 1 (.int .i64 ((i+1:Nat):Int)))
  exact⟨rfl,h2,h3⟩
theorem zN {s:ByteArray} (h:PSt pb tb c E toks w i d) (hb:isB toks i s= false):Calls Tryz.prog 125 #[.pointer (some ⟨pb,0,none⟩),.string s] w fun e w'=>
  e= .returned (.bool false)/\PSt pb tb c E toks w' i d/\But w w' pb pb:=by
 have:=z8j s h
 rw[hb] at this
 exact this
theorem z0H {s:ByteArray} (h:PSt pb tb c E toks w i d) (hb:isB toks i s= true):Calls Tryz.prog 125 #[.pointer (some ⟨pb,0,none⟩),.string s] w fun e w'=>
  e= .returned (.bool true)/\PSt pb tb c E toks w' (i+1) d/\But w w' pb pb:=by
 have:=z8j s h
 rw[hb] at this
 exact this
theorem zek {s:ByteArray} (h:PSt pb tb c E toks w i d) (hb:isB toks i s= true):Calls Tryz.prog 126 #[.pointer (some ⟨pb,0,none⟩),.string s] w fun e w'=>
  e= .returned (.tuple #[])/\PSt pb tb c E toks w' (i+1) d/\But w w' pb pb:=by
 have HT:=I (z0H h hb)
 clear h hb
 go_enter Tryz.func126,Tryz.ntmps126
 go_wp2_with (go_at_call 125;refine HT.o.mono ?_;rintro e z ⟨rfl,h1,h2⟩;have H1:=I h1;have H2:=I h2;clear h1 h2)
 (try simp only[Exit.inBlock,Exit.then])
 refine bodyPost_end (results_none rfl _ _ _) rfl ?_
 exact⟨rfl,H1.o,H2.o⟩
theorem z8L (h:PSt pb tb c E toks w i d) (h0:0<=d) (h1:d < 100):Calls Tryz.prog 123 #[.pointer (some ⟨pb,0,none⟩)] w fun e w'=>
  e= .returned (.tuple #[])/\PSt pb tb c E toks w' i (d+1)/\But w w' pb pb:=by
 have H:=I (h.setD (d+1))
 have HB:=I (But.setAt w pb 5 (.int .i64 (d+1)))
 have d5:=h.cell 5
 have f5:=h.thaw 5
 simp only[List.getElem?_toArray,List.getElem?_cons_succ,List.getElem?_cons_zero] at d5
 have t1: ¬ (100 < d+1):=by omega
 have t2:decide (100 < d+1)= false:=decide_eq_false t1
 clear h
 go_enter Tryz.func123,Tryz.ntmps123
 go_wp2
 (try simp only[Exit.inBlock,Exit.then])
 refine bodyPost_end (results_none rfl _ _ _) rfl ?_
 exact⟨rfl,H.o,HB.o⟩
end
end
section
open Go
theorem z76:∀ (ks pre rest:List Value),rest.length= ks.length->
  (ks.zipIdx pre.length).foldl (fun(cs:Array Value) (p:Value × Nat)=>cs.setIfInBounds (0+p.2) p.1) (pre ++ rest).toArray=(pre ++ ks).toArray
 |[],pre,rest,h=>by
  rw[List.eq_nil_of_length_eq_zero h];rfl
 |k::ks,pre,rest,h=>by
  cases rest with
  |nil=>cases h
  |cons r rest=>
   rw[List.zipIdx_cons,List.foldl_cons]
   have h1:(pre ++ r::rest).toArray.setIfInBounds (0+pre.length) k=((pre ++ [k]) ++ rest).toArray:=by
    rw[Nat.zero_add,List.setIfInBounds_toArray]
    congr 1
    simp
   show List.foldl _ ((pre ++ r::rest).toArray.setIfInBounds (0+pre.length) k) _= _
   rw[h1]
   have:=z76 ks (pre ++ [k]) rest (by simpa using h)
   rw[List.length_append] at this
   rw[List.append_assoc] at this ⊢
   rw[List.append_assoc] at this
   exact this
theorem zev (size:Nat) (ks:List Value) (cells:Array Value) (h1:ks.length= size) (h2:cells.size= size):Instr.fill (fun i=>some (i*size,size)) cells [(0,.agg ks.toArray)]= some ks.toArray:=by
 unfold Instr.fill
 simp only[Nat.zero_mul]
 have hc:(Value.agg ks.toArray).cells= ks.toArray:=rfl
 rw[hc]
 rw[if_neg (by simp[h1,h2])]
 unfold Instr.fill
 congr 1
 have:=z76 ks [] cells.toList (by simpa [h1] using h2)
 simpa using this
section
variable {P:Program}
theorem z5D (w:World) (t e:TypeId) (i:TypeInfo) (z:Value) (ks:List Value) (ht:P.underlying t= some (.slice e)) (hi:P.info? e= some i) (hz:i.zero= some z) (hsz:i.size= ks.length) (h0:0 < ks.length) (hmax:ks.length<=1000):
  (Instr.buildSlice t 1 #[(0,.agg ks.toArray)]).run P w= .ok (.slice (some ⟨w.heap.size,0,none⟩) 1 1) (w.alloc (.cells ⟨ks⟩ e)):=by
 have hs:(sizeOf e).run P w= .ok ks.length w:=by simp[sizeOf,typeInfo,hi,hsz]
 have hzv:(zeroValue e).run P w= .ok z w:=by simp[zeroValue,typeInfo,hi,hz]
 have hf:∀ cells:Array Value,cells.size= ks.length->Instr.fill (fun i=>some (i*ks.length,ks.length)) cells [(0,.agg ks.toArray)]= some ks.toArray:=fun cells hc=>zev ks.length ks cells rfl hc
 unfold Instr.buildSlice
 simp only[Sem.run_bind,run_underlying ht,Result.andThen_ok,hs,Nat.one_mul]
 rw[if_neg (by omega),if_neg (by omega)]
 simp only[Sem.run_bind,Sem.run_pure,Result.andThen_ok,hzv]
 rw[hf _ (by simp)]
 simp[newRow]
variable {ops:Array Oper} {rest:List Oper} {o:Oper} {a:Act} {w:World} {Q:Exit->Act->World->Prop}
theorem z1f (t:TypeId) (x:Operand) (ho:o.op= .buildSlice t 1 #[(0,x)]) (hw:Region.wanted o (yielded ops a.tmps)= true) (e:TypeId) (i:TypeInfo) (z:Value) (ks:List Value) (hx:a.eval x= .agg ks.toArray)
  (ht:P.underlying t= some (.slice e)) (hi:P.info? e= some i) (hz:i.zero= some z) (hsz:i.size= ks.length) (h0:0 < ks.length) (hmax:ks.length<=1000)
  (h:wpList P ops Q rest (a.put o.dst (.slice (some ⟨w.heap.size,0,none⟩) 1 1)) (w.alloc (.cells ⟨ks⟩ e))):wpList P ops Q (o::rest) a w:=by
 refine wpList_step fun K hK=> ?_
 rw[if_pos hw]
 unfold Oper.wp execOp
 have hr:=z5D (P:=P) w t e i z ks ht hi hz hsz h0 hmax
 simp only[ho,List.map_toArray,List.map_cons,List.map_nil,hx,Sem.run_bind,Sem.run_pure,Result.andThen_ok,hr]
 exact hK _ _ h
end
end
section
open Go
section
variable {P:Program} {ops:Array Oper} {S:World->Prop} {Q:Exit->Act->World->Prop} {i:Nat} {r:OrdT} {a:Act} {w:World}
end
theorem z6d:∀ (ks:List Value) (n m:Nat) (pre mid post:List Value),mid.length= ks.length->n+m= pre.length->
  (ks.zipIdx m).foldl (fun(cs:Array Value) (p:Value × Nat)=>cs.setIfInBounds (n+p.2) p.1) (pre ++ mid ++ post).toArray=(pre ++ ks ++ post).toArray
 |[],n,m,pre,mid,post,h,_=>by
  rw[List.eq_nil_of_length_eq_zero h];rfl
 |k::ks,n,m,pre,mid,post,h,hn=>by
  cases mid with
  |nil=>cases h
  |cons x mid=>
   rw[List.zipIdx_cons,List.foldl_cons]
   have h1:(pre ++ x::mid ++ post).toArray.setIfInBounds (n+m) k=((pre ++ [k]) ++ mid ++ post).toArray:=by
    rw[hn,List.setIfInBounds_toArray]
    congr 1
    simp
   show List.foldl _ ((pre ++ x::mid ++ post).toArray.setIfInBounds (n+m) k) _= _
   rw[h1]
   have:=z6d ks n (m+1) (pre ++ [k]) mid post (by simpa using h) (by rw[List.length_append,List.length_singleton];omega)
   rw[this]
   congr 1
   simp
theorem z7Y (size:Nat) (k1 k2:List Value) (cells:Array Value) (h1:k1.length= size) (h2:k2.length= size) (hc:cells.size= 2*size):
  Instr.fill (fun i=>some (i*size,size)) cells [(0,.agg k1.toArray),(1,.agg k2.toArray)]= some (k1 ++ k2).toArray:=by
 have e1:(Value.agg k1.toArray).cells= k1.toArray:=rfl
 have e2:(Value.agg k2.toArray).cells= k2.toArray:=rfl
 obtain⟨m1,m2,hm,hl1,hl2⟩:∃ m1 m2:List Value,cells=(m1 ++ m2).toArray/\m1.length= size/\m2.length= size:=by
  refine⟨cells.toList.take size,cells.toList.drop size,by simp,?_,?_⟩
  ·rw[List.length_take,Array.length_toList];omega
  ·rw[List.length_drop,Array.length_toList];omega
 subst hm
 unfold Instr.fill
 simp only[e1]
 rw[if_neg (by simp[h1,hl1,hl2])]
 have f1:=z6d k1 (0*size) 0 [] m1 m2 (by rw[hl1,h1]) (by simp)
 rw[List.nil_append,List.nil_append] at f1
 have f1':(k1.toArray.zipIdx).foldl (fun(cs:Array Value) (p:Value × Nat)=>cs.setIfInBounds (0*size+p.2) p.1) (m1 ++ m2).toArray=(k1 ++ m2).toArray:=by
  rw[← f1];simp
 rw[show(k1.toArray.zipIdx.foldl (fun cs x=>match x with|(c,j)=>cs.setIfInBounds (0*size+j) c) (m1 ++ m2).toArray)=(k1 ++ m2).toArray from f1']
 unfold Instr.fill
 simp only[e2]
 rw[if_neg (by simp[h1,h2,hl2])]
 have f2:=z6d k2 (1*size) 0 k1 m2 [] (by rw[hl2,h2]) (by rw[h1];simp)
 rw[List.append_nil,List.append_nil] at f2
 have f2':(k2.toArray.zipIdx).foldl (fun(cs:Array Value) (p:Value × Nat)=>cs.setIfInBounds (1*size+p.2) p.1) (k1 ++ m2).toArray=(k1 ++ k2).toArray:=by
  rw[← f2];simp
 rw[show(k2.toArray.zipIdx.foldl (fun cs x=>match x with|(c,j)=>cs.setIfInBounds (1*size+j) c) (k1 ++ m2).toArray)=(k1 ++ k2).toArray from f2']
 rfl
section
variable {P:Program}
theorem zay (w:World) (t e:TypeId) (i:TypeInfo) (z:Value) (k1 k2:List Value) (ht:P.underlying t= some (.slice e)) (hi:P.info? e= some i) (hz:i.zero= some z) (hsz:i.size= k1.length) (hs2:k2.length= k1.length) (h0:0 < k1.length) (hmax:k1.length<=1000):
  (Instr.buildSlice t 2 #[(0,.agg k1.toArray),(1,.agg k2.toArray)]).run P w= .ok (.slice (some ⟨w.heap.size,0,none⟩) 2 2) (w.alloc (.cells ⟨k1 ++ k2⟩ e)):=by
 have hs:(sizeOf e).run P w= .ok k1.length w:=by simp[sizeOf,typeInfo,hi,hsz]
 have hzv:(zeroValue e).run P w= .ok z w:=by simp[zeroValue,typeInfo,hi,hz]
 have hf:∀ cells:Array Value,cells.size= 2*k1.length->Instr.fill (fun i=>some (i*k1.length,k1.length)) cells [(0,.agg k1.toArray),(1,.agg k2.toArray)]= some (k1 ++ k2).toArray:=fun cells hc=>z7Y k1.length k1 k2 cells rfl hs2 hc
 unfold Instr.buildSlice
 simp only[Sem.run_bind,run_underlying ht,Result.andThen_ok,hs]
 rw[if_neg (by omega),if_neg (by omega)]
 simp only[Sem.run_bind,Sem.run_pure,Result.andThen_ok,hzv]
 rw[hf _ (by simp)]
 simp[newRow]
variable {o:Oper} {a:Act} {w:World}
theorem z91 (t:TypeId) (x y:Operand) (ho:o.op= .buildSlice t 2 #[(0,x),(1,y)]) (e:TypeId) (i:TypeInfo) (z:Value) (k1 k2:List Value) (hx:a.eval x= .agg k1.toArray) (hy:a.eval y= .agg k2.toArray)
  (ht:P.underlying t= some (.slice e)) (hi:P.info? e= some i) (hz:i.zero= some z) (hsz:i.size= k1.length) (hs2:k2.length= k1.length) (h0:0 < k1.length) (hmax:k1.length<=1000):
  (execOp a.eval o).run P w= .ok (.value (.slice (some ⟨w.heap.size,0,none⟩) 2 2)) (w.alloc (.cells ⟨k1 ++ k2⟩ e)):=by
 unfold execOp
 have hr:=zay (P:=P) w t e i z k1 k2 ht hi hz hsz hs2 h0 hmax
 simp only[ho,List.map_toArray,List.map_cons,List.map_nil,hx,hy,Sem.run_bind,Sem.run_pure,Result.andThen_ok,hr]
end
end
section
open Go Go.RowKit
section
variable {P:Program} {ops:Array Oper} {rest:List Oper} {o:Oper} {a:Act} {w:World} {Q:Exit->Act->World->Prop}
theorem zbL (t:TypeId) (x y:Operand) (ho:o.op= .buildSlice t 2 #[(0,x),(1,y)]) (hw:Region.wanted o (yielded ops a.tmps)= true) (e:TypeId) (i:TypeInfo) (z:Value) (k1 k2:List Value) (hx:a.eval x= .agg k1.toArray) (hy:a.eval y= .agg k2.toArray)
  (ht:P.underlying t= some (.slice e)) (hi:P.info? e= some i) (hz:i.zero= some z) (hsz:i.size= k1.length) (hs2:k2.length= k1.length) (h0:0 < k1.length) (hmax:k1.length<=1000)
  (h:wpList P ops Q rest (a.put o.dst (.slice (some ⟨w.heap.size,0,none⟩) 2 2)) (w.alloc (.cells ⟨k1 ++ k2⟩ e))):wpList P ops Q (o::rest) a w:=by
 refine wpList_step fun K hK=> ?_
 rw[if_pos hw]
 unfold Oper.wp
 rw[z91 t x y ho e i z k1 k2 hx hy ht hi hz hsz hs2 h0 hmax]
 exact hK _ _ h
def Whole (T:TypeId) (w:World) (b:Nat) (cs:List Value):Prop:=w.heap[b]?= some (.cells ⟨cs⟩ T (0,0))
theorem Whole.new (w:World) (cs:List Value) (T:TypeId):Whole T (w.alloc (.cells ⟨cs⟩ T)) w.heap.size cs:=heap_alloc_new w _
theorem Whole.range {T:TypeId} {b:Nat} {cs:List Value} (h:Whole T w b cs):w.rangeAt b 0 cs:=by
 intro j v hv
 rw[Nat.zero_add]
 rw[cell_of_row w b j ⟨cs⟩ T _ h]
 simpa using hv
theorem Whole.lt {T:TypeId} {b:Nat} {cs:List Value} (h:Whole T w b cs):b < w.heap.size:=by
 rcases Nat.lt_or_ge b w.heap.size with h1|h1
 ·exact h1
 ·unfold Whole at h;rw[Array.getElem?_eq_none h1] at h;cases h
theorem Whole.keep {T:TypeId} {w':World} {b:Nat} {cs:List Value} (h:Whole T w b cs) (hb:w'.heap[b]?= w.heap[b]?):Whole T w' b cs:=hb.trans h
theorem Whole.there {T:TypeId} {b:Nat} {cs:List Value} (h:Whole T w b cs):w.there b 0 cs.length:=by
 intro j hj
 rw[Nat.zero_add,cell_of_row w b j ⟨cs⟩ T _ h]
 refine⟨by simp[hj],?_⟩
 unfold World.frozen?
 have h2:w.heap[b]?= some (.cells ⟨cs⟩ T (0,0)):=h
 simp[h2]
theorem Whole.tag {T:TypeId} {b:Nat} {cs:List Value} (h:Whole T w b cs):Tag w b T:=⟨_,h⟩
theorem z2u (b:Nat) (T:TypeId):∀ (vs pre mid:List Value) (w:World),w.heap[b]?= some (.cells ⟨pre ++ mid⟩ T (0,0))->mid.length= vs.length->(w.setCells b pre.length vs).heap[b]?= some (.cells ⟨pre ++ vs⟩ T (0,0))
 |[],pre,mid,w,h,hl=>by
  rw[List.eq_nil_of_length_eq_zero hl] at h
  exact h
 |v::vs,pre,[],w,h,hl=>by cases hl
 |v::vs,pre,m::mid,w,h,hl=>by
  have h1:(w.setCell ⟨b,pre.length,none⟩ v).heap[b]?= some (.cells ⟨(pre ++ [v]) ++ mid⟩ T (0,0)):=by
   show(w.heap.modify b _)[b]?= _
   rw[Array.getElem?_modify,if_pos rfl,h]
   simp
  have h2:=z2u b T vs (pre ++ [v]) mid (w.setCell ⟨b,pre.length,none⟩ v) h1 (by simpa using hl)
  rw[List.length_append] at h2
  have e:pre ++ [v] ++ vs= pre ++ v::vs:=by simp
  rw[e] at h2
  exact h2
theorem z4U (b:Nat):∀ (cs:List Value) (w:World) (i:Nat),But w (w.setCells b i cs) b b
 |[],w,_=>But.refl w b b
 |v::cs,w,i=>(But.setAt w b i v).trans (z4U b cs _ (i+1))
theorem zd (T:TypeId) (x y:Operand) (ho:o.op= .store T x y) (hn:o.dst= none) (hw:Region.wanted o (yielded ops a.tmps)= true) (b:Nat) (cs0 cs:List Value) (hb:Whole T w b cs0) (hl:cs0.length= cs.length)
  (hx:a.eval x= .pointer (some ⟨b,0,none⟩)) (hy:a.eval y= .agg cs.toArray) (hi:(P.info? T).map (·.size)= some cs.length) (h1:∀ v∈cs,v.oneCell'= true)
  (h:∀ Z,Whole T Z b cs->But w Z b b->wpList P ops Q rest a Z):wpList P ops Q (o::rest) a w:=by
 have h:=fun Z h1 h2=>(show wpList P ops Q rest (a.put o.dst undef) Z from by rw[hn];exact h Z h1 h2)
 refine z2C T x y ho hw b 0 cs hx hy (by rw[← hl];exact hb.there) hi h1 (h _ ?_ (z4U b cs w 0))
 have:=z2u b T cs [] cs0 w hb hl
 exact this
end
theorem But.block2 {w w':World} {p q:Nat} (h:But w w' p q) {b:Nat} (hb:b < w.heap.size) (h1:b≠p) (h2:b≠q):w'.heap[b]?= w.heap[b]?:=h.block b hb h1 h2
theorem zH {fn:Func} {p:Tmp} (h:fn.results= #[.cell p 30]) (tmps:Array Value) (w:World) (g:Nat) (cs:List Value) (hl:cs.length= 10)
  (hp:tmps.getD p undef= .pointer (some ⟨g,0,none⟩)) (hm:Whole 30 w g cs):(results fn tmps).run Tryz.prog w= .ok (.agg ⟨cs⟩) w:=by
 have hp':tmps[p]?.getD undef= .pointer (some ⟨g,0,none⟩):=by simpa using hp
 have hl:=run_loadVar_mid (P:=Tryz.prog) w g 0 30 cs _ hm.range Tryz.underlying30 rfl (by rw[hl];kernel_rfl)
 simp[results,h,hp',asAddr,hl]
def zV:VT:= .mk 0 0 0 ⟨#[]⟩ [] []
def zVc:List Value:=[.int .i64 0,.int .i64 0,.float .f64 0,.string ⟨#[]⟩,.slice none 0 0,.slice none 0 0]
def zEc:List Value:= .int .i64 0:: .string ⟨#[]⟩::(zVc ++ [.slice none 0 0,.slice none 0 0])
theorem z0v:(#[Value.int IntKind.i64 0,Value.string { data:= #[] },Value.int IntKind.i64 0,Value.int IntKind.i64 0,Value.float FloatKind.f64 0,Value.string { data:= #[] },Value.slice none 0 0,Value.slice none 0 0,Value.slice none 0 0,Value.slice none 0 0]:Array Value)= zEc.toArray:=rfl
def twoC (k:Int) (g:Nat):List Value:= .int .i64 k:: .string ⟨#[]⟩::(zVc ++ [.slice none 0 0,.slice (some ⟨g,0,none⟩) 2 2])
def twoE (k:Int) (x y:ET):ET:= .mk k ⟨#[]⟩ zV [] [x,y]
theorem zdN:(Tryz.prog.info? 30).map (fun i=>(i.zero,i.size,i.bytes))= some (some (.agg zEc.toArray),10,160):=by kernel_rfl
theorem z1c (k:Int) (ca cb:List Value) (ha:ca.length= 10) (hb:cb.length= 10) (h1:∀ v∈ca,v.oneCell'= true) (h2:∀ v∈cb,v.oneCell'= true) (w:World):
  Calls Tryz.prog 164 #[.int .i64 k,.agg ⟨ca⟩,.agg ⟨cb⟩] w fun e w'=>∃ g,e= .returned (.agg ⟨twoC k g⟩)/\w.heap.size<=g/\Whole 30 w' g (ca ++ cb)/\Below w.heap.size w w':=by
 obtain⟨i0,hi,hz0,hz1,hz2⟩:=info_parts zdN
 go_enter Tryz.func164,Tryz.ntmps164
 go_upto_region 1 with (fail)
 have HA:=I ((Whole.new w ca 30).keep (w':=((w.alloc (.cells ⟨ca⟩ 30)).alloc (.cells ⟨cb⟩ 30)).alloc (.cells zEc.toArray 30)) (by rw[Lib.alloc_old _ _ _ (by simp;omega),Lib.alloc_old _ _ _ (by simp)]))
 have HB:=I ((Whole.new (w.alloc (.cells ⟨ca⟩ 30)) cb 30).keep (w':=((w.alloc (.cells ⟨ca⟩ 30)).alloc (.cells ⟨cb⟩ 30)).alloc (.cells zEc.toArray 30)) (by rw[Lib.alloc_old _ _ _ (by simp)]))
 have HC:=I (Whole.new ((w.alloc (.cells ⟨ca⟩ 30)).alloc (.cells ⟨cb⟩ 30)) zEc 30)
 have HW:Hid (Below w.heap.size w (((w.alloc (.cells ⟨ca⟩ 30)).alloc (.cells ⟨cb⟩ 30)).alloc (.cells zEc.toArray 30))):=I ((((Below.refl _ w).alloc (Nat.le_refl _) _).alloc (by simp) _).alloc (by simp;omega) _)
 have HS:Hid ((((w.alloc (.cells ⟨ca⟩ 30)).alloc (.cells ⟨cb⟩ 30)).alloc (.cells zEc.toArray 30)).heap.size= w.heap.size+3):=I (by simp)
 have e1:(w.alloc (.cells ⟨ca⟩ 30)).heap.size= w.heap.size+1:=by simp
 have e2:((w.alloc (.cells ⟨ca⟩ 30)).alloc (.cells ⟨cb⟩ 30)).heap.size= w.heap.size+1+1:=by simp
 rw[e1] at HB
 rw[e2] at HC
 have hz:=z0v
 rw[hz]
 clear hz e1 e2
 generalize ((w.alloc (.cells ⟨ca⟩ 30)).alloc (.cells ⟨cb⟩ 30)).alloc (.cells zEc.toArray 30)= W at*
 obtain⟨p,hp⟩:∃ p,w.heap.size= p:=⟨_,rfl⟩
 rw[hp] at HA HB HC HS
 rw[hp]
 have HP:=I hp
 clear hp
 have HLA:=I ha
 have HLB:=I hb
 have HO1:=I h1
 have HO2:=I h2
 clear ha hb h1 h2
 have HG:=I (Whole.new W (ca ++ cb) 30)
 have HC2:=I (HC.o.keep (w':=W.alloc (.cells ⟨ca ++ cb⟩ 30)) (Lib.alloc_old _ _ _ HC.o.lt))
 have HW2:Hid (Below w.heap.size w (W.alloc (.cells ⟨ca ++ cb⟩ 30))):=I (HW.o.alloc HW.o.size _)
 have H2C:Hid (∀ g,(twoC k g).length= 10/\∀ v∈twoC k g,v.oneCell'= true):=I fun g=>⟨rfl,by intro v hv;simp only[twoC,zVc,List.mem_cons,List.mem_append,List.not_mem_nil,or_false] at hv;rcases hv with rfl|rfl|(rfl|rfl|rfl|rfl|rfl|rfl)|rfl|rfl<;>rfl⟩
 go_wp2_with (first
  |((with_reducible refine z7 30 _ rfl ?_ p 0 ca _ rfl HA.o.range Tryz.underlying30 rfl ?_ ?_);exact wA rfl;rw[HLA.o];kernel_rfl)
  |((with_reducible refine z7 30 _ rfl ?_ (p+1) 0 cb _ rfl HB.o.range Tryz.underlying30 rfl ?_ ?_);exact wA rfl;rw[HLB.o];kernel_rfl)
  |((with_reducible refine zbL _ _ _ rfl ?_ 30 i0 _ ca cb rfl rfl Tryz.underlying28 hi hz0 ?_ ?_ ?_ ?_ ?_);exact wA rfl;rw[hz1,HLA.o];rw[HLA.o,HLB.o];rw[HLA.o];decide;rw[HLA.o];decide)
  |((with_reducible refine zd 30 _ _ rfl rfl ?_ (p+1+1) zEc (twoC k W.heap.size) HC2.o ?_ ?_ ?_ ?_ ?_ ?_);exact wA rfl;rfl;rfl;rfl;rw[(H2C.o _).1];kernel_rfl;exact(H2C.o _).2;intro Z hz hb;have HZ:=I hz;have HZB:=I hb;clear hz hb))
 (try simp only[Exit.inBlock,Exit.then])
 refine bodyPost_ret (zH rfl _ _ (p+1+1) (twoC k W.heap.size) (H2C.o _).1 rfl HZ.o) rfl ?_
 have hp:=HP.o
 have hs:=HS.o
 refine⟨W.heap.size,rfl,by omega,?_,?_⟩
 ·exact HG.o.keep (HZB.o.block _ (by simp) (by omega) (by omega))
 ·exact HW2.o.trans (HZB.o.below HW2.o.size (by omega) (by omega))
end
section
open Go Go.RowKit
def z0V (s:ByteArray) (x:VarT):Bool:=x.name.toList ==s.toList
def findV:List VarT->ByteArray->Int
 |[],_=> -1
 |x::l,s=>if z0V s x= true then 0 else if findV l s= -1 then -1 else findV l s+1
theorem z3B {s:ByteArray}:∀ {l:List VarT},(∀ (k:Nat) x,l[k]?= some x->z0V s x= false)->findV l s= -1
 |[],_=>rfl
 |x::l,h=>by
  unfold findV
  rw[if_neg (by rw[h 0 x rfl];decide),z3B fun k y hy=>h (k+1) y hy,if_pos rfl]
theorem z2N {s:ByteArray}:∀ {l:List VarT} (j:Nat) (x:VarT),l[j]?= some x->z0V s x= true->(∀ k,k < j->∀ y,l[k]?= some y->z0V s y= false)->findV l s=(j:Int)
 |[],j,x,h,_,_=>by simp at h
 |a::l,0,x,h,hx,_=>by
  obtain rfl:a= x:=by simpa using h
  unfold findV
  rw[if_pos hx];rfl
 |a::l,j+1,x,h,hx,hno=>by
  have ih:=z2N (l:=l) j x (by simpa using h) hx fun k hk y hy=>hno (k+1) (by omega) y (by simpa using hy)
  unfold findV
  rw[if_neg (by rw[hno 0 (by omega) a rfl];decide),ih,if_neg (by omega)]
  omega
theorem z3H {w:World} {B:Nat} {ks:List Value} {x:VarT} (h:VarAt w B ks x):∃ a b c d e f g i j,ks=[.string x.name,.int .i64 x.label,a,b,c,d,e,f,g,i,j]:=by
 obtain⟨ct,ci,rfl,h3,h6,_,_⟩:=h.ex
 match ct,ci,h3,h6 with
 |[a,b,c],[d,e,f,g,i,j],_,_=>exact⟨a,b,c,d,e,f,g,i,j,rfl⟩
theorem zeg (nm s:ByteArray) (lb:Int) (a b c d e f g i j:Value) (pb:Nat) (w:World) (hp:w.cell? ⟨pb,0,none⟩= some (.string s)) (hlp:pb < w.heap.size):
  Calls Tryz.prog 30 #[.agg #[.string nm,.int .i64 lb,a,b,c,d,e,f,g,i,j],.pointer (some ⟨pb,0,none⟩)] w fun r w'=>r= .returned (.bool (nm.toList ==s.toList))/\Below w.heap.size w w':=by
 have HB:=I (zc w (.cells #[.string nm,.int .i64 lb,a,b,c,d,e,f,g,i,j] 50))
 have HP:=I hp
 have HL:=I hlp
 have d0:=zp w #[.string nm,.int .i64 lb,a,b,c,d,e,f,g,i,j] 50 0
 simp only[List.getElem?_toArray,List.getElem?_cons_zero] at d0
 clear hp hlp
 go_enter Tryz.func30,Tryz.ntmps30
 go_upto_region 1 with (fail)
 have d2:=(HB.o.cell (p:=⟨pb,0,none⟩) HL.o).trans HP.o
 generalize w.alloc (.cells #[.string nm,.int .i64 lb,a,b,c,d,e,f,g,i,j] 50)= W at*
 go_wp2
 go_ret
 exact⟨rfl,HB.o⟩
theorem zaf (E:List VarT) (s:ByteArray) (v:Value) (pb:Nat) (w:World) (hv:SlAt w w.heap.size 11 (VarAt w w.heap.size) v E) (hE:E.length<=10000) (hp:w.cell? ⟨pb,0,none⟩= some (.string s)) (hlp:pb < w.heap.size):
  Calls Tryz.prog 29 #[v,.func (.func 30) #[] #[.pointer (some ⟨pb,0,none⟩)]] w fun e w'=>e= .returned (.int .i64 (findV E s))/\Below w.heap.size w w':=by
 obtain⟨hel,EA,ec,rfl,hea⟩:=hv
 have HEB:=I hea
 have HO1:=I (fun nm lb a b c d e f g i j u (hu:Below w.heap.size w u)=>zeg nm s lb a b c d e f g i j pb u ((hu.cell (p:=⟨pb,0,none⟩) hlp).trans hp) (Nat.lt_of_lt_of_le hlp hu.size))
 clear hp hlp
 have hle2:(E.length:Int)<=10000:=by omega
 clear hea hel
 go_enter Tryz.func29,Tryz.ntmps29
 go_wp2
 go_loopg [8] E.length (fun q x u=>∃ j:Nat,j+q= E.length/\x= .int .i64 j/\Below w.heap.size w u/\∀ k,k < j->∀ e,E[k]?= some e->z0V s e= false)
 case atStart=>exact⟨0,by omega,rfl,Below.refl _ _,fun k hk=>absurd hk (Nat.not_lt_zero k)⟩
 case round=>
  obtain⟨jj,hj,rfl,hb,hno⟩:=hrel
  have HBK:=I hb
  have HNO:=I hno
  clear hb hno
  cases gk with
  |zero=>
   obtain rfl:jj= E.length:=by omega
   have hge: ¬ ((E.length:Int) <(E.length:Int)):=by omega
   have HR:Hid (findV E s= -1):=I (z3B fun k e he=>HNO.o k (List.getElem?_eq_some_iff.1 he).1 e he)
   go_wp2
   go_ret
   exact⟨by rw[HR.o];try rfl,HBK.o⟩
  |succ q=>
   have hlt2:(jj:Int) <(E.length:Int):=by omega
   obtain⟨x,he⟩:∃ e,E[jj]?= some e:=⟨_,List.getElem?_eq_getElem (by omega)⟩
   obtain⟨bb,o,rfl,hbl,hc⟩:=HEB.o (by omega)
   obtain⟨ks,hkl,hks,hva⟩:=hc jj x he
   obtain⟨a,b,c,d,e,f,g,i,j,rfl⟩:=z3H hva
   have HRE:=I (za hks HBK.o hbl)
   have HE:=I he
   have HC1:=I (HO1.o x.name x.label a b c d e f g i j wr HBK.o)
   clear hc he hks hva hkl
   cases ho:(x.name.toList ==s.toList) with
   |true=>
    have HR:Hid (findV E s= jj):=I (z2N jj x HE.o ho fun k hk e' he'=>HNO.o k hk e' he')
    rw[ho] at HC1
    clear ho
    go_wp2_with (first|((with_reducible refine z7 50 _ rfl ?_ bb (o+jj*11) [.string x.name,.int .i64 x.label,a,b,c,d,e,f,g,i,j] _ rfl HRE.o Tryz.underlying50 rfl ?_ ?_);exact wA rfl;kernel_rfl)|(go_at_call 30;refine HC1.o.mono ?_;rintro e' w4 ⟨rfl,hb4⟩;have HB4:=I hb4;clear hb4))
    go_ret
    exact⟨by rw[HR.o];try rfl,HBK.o.trans (HB4.o.mono HBK.o.size)⟩
   |false=>
    have HNX:Hid (∀ k,k < jj+1->∀ e,E[k]?= some e->z0V s e= false):=I fun k hk e' he'=>by
     by_cases ek:k= jj
     ·subst ek
      have:=HE.o
      rw[he'] at this
      injection this with this
      rw[this];exact ho
     ·exact HNO.o k (by omega) e' he'
    rw[ho] at HC1
    clear ho
    go_wp2_with (first|((with_reducible refine z7 50 _ rfl ?_ bb (o+jj*11) [.string x.name,.int .i64 x.label,a,b,c,d,e,f,g,i,j] _ rfl HRE.o Tryz.underlying50 rfl ?_ ?_);exact wA rfl;kernel_rfl)|(go_at_call 30;refine HC1.o.mono ?_;rintro e' w4 ⟨rfl,hb4⟩;have HB4:=I hb4;clear hb4))
    go_roundg q
    case measure=>omega
    case rel=>exact⟨jj+1,by omega,by go_num,HBK.o.trans (HB4.o.mono HBK.o.size),HNX.o⟩
end
section
open Go Go.RowKit
abbrev valC (k n:Int) (f:Nat) (s:ByteArray):List Value:=[.int .i64 k,.int .i64 n,.float .f64 f,.string s,.slice none 0 0,.slice none 0 0]
def conC (k n:Int) (f:Nat) (s:ByteArray):List Value:= .int .i64 1:: .string ⟨#[]⟩::(valC k n f s ++ [.slice none 0 0,.slice none 0 0])
def conE (k n:Int) (f:Nat) (s:ByteArray):ET:= .mk 1 ⟨#[]⟩ (.mk k n f s [] []) [] []
def varC (s:ByteArray):List Value:= .int .i64 2:: .string s::(zVc ++ [.slice none 0 0,.slice none 0 0])
def varE (s:ByteArray):ET:= .mk 2 s zV [] []
theorem z9T (k n:Int) (f:Nat) (s:ByteArray):(conC k n f s).length= 10:=rfl
theorem z9S (k n:Int) (f:Nat) (s:ByteArray):∀ v∈conC k n f s,v.oneCell'= true:=by
 intro v hv;simp only[conC,valC,List.mem_cons,List.mem_append,List.not_mem_nil,or_false] at hv;rcases hv with rfl|rfl|(rfl|rfl|rfl|rfl|rfl|rfl)|rfl|rfl<;>rfl
theorem zfv (s:ByteArray):∀ v∈varC s,v.oneCell'= true:=by
 intro v hv;simp only[varC,zVc,List.mem_cons,List.mem_append,List.not_mem_nil,or_false] at hv;rcases hv with rfl|rfl|(rfl|rfl|rfl|rfl|rfl|rfl)|rfl|rfl<;>rfl
theorem zf4 (k n:Int) (f:Nat) (s:ByteArray) (w:World):
  Calls Tryz.prog 252 #[.agg ⟨valC k n f s⟩] w fun e w'=>e= .returned (.agg ⟨conC k n f s⟩)/\Below w.heap.size w w':=by
 go_enter Tryz.func252,Tryz.ntmps252
 go_upto_region 1 with (fail)
 have HA:=I ((Whole.new w (valC k n f s) 27).keep (w':=(w.alloc (.cells ⟨valC k n f s⟩ 27)).alloc (.cells zEc.toArray 30)) (by rw[Lib.alloc_old _ _ _ (by simp)]))
 have HC:=I (Whole.new (w.alloc (.cells ⟨valC k n f s⟩ 27)) zEc 30)
 have HW:Hid (Below w.heap.size w ((w.alloc (.cells ⟨valC k n f s⟩ 27)).alloc (.cells zEc.toArray 30))):=I (((Below.refl _ w).alloc (Nat.le_refl _) _).alloc (by simp) _)
 have e1:(w.alloc (.cells ⟨valC k n f s⟩ 27)).heap.size= w.heap.size+1:=by simp
 rw[e1] at HC
 have hz:=z0v
 rw[hz]
 clear hz e1
 generalize (w.alloc (.cells ⟨valC k n f s⟩ 27)).alloc (.cells zEc.toArray 30)= W at*
 obtain⟨p,hp⟩:∃ p,w.heap.size= p:=⟨_,rfl⟩
 rw[hp] at HA HC
 rw[hp]
 have HP:=I hp
 clear hp
 go_wp2_with (first
  |((with_reducible refine z7 27 _ rfl ?_ p 0 [.int .i64 k,.int .i64 n,.float .f64 f,.string s,.slice none 0 0,.slice none 0 0] _ rfl HA.o.range Tryz.underlying27 rfl ?_ ?_);exact wA rfl;kernel_rfl)
  |((with_reducible refine zd 30 _ _ rfl rfl ?_ (p+1) zEc (conC k n f s) HC.o ?_ ?_ ?_ ?_ ?_ ?_);exact wA rfl;rfl;rfl;rfl;kernel_rfl;exact z9S k n f s;intro Z hz hb;have HZ:=I hz;have HZB:=I hb;clear hz hb))
 (try simp only[Exit.inBlock,Exit.then])
 refine bodyPost_ret (zH rfl _ _ (p+1) (conC k n f s) (z9T k n f s) rfl HZ.o) rfl ?_
 have hp:=HP.o
 exact⟨rfl,HW.o.trans (HZB.o.below HW.o.size (by omega) (by omega))⟩
end
section
open Go Go.RowKit
section
variable {P:Program} {ops:Array Oper} {S:World->Prop} {Q:Exit->Act->World->Prop} {i:Nat} {r:List (Nat × Bool)} {o:Oper} {a:Act} {w:World}
theorem z5R (T:TypeId) (ho:o.op= .alloc T) (j:TypeInfo) (z:Value) (hi:P.info? T= some j) (hz:j.zero= some z):
  (execOp a.eval o).run P w= .ok (.value (.pointer (some ⟨w.heap.size,0,none⟩))) (w.alloc (.cells z.cells T)):=by
 have hzv:(zeroValue T).run P w= .ok z w:=by simp[zeroValue,typeInfo,hi,hz]
 unfold execOp
 simp only[ho,Instr.alloc,Sem.run_bind,hzv,Result.andThen_ok]
 simp[newVar,newRow]
theorem z5C (d:Option Tmp) (T:TypeId) (o:Oper) (x y:Operand) (hi:ops[i]?= some o) (ho:o.op= .store T x y) (hd:o.dst= d) (hw:Region.wanted o (yielded ops a.tmps)= true) (b:Nat) (cs0 cs:List Value) (hb:Whole T w b cs0) (hl:cs0.length= cs.length)
  (hx:a.eval x= .pointer (some ⟨b,0,none⟩)) (hy:a.eval y= .agg cs.toArray) (hi2:(P.info? T).map (·.size)= some cs.length) (h1:∀ v∈cs,v.oneCell'= true)
  (h:∀ Z,Whole T Z b cs->But w Z b b->S Z/\wpOrd P ops S Q r (a.put d undef) Z):wpOrd P ops S Q ((i,false)::r) a w:=by
 subst hd
 refine z6a o hi hw fun K hK=> ?_
 have hz:=h (w.setCells b 0 cs) (z2u b T cs [] cs0 w hb hl) (z4U b cs w 0)
 exact wp_store_mid T x y ho b 0 cs.toArray hx hy (by rw[List.size_toArray,← hl];exact hb.there) (by simpa using hi2) (all_oneCell_toArray h1) (by simpa using hK _ _ hz.1 hz.2)
end
theorem z0A (t:Tok):∀ v∈tokC t,v.oneCell'= true:=by
 intro v hv;simp only[tokC,List.mem_cons,List.not_mem_nil,or_false] at hv;rcases hv with rfl|rfl|rfl|rfl|rfl|rfl<;>rfl
theorem z5k:(Tryz.prog.info? 165).map (fun i=>(i.zero,i.size,i.bytes))= some (some (.agg (tokC ⟨0,0,0,0,0,⟨#[]⟩⟩).toArray),6,56):=by kernel_rfl
def z7G (s:ByteArray):Bool:=!(s.toList ==[116,114,117,101]) && (!(s.toList ==[102,97,108,115,101]) && (!(s.toList ==[108,101,110]) && (!(s.toList ==[102,108,111,97,116]) && (!(s.toList ==[105,110,116]) && !(s.toList ==[115,116,114])))))
theorem Whole.cells {T:TypeId} {w:World} {b:Nat} {cs:List Value} (h:Whole T w b cs) (k:Nat) {v:Value} (hv:cs[k]?= some v):w.cell? ⟨b,k,none⟩= some v:=by
 have:=h.range k v hv
 rwa [Nat.zero_add] at this
theorem PS.under {T:TypeId} {pb tb c:Nat} {E:Int} {toks:List Tok} {w w':World} {i:Nat} {d:Int} (h:PS T pb tb c E toks w i d) (b:Nat) (hp:b≠pb) (ht:b≠tb) (hb:But w w' b b):PS T pb tb c E toks w' i d:=
 ⟨(hb.block pb h.lt.2 (Ne.symm hp) (Ne.symm hp)).trans h.blk,h.ne,⟨Nat.lt_of_lt_of_le h.lt.1 hb.size,Nat.lt_of_lt_of_le h.lt.2 hb.size⟩,fun j t hj a v hv=>(hb.cell h.lt.1 (Ne.symm ht) (Ne.symm ht)).trans (h.tok j t hj a v hv),h.len⟩
theorem zT {w z Z:World} {p pb:Nat} (h:But w z pb pb) (k:But z Z p p) (hp:w.heap.size<=p):But w Z pb pb:=
 ⟨k.os.trans h.os,k.tape.trans h.tape,k.output.trans h.output,Nat.le_trans h.size k.size,fun b hb h1 h2=>(k.block b (Nat.lt_of_lt_of_le hb h.size) (by omega) (by omega)).trans (h.block b hb h1 h2)⟩
section
variable {pb tb c:Nat} {E:Int} {toks:List Tok} {w:World} {i:Nat} {d:Int}
theorem zeb (t:Tok) (ht:toks[i]?= some t) (hk:t.kind= 2) (h:PSt pb tb c E toks w i d):
  Calls Tryz.prog 248 #[.pointer (some ⟨pb,0,none⟩)] w fun e w'=>e= .returned (.agg ⟨conC 2 t.n 0 ⟨#[]⟩⟩)/\PSt pb tb c E toks w' (i+1) d/\But w w' pb pb:=by
 obtain⟨i0,hi0,hz0,hz1,hz2⟩:=info_parts z5k
 have hno:∀ s,isB toks i s= false:=fun s=>by unfold isB;rw[ht];show(decide (t.kind= 6) && _)= false;rw[hk];rfl
 have HNO:=I hno
 have hil:i < toks.length:=(List.getElem?_eq_some_iff.1 ht).1
 have HIL:=I hil
 have hlen:=h.len
 have HT:=I ht
 have HK:=I hk
 have H:=I h
 have d3:=h.cell 3
 simp only[List.getElem?_toArray,List.getElem?_cons_succ,List.getElem?_cons_zero] at d3
 clear hno hk ht h hil
 go_enter Tryz.func248,Tryz.ntmps248
 go_upto_region 1 with (fail)
 have HR0:=I (Whole.new w zEc 30)
 have HB0:=I (zc w (.cells zEc.toArray 30))
 have hz:=z0v
 rw[hz]
 clear hz
 have HRW:Hid (w.heap.size <(w.alloc (.cells zEc.toArray 30)).heap.size):=I (by simp)
 generalize w.alloc (.cells zEc.toArray 30)= W at*
 obtain⟨p,hp⟩:∃ p,w.heap.size= p:=⟨_,rfl⟩
 rw[hp] at HR0 HRW
 rw[hp]
 have HP:=I hp
 have HS0:=I (H.o.keep HB0.o)
 have HPN:Hid (p≠pb/\p≠tb):=I ⟨by have:=H.o.lt;omega,by have:=H.o.lt;omega⟩
 have d3':=HS0.o.cell 3
 simp only[List.getElem?_toArray,List.getElem?_cons_succ,List.getElem?_cons_zero] at d3'
 clear hp d3
 go_upto_region 3 with (fail)
 clear d3'
 go_upto_region 7 with (go_at_call 125;refine(zN HS0.o (HNO.o _)).mono ?_;rintro e w1 ⟨rfl,h1,h2⟩;have HS1:=I h1;have HB1:=I h2;clear h1 h2)
 go_upto_region 9 with (go_at_call 125;refine(zN HS1.o (HNO.o _)).mono ?_;rintro e w2 ⟨rfl,h1,h2⟩;have HS2:=I h1;have HB2:=I h2;clear h1 h2)
 go_upto_region 11 with (go_at_call 125;refine(zN HS2.o (HNO.o _)).mono ?_;rintro e w3 ⟨rfl,h1,h2⟩;have HS3:=I h1;have HB3:=I h2;clear h1 h2)
 have HB03:=I (HB1.o.trans (HB2.o.trans HB3.o))
 clear HB1 HB2 HB3 HS1 HS2
 have d0:=HS3.o.cell 0
 have d1:=HS3.o.cell 1
 simp only[List.getElem?_toArray,List.getElem?_cons_succ,List.getElem?_cons_zero] at d0 d1
 have c0:w3.cell? ⟨tb,i*6,none⟩= some (.int .i64 2):=(HS3.o.tok i t HT.o 0 _ rfl).trans (by rw[HK.o])
 have q1: ¬ ((toks.length:Int)<=(i:Int)):=by have:=HIL.o;omega
 have q2:(i:Int) <(toks.length:Int):=by have:=HIL.o;omega
 go_quiet (fail)
 have HBQ:Hid (Below w3.heap.size w3 (w3.drewN nq)):=I ⟨rfl,rfl,rfl,Nat.le_refl _,fun _ _=>rfl⟩
 generalize w3.drewN nq= w4 at*
 have HS4:=I (HS3.o.keep HBQ.o)
 have HB04:=I (HB03.o.trans (But.of_below HBQ.o pb pb))
 clear d0 d1 c0 HBQ HS3 HB03
 go_upto_region 14 with (fail)
 have d0:=HS4.o.cell 0
 have d1:=HS4.o.cell 1
 simp only[List.getElem?_toArray,List.getElem?_cons_succ,List.getElem?_cons_zero] at d0 d1
 have ht6:=HS4.o.tok i t HT.o
 have HS4D:=I (HS4.o.keep (Below.refl _ w4).drew)
 have hs:PSt pb tb c E toks w4.drew i d:=HS4D.o
 clear d0 d1 ht6
 refine zF [(0,true),(1,true),(2,true),(3,true),(4,true),(5,true),(6,true),(7,true),(8,true),(9,true),(10,false),(11,false)]
  (fun z=>PSt pb tb c E toks z i d) (by kernel_rfl) (by kernel_rfl) (by kernel_rfl) rfl (by intro c a d v w h;cases d<;>exact h) ?_
 refine zh (some 57) (.pointer (some ⟨pb,0,none⟩)) _ _ rfl rfl rfl (by exact wA rfl) hs rfl ?_
 go_frame
 refine z8 (some 58) (.pointer (some ⟨pb,0,none⟩)) _ rfl rfl (by exact wA rfl) hs (fun z hz=>by go_simp) ?_
 go_frame
 refine z8 (some 59) (.pointer (some ⟨pb,0,none⟩)) _ rfl rfl (by exact wA rfl) hs (fun z hz=>by go_simp) ?_
 go_frame
 refine z8 (some 60) (.slice (some ⟨tb,0,none⟩) toks.length c) _ rfl rfl (by exact wA rfl) hs (fun z hz=>by have d0:=hz.cell 0;simp only[List.getElem?_toArray,List.getElem?_cons_zero] at d0;clear hz;go_simp) ?_
 go_frame
 refine zh (some 61) (.pointer (some ⟨pb,0,none⟩)) _ _ rfl rfl rfl (by exact wA rfl) hs rfl ?_
 go_frame
 refine z8 (some 62) (.pointer (some ⟨pb,0,none⟩)) _ rfl rfl (by exact wA rfl) hs (fun z hz=>by go_simp) ?_
 go_frame
 refine z8 (some 63) (.pointer (some ⟨pb,1,none⟩)) _ rfl rfl (by exact wA rfl) hs (fun z hz=>by go_simp) ?_
 go_frame
 refine z8 (some 64) (.int .i64 i) _ rfl rfl (by exact wA rfl) hs (fun z hz=>by have d1:=hz.cell 1;simp only[List.getElem?_toArray,List.getElem?_cons_succ,List.getElem?_cons_zero] at d1;clear hz;go_simp) ?_
 go_frame
 refine z8 (some 65) (.pointer (some ⟨tb,i*6,none⟩)) _ rfl rfl (by exact wA rfl) hs (fun z hz=>by go_simp) ?_
 go_frame
 refine z8 (some 66) (.agg ⟨tokC t⟩) _ rfl rfl (by exact wA rfl) hs (fun z hz=>zD 165 rfl tb (i*6) (tokC t) _ rfl (hz.tok i t HT.o) Tryz.underlying165 rfl (by kernel_rfl)) ?_
 go_frame
 have hn:=hs.keep (zc w4.drew (.cells (tokC ⟨0,0,0,0,0,⟨#[]⟩⟩).toArray 165))
 refine z1y (some 4) (.pointer (some ⟨w4.drew.heap.size,0,none⟩)) (w4.drew.alloc (.cells (tokC ⟨0,0,0,0,0,⟨#[]⟩⟩).toArray 165)) _ rfl rfl (by exact wA rfl) (z5R 165 rfl i0 _ hi0 hz0) hn ?_
 go_frame
 refine z5C none 165 _ _ _ rfl rfl rfl (by exact wA rfl) w4.drew.heap.size (tokC ⟨0,0,0,0,0,⟨#[]⟩⟩) (tokC t) (Whole.new _ _ _) rfl rfl rfl (by kernel_rfl) (z0A t) ?_
 intro w5 hw5 hb5
 have hq5:w4.drew.heap.size≠pb/\w4.drew.heap.size≠tb:=⟨by have:=hs.lt;omega,by have:=hs.lt;omega⟩
 have hs5:=hn.under w4.drew.heap.size hq5.1 hq5.2 hb5
 refine⟨hs5,?_⟩
 go_frame
 refine z0a ?_
 have HB45:Hid (Below w4.heap.size w4 w5):=I (((Below.refl _ w4).drew.trans (zc w4.drew _)).trans (hb5.below (B:=w4.heap.size) (by simp) (Nat.le_refl _) (Nat.le_refl _)))
 have HB05:=I (HB04.o.trans (But.of_below HB45.o pb pb))
 have HS5:=I hs5
 obtain⟨qb,hqb⟩:∃ q,w4.drew.heap.size= q:=⟨_,rfl⟩
 rw[hqb] at hw5 hq5
 have HQ5:=I hq5
 have HT5:=I hw5
 rw[hqb]
 clear hs hn hs5 hb5 hw5 hq5 hqb HB04 HB45
 have HR5:=I (HR0.o.keep (HB05.o.block p HRW.o HPN.o.1 HPN.o.1))
 go_upto_region 15 with (fail)
 have d1:=HS5.o.cell 1
 have f1:=HS5.o.thaw 1
 simp only[List.getElem?_toArray,List.getElem?_cons_succ,List.getElem?_cons_zero] at d1
 have HS6:=I (HS5.o.setI (i+1))
 have HB6:=I (But.setAt w5 pb 1 (.int .i64 ((i+1:Nat):Int)))
 have HT6:=I (HT5.o.keep (HB6.o.block qb HT5.o.lt HQ5.o.1 HQ5.o.1))
 have HR6:=I (HR5.o.keep (HB6.o.block p HR5.o.lt HPN.o.1 HPN.o.1))
 have hcs:w5.setCell ⟨pb,1,none⟩ (.int .i64 ((i+1:Nat):Int))= w5.setCell ⟨pb,1,none⟩ (.int .i64 ((i:Int)+1)):=rfl
 rw[hcs] at HS6 HB6 HT6 HR6
 clear hcs
 go_upto_region 16 with (fail)
 generalize w5.setCell ⟨pb,1,none⟩ (.int .i64 ((i:Int)+1))= w6 at*
 clear d1 f1
 have HB06:=I (HB05.o.trans HB6.o)
 have k0:w6.cell? ⟨qb,0,none⟩= some (.int .i64 2):=(HT6.o.cells 0 rfl).trans (by rw[HK.o])
 have k3:w6.cell? ⟨qb,3,none⟩= some (.int .i64 t.n):=HT6.o.cells 3 rfl
 go_wp2_with (first
  |(go_at_call 252;refine(zf4 2 t.n 0 ⟨#[]⟩ w6).mono ?_;rintro e z ⟨rfl,hb⟩;have HBZ:=I hb;have HRZ:=I (HR6.o.keep (hb.block p HR6.o.lt));clear hb)
  |((with_reducible refine zd 30 _ _ rfl rfl ?_ p zEc (conC 2 t.n 0 ⟨#[]⟩) HRZ.o ?_ ?_ ?_ ?_ ?_ ?_);exact wA rfl;rfl;rfl;rfl;kernel_rfl;exact z9S 2 t.n 0 ⟨#[]⟩;intro Z hz hb;have HZ:=I hz;have HZB:=I hb;clear hz hb))
 (try simp only[Exit.inBlock,Exit.then])
 refine bodyPost_ret (zH rfl _ _ p (conC 2 t.n 0 ⟨#[]⟩) (z9T 2 t.n 0 ⟨#[]⟩) rfl HZ.o) rfl ?_
 have hp:=HP.o
 have hbz:=(But.of_below HB0.o pb pb).trans (HB06.o.trans (But.of_below HBZ.o pb pb))
 exact⟨rfl,(HS6.o.keep HBZ.o).under p HPN.o.1 HPN.o.2 HZB.o,zT hbz HZB.o (by omega)⟩
theorem zd3 (t:Tok) (ht:toks[i]?= some t) (hk:t.kind= 5) (hpl:z7G t.s= true) (h:PSt pb tb c E toks w i d):
  Calls Tryz.prog 248 #[.pointer (some ⟨pb,0,none⟩)] w fun e w'=>e= .returned (.agg ⟨varC t.s⟩)/\PSt pb tb c E toks w' (i+1) d/\But w w' pb pb:=by
 obtain⟨i0,hi0,hz0,hz1,hz2⟩:=info_parts z5k
 have hno:∀ s,isB toks i s= false:=fun s=>by unfold isB;rw[ht];show(decide (t.kind= 6) && _)= false;rw[hk];rfl
 have HNO:=I hno
 have hil:i < toks.length:=(List.getElem?_eq_some_iff.1 ht).1
 have HIL:=I hil
 have hlen:=h.len
 have HT:=I ht
 have HK:=I hk
 have H:=I h
 have d3:=h.cell 3
 simp only[List.getElem?_toArray,List.getElem?_cons_succ,List.getElem?_cons_zero] at d3
 have HPL:=I hpl
 clear hno hk ht h hil hpl
 go_enter Tryz.func248,Tryz.ntmps248
 go_upto_region 1 with (fail)
 have HR0:=I (Whole.new w zEc 30)
 have HB0:=I (zc w (.cells zEc.toArray 30))
 have hz:=z0v
 rw[hz]
 clear hz
 have HRW:Hid (w.heap.size <(w.alloc (.cells zEc.toArray 30)).heap.size):=I (by simp)
 generalize w.alloc (.cells zEc.toArray 30)= W at*
 obtain⟨p,hp⟩:∃ p,w.heap.size= p:=⟨_,rfl⟩
 rw[hp] at HR0 HRW
 rw[hp]
 have HP:=I hp
 have HS0:=I (H.o.keep HB0.o)
 have HPN:Hid (p≠pb/\p≠tb):=I ⟨by have:=H.o.lt;omega,by have:=H.o.lt;omega⟩
 have d3':=HS0.o.cell 3
 simp only[List.getElem?_toArray,List.getElem?_cons_succ,List.getElem?_cons_zero] at d3'
 clear hp d3
 go_upto_region 3 with (fail)
 clear d3'
 go_upto_region 7 with (go_at_call 125;refine(zN HS0.o (HNO.o _)).mono ?_;rintro e w1 ⟨rfl,h1,h2⟩;have HS1:=I h1;have HB1:=I h2;clear h1 h2)
 go_upto_region 9 with (go_at_call 125;refine(zN HS1.o (HNO.o _)).mono ?_;rintro e w2 ⟨rfl,h1,h2⟩;have HS2:=I h1;have HB2:=I h2;clear h1 h2)
 go_upto_region 11 with (go_at_call 125;refine(zN HS2.o (HNO.o _)).mono ?_;rintro e w3 ⟨rfl,h1,h2⟩;have HS3:=I h1;have HB3:=I h2;clear h1 h2)
 have HB03:=I (HB1.o.trans (HB2.o.trans HB3.o))
 clear HB1 HB2 HB3 HS1 HS2
 have d0:=HS3.o.cell 0
 have d1:=HS3.o.cell 1
 simp only[List.getElem?_toArray,List.getElem?_cons_succ,List.getElem?_cons_zero] at d0 d1
 have c0:w3.cell? ⟨tb,i*6,none⟩= some (.int .i64 5):=(HS3.o.tok i t HT.o 0 _ rfl).trans (by rw[HK.o])
 have q1: ¬ ((toks.length:Int)<=(i:Int)):=by have:=HIL.o;omega
 have q2:(i:Int) <(toks.length:Int):=by have:=HIL.o;omega
 go_quiet (fail)
 have HBQ:Hid (Below w3.heap.size w3 (w3.drewN nq)):=I ⟨rfl,rfl,rfl,Nat.le_refl _,fun _ _=>rfl⟩
 generalize w3.drewN nq= w4 at*
 have HS4:=I (HS3.o.keep HBQ.o)
 have HB04:=I (HB03.o.trans (But.of_below HBQ.o pb pb))
 clear d0 d1 c0 HBQ HS3 HB03
 go_upto_region 14 with (fail)
 have d0:=HS4.o.cell 0
 have d1:=HS4.o.cell 1
 simp only[List.getElem?_toArray,List.getElem?_cons_succ,List.getElem?_cons_zero] at d0 d1
 have ht6:=HS4.o.tok i t HT.o
 have HS4D:=I (HS4.o.keep (Below.refl _ w4).drew)
 have hs:PSt pb tb c E toks w4.drew i d:=HS4D.o
 clear d0 d1 ht6
 refine zF [(0,true),(1,true),(2,true),(3,true),(4,true),(5,true),(6,true),(7,true),(8,true),(9,true),(10,false),(11,false)]
  (fun z=>PSt pb tb c E toks z i d) (by kernel_rfl) (by kernel_rfl) (by kernel_rfl) rfl (by intro c a d v w h;cases d<;>exact h) ?_
 refine zh (some 57) (.pointer (some ⟨pb,0,none⟩)) _ _ rfl rfl rfl (by exact wA rfl) hs rfl ?_
 go_frame
 refine z8 (some 58) (.pointer (some ⟨pb,0,none⟩)) _ rfl rfl (by exact wA rfl) hs (fun z hz=>by go_simp) ?_
 go_frame
 refine z8 (some 59) (.pointer (some ⟨pb,0,none⟩)) _ rfl rfl (by exact wA rfl) hs (fun z hz=>by go_simp) ?_
 go_frame
 refine z8 (some 60) (.slice (some ⟨tb,0,none⟩) toks.length c) _ rfl rfl (by exact wA rfl) hs (fun z hz=>by have d0:=hz.cell 0;simp only[List.getElem?_toArray,List.getElem?_cons_zero] at d0;clear hz;go_simp) ?_
 go_frame
 refine zh (some 61) (.pointer (some ⟨pb,0,none⟩)) _ _ rfl rfl rfl (by exact wA rfl) hs rfl ?_
 go_frame
 refine z8 (some 62) (.pointer (some ⟨pb,0,none⟩)) _ rfl rfl (by exact wA rfl) hs (fun z hz=>by go_simp) ?_
 go_frame
 refine z8 (some 63) (.pointer (some ⟨pb,1,none⟩)) _ rfl rfl (by exact wA rfl) hs (fun z hz=>by go_simp) ?_
 go_frame
 refine z8 (some 64) (.int .i64 i) _ rfl rfl (by exact wA rfl) hs (fun z hz=>by have d1:=hz.cell 1;simp only[List.getElem?_toArray,List.getElem?_cons_succ,List.getElem?_cons_zero] at d1;clear hz;go_simp) ?_
 go_frame
 refine z8 (some 65) (.pointer (some ⟨tb,i*6,none⟩)) _ rfl rfl (by exact wA rfl) hs (fun z hz=>by go_simp) ?_
 go_frame
 refine z8 (some 66) (.agg ⟨tokC t⟩) _ rfl rfl (by exact wA rfl) hs (fun z hz=>zD 165 rfl tb (i*6) (tokC t) _ rfl (hz.tok i t HT.o) Tryz.underlying165 rfl (by kernel_rfl)) ?_
 go_frame
 have hn:=hs.keep (zc w4.drew (.cells (tokC ⟨0,0,0,0,0,⟨#[]⟩⟩).toArray 165))
 refine z1y (some 4) (.pointer (some ⟨w4.drew.heap.size,0,none⟩)) (w4.drew.alloc (.cells (tokC ⟨0,0,0,0,0,⟨#[]⟩⟩).toArray 165)) _ rfl rfl (by exact wA rfl) (z5R 165 rfl i0 _ hi0 hz0) hn ?_
 go_frame
 refine z5C none 165 _ _ _ rfl rfl rfl (by exact wA rfl) w4.drew.heap.size (tokC ⟨0,0,0,0,0,⟨#[]⟩⟩) (tokC t) (Whole.new _ _ _) rfl rfl rfl (by kernel_rfl) (z0A t) ?_
 intro w5 hw5 hb5
 have hq5:w4.drew.heap.size≠pb/\w4.drew.heap.size≠tb:=⟨by have:=hs.lt;omega,by have:=hs.lt;omega⟩
 have hs5:=hn.under w4.drew.heap.size hq5.1 hq5.2 hb5
 refine⟨hs5,?_⟩
 go_frame
 refine z0a ?_
 have HB45:Hid (Below w4.heap.size w4 w5):=I (((Below.refl _ w4).drew.trans (zc w4.drew _)).trans (hb5.below (B:=w4.heap.size) (by simp) (Nat.le_refl _) (Nat.le_refl _)))
 have HB05:=I (HB04.o.trans (But.of_below HB45.o pb pb))
 have HS5:=I hs5
 obtain⟨qb,hqb⟩:∃ q,w4.drew.heap.size= q:=⟨_,rfl⟩
 rw[hqb] at hw5 hq5
 have HQ5:=I hq5
 have HT5:=I hw5
 rw[hqb]
 clear hs hn hs5 hb5 hw5 hq5 hqb HB04 HB45
 have HR5:=I (HR0.o.keep (HB05.o.block p HRW.o HPN.o.1 HPN.o.1))
 go_upto_region 15 with (fail)
 have d1:=HS5.o.cell 1
 have f1:=HS5.o.thaw 1
 simp only[List.getElem?_toArray,List.getElem?_cons_succ,List.getElem?_cons_zero] at d1
 have HS6:=I (HS5.o.setI (i+1))
 have HB6:=I (But.setAt w5 pb 1 (.int .i64 ((i+1:Nat):Int)))
 have HT6:=I (HT5.o.keep (HB6.o.block qb HT5.o.lt HQ5.o.1 HQ5.o.1))
 have HR6:=I (HR5.o.keep (HB6.o.block p HR5.o.lt HPN.o.1 HPN.o.1))
 have hcs:w5.setCell ⟨pb,1,none⟩ (.int .i64 ((i+1:Nat):Int))= w5.setCell ⟨pb,1,none⟩ (.int .i64 ((i:Int)+1)):=rfl
 rw[hcs] at HS6 HB6 HT6 HR6
 clear hcs
 go_upto_region 16 with (fail)
 generalize w5.setCell ⟨pb,1,none⟩ (.int .i64 ((i:Int)+1))= w6 at*
 clear d1 f1
 have HB06:=I (HB05.o.trans HB6.o)
 have k0:w6.cell? ⟨qb,0,none⟩= some (.int .i64 5):=(HT6.o.cells 0 rfl).trans (by rw[HK.o])
 have k5:w6.cell? ⟨qb,5,none⟩= some (.string t.s):=HT6.o.cells 5 rfl
 have hpl2:=HPL.o
 unfold z7G at hpl2
 simp only[Bool.and_eq_true,Bool.not_eq_true'] at hpl2
 obtain⟨n1,n2,n3,n4,n5,n6⟩:=hpl2
 go_wp2_with ((with_reducible refine zd 30 _ _ rfl rfl ?_ p zEc (varC t.s) HR6.o ?_ ?_ ?_ ?_ ?_ ?_);exact wA rfl;rfl;rfl;rfl;kernel_rfl;exact zfv t.s;intro Z hz hb;have HZ:=I hz;have HZB:=I hb;clear hz hb)
 (try simp only[Exit.inBlock,Exit.then])
 refine bodyPost_ret (zH rfl _ _ p (varC t.s) rfl rfl HZ.o) rfl ?_
 have hp:=HP.o
 have hbz:=(But.of_below HB0.o pb pb).trans HB06.o
 exact⟨rfl,HS6.o.under p HPN.o.1 HPN.o.2 HZB.o,zT hbz HZB.o (by omega)⟩
end
end
section
open Go Go.RowKit
def KeptP (p:Nat->Prop) (w:World) (cs:List Value) (t:ET):Prop:=ExpAt (only w p) w.heap.size cs t
theorem KeptP.exp {p:Nat->Prop} {w:World} {cs:List Value} {t:ET} (h:KeptP p w cs t):ExpAt w w.heap.size cs t:=ExpAt.cells h fun a v hv=>(zy.1 hv).2
theorem KeptP.to {p q:Nat->Prop} {w w':World} {cs:List Value} {t:ET} (h:KeptP p w cs t) (hb:∀ b,p b->b < w.heap.size->q b/\w'.heap[b]?= w.heap[b]?) (hs:w.heap.size<=w'.heap.size):KeptP q w' cs t:=
 (ExpAt.cells h (z2X hb)).more hs
theorem KeptP.one {p:Nat->Prop} {w:World} {cs:List Value} {t:ET} (h:KeptP p w cs t):∀ v∈cs,v.oneCell'= true:=ExpAt.one h
theorem KeptP.len {p:Nat->Prop} {w:World} {cs:List Value} {t:ET} (h:KeptP p w cs t):cs.length= 10:=by
 cases t with
 |mk k s v ns its=>
  obtain⟨c0,c1,c2,c3,c4,c5,vn,vi,rfl,_⟩:=ExpAt.inv h
  rfl
theorem zI (n:Int) (h:(Lit.int .i64 n).wf= true):wfI n:=h
theorem z3j (w:World) (B:Nat) (k n:Int) (f:Nat) (s:ByteArray) (hk:wfI k) (hn:wfI n) (hf:(Lit.float .f64 f).wf= true) (hs:s.size<=maxLen):ValAt w B (valC k n f s) (.mk k n f s [] []):=
 ValAt.of hk hn hf hs (SlAt.nil w B 1 _) (Nat.zero_le _) (SlAt.nil w B 6 _)
theorem zdE (p:Nat->Prop) (w:World) (k n:Int) (f:Nat) (s:ByteArray) (hk:wfI k) (hn:wfI n) (hf:(Lit.float .f64 f).wf= true) (hs:s.size<=maxLen):KeptP p w (conC k n f s) (conE k n f s):=
 ExpAt.of (zI 1 (by decide +kernel)) (Nat.zero_le _) (z3j _ _ k n f s hk hn hf hs) (SlAt.nil _ _ 1 _) (Nat.zero_le _) (SlAt.nil _ _ 10 _)
theorem zdo (p:Nat->Prop) (w:World) (s:ByteArray) (hs:s.size<=maxLen):KeptP p w (varC s) (varE s):=
 ExpAt.of (zI 2 (by decide +kernel)) hs (z3j _ _ 0 0 0 ⟨#[]⟩ (zI 0 (by decide +kernel)) (zI 0 (by decide +kernel)) (by decide +kernel) (Nat.zero_le _)) (SlAt.nil _ _ 1 _) (Nat.zero_le _) (SlAt.nil _ _ 10 _)
theorem z0Q {p:Nat->Prop} {w:World} {k:Int} {g:Nat} {ca cb:List Value} {x y:ET} (hk:wfI k) (hg:Whole 30 w g (ca ++ cb)) (hp:p g) (ha:KeptP p w ca x) (hb:KeptP p w cb y):KeptP p w (twoC k g) (twoE k x y):=by
 have la:=ha.len
 have lb:=hb.len
 refine ExpAt.of hk (Nat.zero_le _) (z3j _ _ 0 0 0 ⟨#[]⟩ (zI 0 (by decide +kernel)) (zI 0 (by decide +kernel)) (by decide +kernel) (Nat.zero_le _)) (SlAt.nil _ _ 1 _) (by show 2<=_;unfold maxLen;decide) ?_
 refine⟨by show 2<=_;decide,_,_,rfl,fun _=>⟨g,0,rfl,hg.lt,fun i z hz=> ?_⟩⟩
 have hr:∀ (o:Nat) (cs:List Value),(∀ j v,cs[j]?= some v->(ca ++ cb)[o+j]?= some v)->(only w p).rangeAt g o cs:=by
  intro o cs h j v hv
  exact zy.2 ⟨hp,hg.cells (o+j) (h j v hv)⟩
 match i,hz with
 |0,hz=>
  obtain rfl:x= z:=by simpa using hz
  exact⟨ca,la,hr _ _ fun j v hv=>by rw[show 0+0*10+j= j by omega,List.getElem?_append_left (List.getElem?_eq_some_iff.1 hv).1];exact hv,ha⟩
 |1,hz=>
  obtain rfl:y= z:=by simpa using hz
  exact⟨cb,lb,hr _ _ fun j v hv=>by rw[show 0+1*10+j= ca.length+j by omega,List.getElem?_append_right (by omega),show ca.length+j - ca.length= j by omega];exact hv,hb⟩
 |i+2,hz=>simp at hz
section
variable (pb tb c:Nat) (E:Int) (toks:List Tok)
def PCon (f:FuncId) (i j h:Nat) (t:ET):Prop:=∀ (w:World) (d:Int),PSt pb tb c E toks w i d->0<=d->d+h<=100->
 Calls Tryz.prog f #[.pointer (some ⟨pb,0,none⟩)] w fun e w'=>∃ cs,e= .returned (.agg ⟨cs⟩)/\KeptP (fun b=>w.heap.size<=b) w' cs t/\PSt pb tb c E toks w' j d/\But w w' pb pb
def tokOk (t:Tok):Prop:=wfI t.n/\(Lit.float .f64 t.f).wf= true/\t.s.size<=maxLen
variable {pb tb c E toks}
theorem z8R {i:Nat} (t:Tok) (ht:toks[i]?= some t) (hk:t.kind= 2) (ho:tokOk t):PCon pb tb c E toks 248 i (i+1) 0 (conE 2 t.n 0 ⟨#[]⟩):=fun w d h _ _=>
 (zeb t ht hk h).mono fun e w' ⟨he,h1,h2⟩=>⟨_,he,zdE _ _ 2 t.n 0 ⟨#[]⟩ (zI 2 (by decide +kernel)) ho.1 (by decide +kernel) (Nat.zero_le _),h1,h2⟩
theorem z1v {i:Nat} (t:Tok) (ht:toks[i]?= some t) (hk:t.kind= 5) (hp:z7G t.s= true) (ho:tokOk t):PCon pb tb c E toks 248 i (i+1) 0 (varE t.s):=fun w d h _ _=>
 (zd3 t ht hk hp h).mono fun e w' ⟨he,h1,h2⟩=>⟨_,he,zdo _ _ t.s ho.2.2,h1,h2⟩
inductive PL (f:FuncId) (signs:List (ByteArray × Int)) (h:Nat) (pb tb c:Nat) (E:Int) (toks:List Tok):ET->Nat->ET->Nat->Prop
 |done (x:ET) (i:Nat):(∀ s∈signs,isB toks i s.1= false)->PL f signs h pb tb c E toks x i x i
 |step (x:ET) (i:Nat) (y:ET) (j:Nat) (z:ET) (k:Nat) (s:ByteArray × Int):s∈signs->isB toks i s.1= true->PCon pb tb c E toks f (i+1) j h y->i < j->PL f signs h pb tb c E toks (twoE s.2 x y) j z k->PL f signs h pb tb c E toks x i z k
theorem z1S {i:Nat} {s s':ByteArray} (h:isB toks i s= true) (hne:(s.toList ==s'.toList)= false):isB toks i s'= false:=by
 unfold isB at*
 cases ht:toks[i]? with
 |none=>rfl
 |some t=>
  rw[ht] at h
  simp only[Bool.and_eq_true,decide_eq_true_eq,beq_iff_eq] at h
  show(decide (t.kind= 6) && (t.s.toList ==s'.toList))= false
  rw[h.2,hne,Bool.and_false]
end
end
section
open Go Go.RowKit
def labOf (E:List VarT) (s:List UInt8):Option Int:=(E.find? fun x=>x.name.toList ==s).map (·.label)
def labsV (E:List VarT) (ok:Int->Bool):List (List UInt8)->List Int × Int
 |[]=>([],0)
 |s::r=>match labOf E s with
  |none=>([],11)
  |some a=>if ok a= true then(a::(labsV E ok r).1,(labsV E ok r).2) else([],3)
theorem za5 {E:List VarT} {s:ByteArray}:(findV E s= -1/\labOf E s.toList= none)\/(∃ (j:Nat) (x:VarT),findV E s=(j:Int)/\E[j]?= some x/\labOf E s.toList= some x.label):=by
 induction E with
 |nil=>exact Or.inl ⟨rfl,rfl⟩
 |cons a l ih=>
  unfold findV labOf
  cases h:z0V s a with
  |true=>
   refine Or.inr ⟨0,a,by rw[if_pos rfl];rfl,rfl,?_⟩
   rw[List.find?_cons_of_pos (by exact h)]
   rfl
  |false=>
   have hf:(a::l).find? (fun x=>x.name.toList ==s.toList)= l.find? (fun x=>x.name.toList ==s.toList):=List.find?_cons_of_neg (by
    have:(a.name.toList ==s.toList)= false:=h
    rw[this];decide)
   rw[hf,if_neg (by decide)]
   rcases ih with ⟨h1,h2⟩|⟨j,x,h1,h2,h3⟩
   ·exact Or.inl ⟨by rw[if_pos h1],h2⟩
   ·exact Or.inr ⟨j+1,x,by rw[h1,if_neg (by omega)];omega,by simpa using h2,h3⟩
end
section
open Go
section
variable {P:Program} {ops:Array Oper} {S:World->Prop} {Q:Exit->Act->World->Prop} {i:Nat} {r:OrdT} {a:Act} {w:World}
theorem zfK {k j d1 d2 d3 n:Nat} {T:TypeId} (A B C:Value->World->Prop) (f1 f2:FuncId) {fn1 fn2:Func} (hf1:P.funcs[f1]?= some fn1) (hn1:(fn1.name == "runtime.NumGoroutine")= false) (hb1:fn1.body.isNone= false)
  (hf2:P.funcs[f2]?= some fn2) (hn2:(fn2.name == "runtime.NumGoroutine")= false) (hb2:fn2.body.isNone= false) (x1:Value) (L:Array Value) (t1 t2:Array TypeId)
  (o1 o2 o3:Oper) (hi:ops[i]?= some o1) (hk:ops[k]?= some o2) (hj:ops[j]?= some o3) (ho1:o1.op= .call { callee:= .value (.func f1),args:= #[.const x1],argTypes:=t1 }) (ho2:o2.op= .call { callee:= .value (.func f2),args:= #[.tmp d1],argTypes:=t2 })
  (hd1:o1.dst= some d1) (hd2:o2.dst= some d2) (hd3:o3.dst= some d3)
  (hw1:Region.wanted o1 (yielded ops a.tmps)= true) (hw1':∀ v,Region.wanted o1 (yielded ops (a.put (some d3) v).tmps)= true)
  (hw2:∀ u,Region.wanted o2 (yielded ops (a.put (some d1) u).tmps)= true) (hw2':∀ u v,Region.wanted o2 (yielded ops ((a.put (some d1) u).put (some d3) v).tmps)= true)
  (hw3:Region.wanted o3 (yielded ops a.tmps)= true) (hw3':∀ u,Region.wanted o3 (yielded ops (a.put (some d1) u).tmps)= true) (hw3'':∀ u v,Region.wanted o3 (yielded ops ((a.put (some d1) u).put (some d2) v).tmps)= true)
  (he2:∀ u,(a.put (some d1) u).eval (.tmp d1)= u) (he2':∀ u v,((a.put (some d1) u).put (some d3) v).eval (.tmp d1)= u)
  (r3:∀ z:World,(execOp a.eval o3).run P z= .ok (.value (.slice (some ⟨z.heap.size,0,none⟩) n n)) (z.alloc (.cells L T)))
  (r3':∀ u (z:World),(execOp (a.put (some d1) u).eval o3).run P z= .ok (.value (.slice (some ⟨z.heap.size,0,none⟩) n n)) (z.alloc (.cells L T)))
  (r3'':∀ u v (z:World),(execOp ((a.put (some d1) u).put (some d2) v).eval o3).run P z= .ok (.value (.slice (some ⟨z.heap.size,0,none⟩) n n)) (z.alloc (.cells L T)))
  (c1:∀ z:World,S z->Calls P f1 #[x1] z fun e z'=>∃ v,e= .returned v/\S z'/\A v z'/\∀ u,C u z->C u z')
  (c2:∀ u (z:World),S z->A u z->Calls P f2 #[u] z fun e z'=>∃ v,e= .returned v/\S z'/\B v z'/\∀ u,C u z->C u z')
  (hSa:∀ z:World,S z->S (z.alloc (.cells L T))) (hAa:∀ v (z:World),A v z->A v (z.alloc (.cells L T))) (hBa:∀ v (z:World),B v z->B v (z.alloc (.cells L T))) (hCa:∀ z:World,C (.slice (some ⟨z.heap.size,0,none⟩) n n) (z.alloc (.cells L T)))
  (h13:d1≠d3) (h23:d2≠d3) (hS:S w)
  (h:∀ u v x z,S z->B v z->C x z->zS P ops S Q r (((a.put (some d1) u).put (some d2) v).put (some d3) x) z):
  zS P ops S Q (.two i j (.two k j (.act j r) (.act k r)) (.act i (.act k r))) a w:=by
 have e1:∀ (a:Act) (z:World),(execOp a.eval o1).run P z= .ok (.enter f1 #[x1]) z:=fun a z=>by
  rw[z2M (a:=a) hf1 hn1 hb1 o1 #[.const x1] t1 ho1]
  simp[Act.eval]
 have e2:∀ (a:Act) (u:Value) (z:World),a.eval (.tmp d1)= u->(execOp a.eval o2).run P z= .ok (.enter f2 #[u]) z:=fun a u z hu=>by
  have:=z2M (a:=a) (w:=z) hf2 hn2 hb2 o2 #[.tmp d1] t2 ho2
  rw[this]
  simp[hu]
 have hact:∀ (u x:Value) (z:World),S z->A u z->C x z->zS P ops S Q (.act k r) ((a.put (some d1) u).put (some d3) x) z:=by
  intro u x z hSz hAz hCz
  show wpOp P ops Q k _ _ z
  refine z4p o2 f2 #[u] hk (hw2' u x) (e2 _ u z (he2' u x)) ((c2 u z hSz hAz).mono ?_)
  rintro e z' ⟨v,rfl,hS',hB',hC'⟩
  refine⟨v,rfl,hS',?_⟩
  rw[hd2,z8Y _ h23]
  exact h u v x z' hS' hB' (hC' x hCz)
 refine⟨?_,?_⟩
 ·refine z4p o1 f1 #[x1] hi hw1 (e1 a w) ((c1 w hS).mono ?_)
  rintro e z ⟨u,rfl,hSz,hAz, -⟩
  refine⟨u,rfl,hSz,?_⟩
  rw[hd1]
  refine⟨?_,?_⟩
  ·refine z4p o2 f2 #[u] hk (hw2 u) (e2 _ u z (he2 u)) ((c2 u z hSz hAz).mono ?_)
   rintro e z' ⟨v,rfl,hS',hB', -⟩
   refine⟨v,rfl,hS',?_⟩
   rw[hd2]
   show wpOp P ops Q j _ _ z'
   refine z8J o3 _ _ hj (hw3'' u v) (r3'' u v z') ⟨hSa z' hS',?_⟩
   rw[hd3]
   exact h _ _ _ _ (hSa z' hS') (hBa v z' hB') (hCa z')
  ·refine z8J o3 _ _ hj (hw3' u) (r3' u z) ⟨hSa z hSz,?_⟩
   rw[hd3]
   exact hact _ _ _ (hSa z hSz) (hAa u z hAz) (hCa z)
 ·refine z8J o3 _ _ hj hw3 (r3 w) ⟨hSa w hS,?_⟩
  rw[hd3]
  show wpOp P ops Q i _ _ _
  refine z4p o1 f1 #[x1] hi (hw1' _) (e1 _ _) ((c1 _ (hSa w hS)).mono ?_)
  rintro e z ⟨u,rfl,hSz,hAz,hCz⟩
  refine⟨u,rfl,hSz,?_⟩
  rw[hd1,z8Y _ h13]
  exact hact _ _ _ hSz hAz (hCz _ (hCa w))
end
end
end Go.Proofs.YteolfamhmfidbaaGreatDoor
