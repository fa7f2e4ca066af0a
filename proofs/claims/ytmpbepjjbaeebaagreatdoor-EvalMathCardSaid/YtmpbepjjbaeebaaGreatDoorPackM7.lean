/- Parts of a proof: Walk, SmallV, ECnt, IndexV. -/
import Derived.Test.YtmpbepjjbaeebaaGreatDoorProg
import Derived.Deep.DeepCutAuto
import Derived.Deep.LoopGhost
import Derived.Deep.Cut
import Derived.Deep.Draws
import Derived.Deep.QuietTactic
import Derived.BigQuiet
import Derived.BigRegion
import Derived.Maps.RangeWalk
import Derived.StillTailTactics
import Derived.WalkMore
import Derived.RegionTactic
import Derived.Lib.SliceRun
import Derived.Lib.Hide
import Derived.Test.YtmpbepjjbaeebaaGreatDoorPackM3
import Derived.Test.YtmpbepjjbaeebaaGreatDoorPackM6
set_option maxHeartbeats 8000000
set_option maxRecDepth 100000
set_option linter.unusedVariables false
set_option linter.unusedSimpArgs false
section
namespace Go.Proofs.YtmpbepjjbaeebaaGreatDoor
open Go.RowKit
open Go.Lib (hid)
theorem cell_box (w:World) (cs:Array Value) (T:TypeId) (i:Nat):(w.alloc (.cells cs T)).cell? ⟨w.heap.size,i,none⟩= cs[i]?:=
 cell_of_row _ w.heap.size i cs T (0,0) (heap_alloc_new w _)
theorem range_box (w:World) (cs:List Value) (T:TypeId):(w.alloc (.cells ⟨cs⟩ T)).rangeAt w.heap.size 0 cs:=fun j v hv=>by
 rw[Nat.zero_add,cell_box];simpa using hv
theorem cells_box (w:World) (cs:List Value) (T:TypeId):∀ j v,cs[j]?= some v→(w.alloc (.cells ⟨cs⟩ T)).cell? ⟨w.heap.size,j,none⟩= some v:=fun j v hv=>by
 rw[cell_box];simpa using hv
theorem box_below (w:World) (o:Obj):Below w.heap.size w (w.alloc o):=(Below.refl w.heap.size w).alloc (Nat.le_refl _) o
theorem box_size (w:World) (o:Obj):w.heap.size <(w.alloc o).heap.size:=by simp
theorem below_sets {B:Nat} {u w:World} (h:Below B u w) {b:Nat} (hb:B≤b) (vs:List Value):∀ o,Below B u (w.setCells b o vs):=by
 induction vs generalizing w with
 |nil=>intro o;exact h
 |cons v vs ih=>intro o;exact ih (w:=w.setCell ⟨b,o,none⟩ v) (h.setCell hb v) (o+1)
theorem size_sets (b:Nat) (vs:List Value):∀ (o:Nat) (w:World),(w.setCells b o vs).heap.size= w.heap.size:=by
 induction vs with
 |nil=>intro o w;rfl
 |cons v vs ih=>intro o w;exact(ih (o+1) (w.setCell ⟨b,o,none⟩ v)).trans (by simp[World.setCell])
theorem frozen_box (w:World) (cs:Array Value) (T:TypeId) (i:Nat):(w.alloc (.cells cs T)).frozen? ⟨w.heap.size,i,none⟩= false:=by
 have h:=heap_alloc_new w (.cells cs T)
 unfold World.frozen?
 rw[h]
 simp
theorem there_box (w:World) (z:Array Value) (T:TypeId):(w.alloc (.cells z T)).there w.heap.size 0 z.size:=fun j hj=>by
 rw[Nat.zero_add,cell_box,frozen_box]
 exact⟨by rw[Array.getElem?_eq_getElem hj];rfl,rfl⟩
def Tag (w:World) (b:Nat) (T:TypeId):Prop:=∃ c,w.heap[b]?= some (.cells c T (0,0))
theorem Tag.set {w:World} {b:Nat} {T:TypeId} (h:Tag w b T) (p:Addr) (v:Value):Tag (w.setCell p v) b T:=by
 obtain⟨c,hc⟩:=h
 unfold World.setCell Tag
 simp only[Array.getElem?_modify,hc]
 split
 ·exact⟨_,rfl⟩
 ·exact⟨_,rfl⟩
theorem Tag.sets {b:Nat} {T:TypeId} (q:Nat) (vs:List Value):∀ (o:Nat) {w:World},Tag w b T→Tag (w.setCells q o vs) b T:=by
 induction vs with
 |nil=>intro o w h;exact h
 |cons v vs ih=>intro o w h;exact ih (o+1) (h.set ⟨q,o,none⟩ v)
theorem OwnSl.apart {α:Type} {T T':TypeId} {k nb base:Nat} {enc:α→List Value} {w:World} {v:Value} {l:List α} (h:OwnSl T k enc w base v l) (ht:Tag w nb T') (hne:T≠T'):some nb≠v.ownBlock:=by
 intro hb
 obtain⟨c,hc⟩:=ht
 rcases h.2 with ⟨rfl,_⟩|⟨g,cap,cur,rfl,_,hg,_⟩
 ·cases hb
 ·have:nb= g:=by simpa [Value.ownBlock] using hb
  subst this
  rw[hc] at hg
  injection hg with hg
  injection hg with _ hg _
  exact hne hg.symm
structure Boxed (T:TypeId) (w W:World) (cs:List Value):Prop where
 tag:Tag W w.heap.size T
 below:Below w.heap.size w W
 range:W.rangeAt w.heap.size 0 cs
 size:w.heap.size < W.heap.size
theorem boxed_store (w:World) (z:Array Value) (T:TypeId) (cs:List Value) (h:cs.length= z.size):Boxed T w ((w.alloc (.cells z T)).setCells w.heap.size 0 cs) cs:=
 ⟨Tag.sets _ _ _ ⟨z,heap_alloc_new w _⟩,below_sets (box_below w _) (Nat.le_refl _) cs 0,World.rangeAt_setCells_same _ _ _ _ (by rw[h];exact there_box w z T),by rw[size_sets];simp⟩
section
variable {P:Program} {ops:Array Oper} {rest:List Oper} {o:Oper} {a:Act} {w:World} {Q:Exit→Act→World→Prop}
theorem wl_sbox (T:TypeId) (x y:Operand) (ho:o.op= .store T x y) (hw:Region.wanted o (yielded ops a.tmps)= true) (w0:World) (z:Array Value) (cs:List Value) (hwld:w= w0.alloc (.cells z T)) (hz:cs.length= z.size)
  (hx:a.eval x= .pointer (some ⟨w0.heap.size,0,none⟩)) (hy:a.eval y= .agg cs.toArray) (hi:(P.info? T).map (·.size)= some cs.length) (h1:∀ v∈cs,v.oneCell'= true)
  (h:∀ Z,Boxed T w0 Z cs→wpList P ops Q rest (a.put o.dst undef) Z):wpList P ops Q (o::rest) a w:=by
 subst hwld
 exact wl_sstore T x y ho hw w0.heap.size 0 cs hx hy (by rw[hz];exact there_box w0 z T) hi h1 (h _ (boxed_store w0 z T cs hz))
end
theorem Boxed.cell {T:TypeId} {w W:World} {cs:List Value} (h:Boxed T w W cs) (j:Nat) {v:Value} (hv:cs[j]?= some v):W.cell? ⟨w.heap.size,j,none⟩= some v:=by
 have:=h.range j v hv
 rwa [Nat.zero_add] at this
theorem Boxed.cell' {T:TypeId} {w W Z:World} {cs:List Value} (h:Boxed T w W cs) (hb:Below W.heap.size W Z) (j:Nat) {v:Value} (hv:cs[j]?= some v):Z.cell? ⟨w.heap.size,j,none⟩= some v:=
 (hb.cell (p:=⟨w.heap.size,j,none⟩) h.size).trans (h.cell j hv)
theorem Boxed.sub {T:TypeId} {w W Z:World} {cs:List Value} (h:Boxed T w W cs) (hb:Below W.heap.size W Z) (p q r:List Value) (hc:cs= p ++ q ++ r) (k:Nat) (hk:k= p.length):Z.rangeAt w.heap.size k q:=fun j v hv=>by
 subst hk
 have:=h.cell' hb (p.length+j) (v:=v) (by rw[hc,List.append_assoc,List.getElem?_append_right (by omega),show p.length+j - p.length= j by omega,List.getElem?_append_left (List.getElem?_eq_some_iff.1 hv).1];exact hv)
 exact this
end Go.Proofs.YtmpbepjjbaeebaaGreatDoor
end
section
namespace Go.Proofs.YtmpbepjjbaeebaaGreatDoor
open Go.RowKit
open Go.Lib (hid)
theorem vlen {w:World} {B:Nat} {cs:List Value} {x:VT} (h:ValAt w B cs x):cs.length= 6:=by
 cases h;rfl
end Go.Proofs.YtmpbepjjbaeebaaGreatDoor
end
section
namespace Go.Proofs.YtmpbepjjbaeebaaGreatDoor
open Go Go.RowKit
open Go.Lib (hid)
mutual
def cntE:ET→Nat→Nat
 | .mk _ _ _ _ its,n=>cntEL its (n+1)
def cntEL:List ET→Nat→Nat
 |[],n=>n
 |a::l,n=>if 500≤n then n else cntEL l (cntE a n)
end
theorem cntEL_le:∀ (l:List ET) (n:Nat),(∀ x∈l,∀ m,m < 500→cntE x m≤500)→n≤500→cntEL l n≤500
 |[],n,_,h=>by rw[cntEL];exact h
 |a::l,n,h,hn=>by
  rw[cntEL]
  by_cases h5:500≤n
  ·rw[if_pos h5];exact hn
  ·rw[if_neg h5];exact cntEL_le l _ (fun x hx=>h x (List.mem_cons_of_mem _ hx)) (h a (List.mem_cons_self ..) n (by omega))
theorem cntE_le (t:ET):∀ m,m < 500→cntE t m≤500:=by
 induction t using ET.ind with
 |h k s v ns its ih=>exact fun m hm=>by rw[cntE];exact cntEL_le its _ ih (by omega)
theorem edrop_at {l:List ET} {k:Nat} {x:ET} (h:l[k]?= some x):l.drop k= x::l.drop (k+1):=by
 obtain⟨h1,h2⟩:=List.getElem?_eq_some_iff.1 h
 rw[List.drop_eq_getElem_cons h1,h2]
theorem cntEL_step {l:List ET} {k m:Nat} {x:ET} (h:l[k]?= some x):cntEL (l.drop k) m= if 500≤m then m else cntEL (l.drop (k+1)) (cntE x m):=by
 rw[edrop_at h,cntEL]
theorem cntEL_end {l:List ET} {m:Nat}:cntEL (l.drop l.length) m= m:=by
 rw[List.drop_eq_nil_of_le (Nat.le_refl _),cntEL]
theorem eslen {w:World} {B:Nat} {cs:List Value} {x:ET} (h:ExpAt w B cs x):cs.length= 10:=by
 cases h;rfl
theorem ecounted_any:∀ (t:ET) (m:Nat) (cs:List Value) (p o:Nat) (w:World),m < 500→w.rangeAt p o cs→ExpAt w w.heap.size cs t→
  Calls Tryz.prog 104 #[.pointer (some ⟨p,o,none⟩),.int .i64 m] w fun e w'=>e= .returned (.int .i64 (cntE t m:Nat))∧w'= w:=by
 intro t
 induction t using ET.ind with
 |h k s t ns its ih=>
  intro m cs p o w hm hr hv
  have IH:=hid ih
  obtain⟨v0,v1,v2,v3,v4,v5,vn,vi,rfl,_,_,_,_,hil,hi⟩:=hv.inv
  obtain⟨_,A,c,rfl,hA⟩:=hi
  unfold maxLen at hil
  have HA:=hid hA
  have d5:=hr 9 _ rfl
  have HS:=hid (fun k m x=>cntEL_step (l:=its) (k:=k) (m:=m) (x:=x))
  have HE:=hid (fun m=>cntEL_end (l:=its) (m:=m))
  have HLE:=hid (fun x m hm=>cntE_le x m hm)
  have H0:Hid (cntEL (its.drop 0) (m+1)= cntE (.mk k s t ns its) m):=hid (by rw[cntE];rfl)
  have hm2:(m:Int) < 500:=by omega
  clear ih hA hr hv
  generalize cntE (.mk k s t ns its) m= res at*
  go_enter Tryz.func104,Tryz.ntmps104
  go_wp2
  go_loopg [1,13] its.length (fun q n x u=>∃ (j m:Nat),j+q= its.length∧x= .int .i64 j∧n= .int .i64 m∧m≤500∧u= w∧cntEL (its.drop j) m= res)
  case atStart=>exact⟨0,m+1,by omega,rfl,by go_num,by omega,rfl,H0.out⟩
  case round=>
   obtain⟨j,m,hj,rfl,rfl,hm5,rfl,hres⟩:=hrel
   have HR:=hid hres
   clear hres
   cases gk with
   |zero=>
    obtain rfl:j= its.length:=by omega
    have hge: ¬ ((its.length:Int) <(its.length:Int)):=by omega
    have HV:=hid (HR.out.symm.trans (HE.out m))
    go_wp2
    go_ret
    exact⟨by rw[HV.out];rfl,rfl⟩
   |succ q=>
    have hlt:(j:Int) <(its.length:Int):=by omega
    obtain⟨x,hx⟩:∃ x,its[j]?= some x:=⟨_,List.getElem?_eq_getElem (by omega)⟩
    obtain⟨b,o',rfl,hbl,hc⟩:=HA.out (by omega)
    obtain⟨ks,hkl,hks,hvx⟩:=hc j x hx
    have HV:=hid (HR.out.symm.trans (HS.out j m x hx))
    by_cases h5:500≤m
    ·have HV2:=hid (HV.out.trans (if_pos h5))
     have t1:(500:Int)≤(m:Int):=by omega
     clear hc hks hvx hx HV
     go_wp2
     go_ret
     exact⟨by rw[HV2.out];rfl,rfl⟩
    ·have HV2:=hid (HV.out.trans (if_neg h5))
     have t1: ¬ ((500:Int)≤(m:Int)):=by omega
     have HC:=hid (IH.out x (List.mem_of_getElem? hx) m ks b (o'+j*10) wr (by omega) hks hvx)
     have hle:=HLE.out x m (by omega)
     clear hc hks hvx hx HV h5
     go_wp2_with (go_at_call 104;refine HC.out.mono ?_;rintro e z ⟨rfl,rfl⟩)
     go_roundg q
     case measure=>omega
     case rel=>exact⟨j+1,_,by omega,by go_num,rfl,hle,rfl,HV2.out.symm⟩
theorem eparts_any (t:ET) (cs:List Value) (w:World) (hv:ExpAt w w.heap.size cs t):Calls Tryz.prog 60 #[.agg ⟨cs⟩] w fun e w'=>e= .returned (.int .i64 (cntE t 0:Nat))∧Below w.heap.size w w':=by
 have HB1:=hid (box_below w (.cells ⟨cs⟩ 29))
 have HC:=hid (ecounted_any t 0 cs w.heap.size 0 (w.alloc (.cells ⟨cs⟩ 29)) (by decide) (range_box w cs 29) ((hv.under HB1.out).more HB1.out.size))
 go_enter Tryz.func60,Tryz.ntmps60
 go_wp2_with (go_at_call 104;refine HC.out.mono ?_;rintro e z ⟨rfl,rfl⟩)
 go_ret
 exact⟨rfl,HB1.out⟩
theorem recount_any:∀ (t:ET) (m:Nat) (cs:List Value) (w:World),m < 500→ExpAt w w.heap.size cs t→
  Calls Tryz.prog 49 #[.agg ⟨cs⟩,.int .i64 m] w fun e w'=>e= .returned (.int .i64 (cntE t m:Nat))∧Below w.heap.size w w':=by
 intro t
 induction t using ET.ind with
 |h k s t ns its ih=>
  intro m cs w hm hv
  have IH:=hid ih
  obtain⟨v0,v1,v2,v3,v4,v5,vn,vi,rfl,_,_,_,_,hil,hi⟩:=hv.inv
  obtain⟨_,A,c,rfl,hA⟩:=hi
  unfold maxLen at hil
  have HA:=hid hA
  have HS:=hid (fun k m x=>cntEL_step (l:=its) (k:=k) (m:=m) (x:=x))
  have HE:=hid (fun m=>cntEL_end (l:=its) (m:=m))
  have HLE:=hid (fun x m hm=>cntE_le x m hm)
  have HCE:Hid (∀ k m,500≤m→cntEL (its.drop k) m= m):=hid (fun k m h=>by
   cases its.drop k with
   |nil=>rw[cntEL]
   |cons a l=>rw[cntEL,if_pos h])
  have H0:Hid (cntEL (its.drop 0) (m+1)= cntE (.mk k s t ns its) m):=hid (by rw[cntE];rfl)
  clear ih hA hv
  generalize cntE (.mk k s t ns its) m= res at*
  go_enter Tryz.func49,Tryz.ntmps49
  go_upto_region 1 with (fail)
  have hb0:=box_below w (.cells ⟨[.int .i64 k,.string s,v0,v1,v2,v3,v4,v5,vn,.slice A its.length c]⟩ 29)
  have hz0:=box_size w (.cells ⟨[.int .i64 k,.string s,v0,v1,v2,v3,v4,v5,vn,.slice A its.length c]⟩ 29)
  have c5:=cell_box w ⟨[.int .i64 k,.string s,v0,v1,v2,v3,v4,v5,vn,.slice A its.length c]⟩ 29 9
  generalize w.alloc (.cells ⟨[.int .i64 k,.string s,v0,v1,v2,v3,v4,v5,vn,.slice A its.length c]⟩ 29)= W at*
  have HB:=hid hb0
  have C5:=hid c5
  have HSZ:=hid hz0
  clear hb0 c5 hz0
  have hm2:(m:Int) < 500:=by omega
  go_wp2
  go_loopg [1,5] its.length (fun g u i wr=>∃ (j m:Nat),j+g= its.length∧i= .int .i64 j∧u= .int .i64 m∧m≤500∧Below W.heap.size W wr∧cntEL (its.drop j) m= res)
  case atStart=>exact⟨0,m+1,by omega,rfl,by go_num,by omega,Below.refl _ _,H0.out⟩
  case round=>
   obtain⟨j,m,hj,rfl,rfl,hm5,hb,hres⟩:=hrel
   have HB1:=hid hb
   have HR:=hid hres
   have d5:=(hb.cell (p:=⟨w.heap.size,9,none⟩) HSZ.out).trans C5.out
   clear hb hres
   simp only[List.getElem?_toArray,List.getElem?_cons_succ,List.getElem?_cons_zero] at d5
   have hm5':(m:Int)≤500:=by omega
   cases gk with
   |zero=>
    obtain rfl:j= its.length:=by omega
    have hge: ¬ ((its.length:Int) <(its.length:Int)):=by omega
    have HV:=hid (HR.out.symm.trans (HE.out m))
    go_wp2
    go_ret
    exact⟨by rw[HV.out];go_num,HB.out.trans (HB1.out.mono HB.out.size)⟩
   |succ g=>
    have hlt:(j:Int) <(its.length:Int):=by omega
    by_cases h0:m < 500
    ·have hz2:w.heap.size≤wr.heap.size:=Nat.le_trans HB.out.size HB1.out.size
     obtain⟨y,hy⟩:∃ y,its[j]?= some y:=⟨_,List.getElem?_eq_getElem (by omega)⟩
     obtain⟨b,o,rfl,hbb,hc⟩:=HA.out (by omega)
     obtain⟨cs,hcl,hr,hR⟩:=hc j y hy
     have hB2:=HB.out.trans (HB1.out.mono HB.out.size)
     have HV:=hid (HR.out.symm.trans (HS.out j m y hy))
     have HV2:=hid (HV.out.trans (if_neg (by omega)))
     have HR1:=hid (rangeAt_below hr hB2 hbb)
     have HC:=hid (IH.out y (List.mem_of_getElem? hy) m cs wr h0 ((hR.under hB2).more hB2.size))
     have HCL:=hid hcl
     have hle:=HLE.out y m h0
     have h0':(m:Int) < 500:=by omega
     clear hc hr hR hB2 hy HV h0
     go_wp2_with (first|((with_reducible refine wl_sload 29 _ rfl ?hwa b (o+j*10) cs _ rfl HR1.out Tryz.underlying29 rfl ?hia ?_);(case hwa=>(first|exact wanted_none rfl|exact wanted_if rfl rfl rfl rfl));(case hia=>rw[HCL.out];kernel_rfl))|(go_at_call 49;refine HC.out.mono ?_;rintro e w' ⟨rfl,hb⟩;have HB2:=hid hb;clear hb))
     go_roundg g
     case measure=>omega
     case rel=>exact⟨j+1,_,by omega,by go_num,rfl,hle,HB1.out.trans (HB2.out.mono HB1.out.size),HV2.out.symm⟩
    ·have HV:=hid (HR.out.symm.trans (HCE.out j m (by omega)))
     have h0': ¬ ((m:Int) < 500):=by omega
     have hm500:m= 500:=by omega
     go_wp2
     all_goals
      go_ret
      exact⟨by rw[HV.out,hm500];rfl,HB.out.trans (HB1.out.mono HB.out.size)⟩
theorem reparts_any (t:ET) (cs:List Value) (w:World) (hv:ExpAt w w.heap.size cs t):Calls Tryz.prog 25 #[.agg ⟨cs⟩] w fun e w'=>e= .returned (.int .i64 (cntE t 0:Nat))∧Below w.heap.size w w':=by
 have HCL:=hid (eslen hv)
 have HV:=hid hv
 clear hv
 go_enter Tryz.func25,Tryz.ntmps25
 go_upto_region 1 with (fail)
 have HB:=hid (box_below w (.cells ⟨cs⟩ 29))
 have HR:=hid (range_box w cs 29)
 generalize w.alloc (.cells ⟨cs⟩ 29)= W at*
 have HC:=hid (recount_any t 0 cs W (by omega) ((HV.out.under HB.out).more HB.out.size))
 go_wp2_with (first|((with_reducible refine wl_sload 29 _ rfl ?hwa w.heap.size 0 cs _ rfl HR.out Tryz.underlying29 rfl ?hia ?_);(case hwa=>(first|exact wanted_none rfl|exact wanted_if rfl rfl rfl rfl));(case hia=>rw[HCL.out];kernel_rfl))|(go_at_call 49;refine HC.out.mono ?_;rintro e w' ⟨rfl,hb⟩;have HB2:=hid hb;clear hb))
 go_ret
 exact⟨rfl,HB.out.trans (HB2.out.mono HB.out.size)⟩
end Go.Proofs.YtmpbepjjbaeebaaGreatDoor
end
section
namespace Go.Proofs.YtmpbepjjbaeebaaGreatDoor
open Go Go.RowKit
open Go.Lib (hid)
def nameIs (s:ByteArray) (x:VarT):Bool:=x.name.toList ==s.toList
def findV:List VarT→ByteArray→Int
 |[],_=> -1
 |x::l,s=>if nameIs s x= true then 0 else if findV l s= -1 then -1 else findV l s+1
theorem findV_no {s:ByteArray}:∀ {l:List VarT},(∀ (k:Nat) x,l[k]?= some x→nameIs s x= false)→findV l s= -1
 |[],_=>rfl
 |x::l,h=>by
  unfold findV
  rw[if_neg (by rw[h 0 x rfl];decide),findV_no fun k y hy=>h (k+1) y hy,if_pos rfl]
theorem findV_yes {s:ByteArray}:∀ {l:List VarT} (j:Nat) (x:VarT),l[j]?= some x→nameIs s x= true→(∀ k,k < j→∀ y,l[k]?= some y→nameIs s y= false)→findV l s=(j:Int)
 |[],j,x,h,_,_=>by simp at h
 |a::l,0,x,h,hx,_=>by
  obtain rfl:a= x:=by simpa using h
  unfold findV
  rw[if_pos hx];rfl
 |a::l,j+1,x,h,hx,hno=>by
  have ih:=findV_yes (l:=l) j x (by simpa using h) hx fun k hk y hy=>hno (k+1) (by omega) y (by simpa using hy)
  unfold findV
  rw[if_neg (by rw[hno 0 (by omega) a rfl];decide),ih,if_neg (by omega)]
  omega
theorem var_form {w:World} {B:Nat} {ks:List Value} {x:VarT} (h:VarAt w B ks x):∃ a b c d e f g i j,ks=[.string x.name,.int .i64 x.label,a,b,c,d,e,f,g,i,j]:=by
 obtain⟨ct,ci,rfl,h3,h6,_,_⟩:=h.ex
 match ct,ci,h3,h6 with
 |[a,b,c],[d,e,f,g,i,j],_,_=>exact⟨a,b,c,d,e,f,g,i,j,rfl⟩
end Go.Proofs.YtmpbepjjbaeebaaGreatDoor
end
