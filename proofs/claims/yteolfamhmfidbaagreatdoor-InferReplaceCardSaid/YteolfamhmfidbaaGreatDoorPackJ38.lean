/- Parts of a proof: Reads, RReads. -/
import Derived.Maps.OwnSet
import Derived.Test.YteolfamhmfidbaaGreatDoorPackJ7
import Derived.Test.YteolfamhmfidbaaGreatDoorPackJ9
import Derived.Test.YteolfamhmfidbaaGreatDoorPackJ34
import Derived.Test.YteolfamhmfidbaaGreatDoorPackJ35
import Derived.Test.YteolfamhmfidbaaGreatDoorPackJ36
import Derived.Test.YteolfamhmfidbaaGreatDoorPackJ37
set_option maxHeartbeats 8000000
set_option maxRecDepth 100000
set_option linter.unusedVariables false
set_option linter.unusedSimpArgs false
namespace Go.Proofs.YteolfamhmfidbaaGreatDoor
section
open Go Go.RowKit
def readL (t:ET):List (List UInt8):=((visE t 0).map fun s=>s.data.toList).foldl putL []
theorem z6X (t:ET) (cs:List Value) (w:World) (hv:ExpAt w w.heap.size cs t):Calls Tryz.prog 24 #[.agg ⟨cs⟩] w fun e w'=>
  ∃ v base,e= .returned v/\w.heap.size<=base/\w'.ownsRow base 9 1 v (readL t).length ((readL t).map encStr)/\Below w.heap.size w w':=by
 have HB:=I (zc w (.cells ⟨cs⟩ 30))
 have HR:=I (zm w cs 30)
 have HS:=I (zw w (.cells ⟨cs⟩ 30))
 have HV:=I ((hv.under HB.o).more HB.o.size)
 have hmm:= @run_makeMap Tryz.prog
 clear hv
 go_enter Tryz.func24,Tryz.ntmps24
 go_upto_region 1 with (fail)
 generalize w.alloc (.cells ⟨cs⟩ 30)= W at*
 go_upto_region 2 with (fail)
 have HM:Hid (MapK (W.alloc (.map #[] 0)) W.heap.size 0 []):=I ⟨.map [],World.ownsMap_made W _ _ _,fun x=>by simp[Go.Maps.has]⟩
 have HB2:Hid (Below W.heap.size W (W.alloc (.map #[] 0))):=I (zc W _)
 have HC:=I (zam t 0 cs w.heap.size 0 W.heap.size [] (W.alloc (.map #[] 0)) (by omega) (za HR.o HB2.o HS.o) HS.o (HV.o.under HB2.o) HM.o)
 go_upto_region 3 with (go_at_call 50;refine HC.o.mono ?_;rintro e w3 ⟨rfl,h1,h2⟩;have HM3:=I h1;have HB3:=I h2;clear h1 h2)
 obtain⟨D,hown,hhas⟩:=HM3.o
 have HOWN:=I hown
 have hsz:Go.Maps.size D<=500:=Nat.le_trans hown.size_le (z1i t 0 (by omega))
 have HSZ:Hid (Go.Maps.size D<=maxLen/\Go.Maps.size D*16<=140737488355328):=I ⟨by unfold maxLen;omega,by omega⟩
 have hrise:=z4N ((visE t 0).map fun s=>s.data.toList) [] List.Pairwise.nil
 have HPK:Hid ((readL t).Perm (strKeys D)):=I (Collected.perm (left:=fun _=>false) ⟨z8m hrise,fun x=>by rw[hhas x];unfold readL;rw[z8t];simp⟩ hown law9 Tryz.underlying9 (fun _=>rfl))
 have HRISE:=I hrise
 clear hown hhas hsz hrise
 go_wp2_with (first
  |(go_at_call 52;refine(Tryz.maps_Keys (some W.heap.size) w3).mono ?_;rintro e w4 ⟨rfl,h⟩;subst h)
  |(go_at_call 51;refine(Tryz.slices_Sorted W.heap.size _ D _ w3 HOWN.o HSZ.o.1 HSZ.o.2).mono ?_;rintro e w5 ⟨v,ss,rfl,hp,hrow,_,hb⟩;have HP:=I hp;have HROW:=I hrow;have HB5:=I hb;clear hp hrow hb))
 go_ret
 have hperm:ss.Perm (readL t):=HP.o.trans HPK.o.symm
 have hsort:ss.mergeSort (fun x y=>decide (x<=y))= readL t:=(mergeSort_of_perm hperm).trans (List.mergeSort_of_pairwise (HRISE.o.imp fun h=>decide_eq_true (List.le_of_lt h)))
 have hrow:=HROW.o
 rw[hsort,hperm.length_eq] at hrow
 have h4:=zc w3 (.cells #[.map (some W.heap.size)] 100)
 have hw2:=HB.o.trans (HB2.o.mono HB.o.size)
 have hw3:=hw2.trans (HB3.o.mono HB.o.size)
 have hw4:=hw3.trans (h4.mono hw3.size)
 exact⟨v,_,rfl,hw4.size,hrow,hw4.trans (HB5.o.mono hw4.size)⟩
end
section
open Go Go.RowKit
theorem z7v:∀ (l:List ET) (n:Nat),(∀ x∈l,∀ m,m < 500->m+ (visE x m).length<=cntE x m)->n<=500->n+ (visEL l n).length<=cntEL l n
 |[],n,_,_=>by rw[visEL,cntEL];simp
 |a::l,n,h,hn=>by
  rw[visEL,cntEL]
  by_cases h5:500<=n
  ·rw[if_pos h5,if_pos h5];simp
  ·rw[if_neg h5,if_neg h5,List.length_append]
   have h1:=h a List.mem_cons_self n (by omega)
   have h2:=z7v l (cntE a n) (fun x hx=>h x (List.mem_cons_of_mem _ hx)) (z1i a n (by omega))
   omega
theorem zeG (t:ET):∀ m,m < 500->m+ (visE t m).length<=cntE t m:=by
 induction t using ET.ind with
 |h k s v ns its ih=>
  intro m hm
  rw[visE,cntE]
  have h:=z7v its (m+1) ih (by omega)
  have:(if k= 2 then[s] else([]:List ByteArray)).length<=1:=by split<;>simp
  rw[List.length_append];omega
end
end Go.Proofs.YteolfamhmfidbaaGreatDoor
