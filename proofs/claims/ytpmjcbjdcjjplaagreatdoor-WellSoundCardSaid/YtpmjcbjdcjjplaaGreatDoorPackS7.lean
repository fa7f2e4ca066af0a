/- Parts of a proof: Order2. -/
import Derived.StillTail
import Derived.Test.YtpmjcbjdcjjplaaGreatDoorPackS6
set_option maxHeartbeats 8000000
set_option maxRecDepth 100000
set_option linter.unusedVariables false
set_option linter.unusedSimpArgs false
namespace Go.Proofs.YtpmjcbjdcjjplaaGreatDoor
open Go
def Qt (P:Program) (ops:Array Oper) (Q:Exit->Act->World->Prop) (tl:List Oper):Exit->Act->World->Prop
 | .normal,a,w=>wpList P ops Q tl a w
 |x,a,w=>Q x a w
def z4N (P:Program) (md:Region.Mode) (ops:Array Oper) (Q:Exit->Act->World->Prop) (S:World->Prop) (n:Nat) (L:Array Bool->Act->World->Prop):Nat->Array Bool->Act->World->Prop
 |0,listed,a,w=>L listed a w
 |f+1,listed,a,w=>Region.ready md ops listed≠[]/\∀ i∈Region.ready md ops listed,i < n/\wpOp P ops Q i (fun a' w'=>S w'/\z4N P md ops Q S n L f (listed.setIfInBounds i true) a' w') a w
def ordT (md:Region.Mode) (ops:Array Oper) (n:Nat):List (Nat × Bool)->Array Bool->Bool
 |[],listed=>Region.seqB md ops (ops.size - n) n listed
 |(i,true)::r,listed=>decide (i < n) && Region.free md ops listed i && (Region.ready md ops listed).contains i && ordT md ops n r (listed.setIfInBounds i true)
 |(i,false)::r,listed=>decide (i < n) && (Region.ready md ops listed ==[i]) && ordT md ops n r (listed.setIfInBounds i true)
def ordTB (md:Region.Mode) (ops:Array Oper) (n:Nat) (ord:List (Nat × Bool)):Bool:=
 Region.noSelect ops && decide (n < ops.size) && Region.sinkB md ops n && Region.chainB md ops n && ordT md ops n ord (Array.replicate ops.size false)
section
variable {P:Program} {ops:Array Oper} {S:World->Prop} {Q:Exit->Act->World->Prop} {md:Region.Mode}
theorem zbL {Q1 Q2:Exit->Act->World->Prop} {i:Nat} {K:Act->World->Prop} {a:Act} {w:World} (h1:∀ c a w,Q1 (.panic c) a w->Q2 (.panic c) a w) (h2:LetsOut Q1->LetsOut Q2)
  (h:wpOp P ops Q1 i K a w):wpOp P ops Q2 i K a w:=by
 unfold wpOp at*;split
 ·simpa [*] using h
 ·rename_i o ho
  simp only[ho] at h;split
  ·rename_i hw
   simp only[hw,if_true] at h;rcases h with h|⟨h,g⟩
   ·refine .inl ?_
    unfold Oper.wp at*;generalize (execOp a.eval o).run P w= r at*;cases r with
    |ok m w'=>
     cases m<;>simp only[Oper.upon] at h ⊢<;>
      first
       |exact h
       |exact Calls.mono h (fun e w'' he=>by cases e<;>first|exact he|exact h1 _ _ _ he|exact h2 he)
    |halt x w'=>cases x<;>simp only[Oper.upon] at h ⊢<;>first|exact h1 _ _ _ h|exact h
   ·exact .inr ⟨h,h2 g⟩
  ·rename_i hw
   simp only[hw] at h;exact h
theorem z9l {n i:Nat} {oi:Oper} {v:Value} {L:Array Bool->Act->World->Prop} (hi:ops[i]?= some oi) (hsel:∀ (j:Nat) (o:Oper) cs b,ops[j]?= some o->o.op≠ .select cs b)
  (hQ:∀ c a w,Q (.panic c) (a.put oi.dst v) w->Q (.panic c) a w)
  (hs:Region.sinkB md ops n= true) (hc:Region.chainB md ops n= true) (hn:n < ops.size) (hin:i < n)
  (hdone:∀ listed a w,L listed a w->∀ j∈Region.ready md ops listed,n<=j):
  ∀ (f:Nat) (listed:Array Bool) (a:Act) (w:World),HeadInv md ops n listed->
   (∀ j oj,ops[j]?= some oj->j≠i->listed.getD j true= false->(∀ e∈oj.after,Region.binds md e= true->e.on≠i)->oi.apart ops oj= true)->
   i∈Region.ready md ops listed->YieldsIf P ops S oi v a->S w->
   z4N P md ops Q S n L f (listed.setIfInBounds i true) (a.put oi.dst v) w->z4N P md ops Q S n L (f+1) listed a w:=by
 intro f
 induction f with
 |zero=>
  intro listed a w inv _ N hy X H;have g:=(mem_ready.1 N).1;refine⟨fun h=>(by rw[h] at N;cases N),fun j hj=> ?_⟩;have G:j < n:=by
   rcases Nat.lt_or_ge j n with h|h
   ·exact h
   ·exact absurd hj (tail_waits hs hc hn inv _ i rfl hin g j h)
  refine⟨G,?_⟩;by_cases hji:j= i
  ·subst hji;exact hy.wpOp hi X ⟨X,H⟩
  ·have:=hdone _ _ _ H j (ready_mono hj hji)
   omega
 |succ f ih=>
  intro listed a w inv A N hy X H;have g:=(mem_ready.1 N).1;refine⟨fun h=>(by rw[h] at N;cases N),fun j hj=> ?_⟩;have G:j < n:=by
   rcases Nat.lt_or_ge j n with h|h
   ·exact h
   ·exact absurd hj (tail_waits hs hc hn inv _ i rfl hin g j h)
  refine⟨G,?_⟩;by_cases hji:j= i
  ·subst hji;exact hy.wpOp hi X ⟨X,H⟩
  ·have h1:=(H.2 j (ready_mono hj hji)).2
   obtain⟨K,oj,O,Y⟩:=mem_ready.1 hj;have a0:∀ e∈oj.after,Region.binds md e= true->e.on≠i:=fun e he hb heq=>by
    have h1:=Y e he hb;rw[heq,getD_both g] at h1;cases h1
   have h2:=wpOp_putIf O (A j oj O hji K a0) (fun cs b=>hsel i oi cs b hi) (fun cs b=>hsel j oj cs b O) hQ hy h1;have C:∀ k ok,ops[k]?= some ok->k≠i->(listed.setIfInBounds j true).getD k true= false->
     (∀ e∈ok.after,Region.binds md e= true->e.on≠i)->oi.apart ops ok= true:=fun k ok hk hki g hno=>by
    refine A k ok hk hki ?_ hno;by_cases hjk:j= k
    ·subst hjk;exact K
    ·rw[getD_set_ne true hjk] at g;exact g
   refine wpOp_mono (fun a' w' h3=>⟨h3.2.1,ih (listed.setIfInBounds j true) a' w' (inv.set hj G) C (ready_mono N (Ne.symm hji)) h3.1 h3.2.1 ?_⟩) h2;rw[Array.setIfInBounds_comm _ _ hji];exact h3.2.2
theorem z2B {n:Nat} {tl:List Oper} (hsel:Region.noSelect ops= true) (hs:Region.sinkB md ops n= true) (hc:Region.chainB md ops n= true) (hn:n < ops.size)
  (hQ:∀ c a d v w,Q (.panic c) (a.put d v) w->Q (.panic c) a w):
  ∀ (ord:List (Nat × Bool)) (listed:Array Bool) (a:Act) (w:World),HeadInv md ops n listed->ordT md ops n ord listed= true->wpOrd P ops S (Qt P ops Q tl) ord a w->
   z4N P md ops Q S n (fun listed' a' w'=>Region.seqB md ops (ops.size - n) n listed'= true/\wpList P ops Q tl a' w') ord.length listed a w
 |[],listed,a,w,_,hB,h=>⟨hB,h⟩
 |(i,true)::r,listed,a,w,inv,hB,h=>by
  simp only[ordT,Bool.and_eq_true,decide_eq_true_eq] at hB
  obtain⟨hS,o,v,hi,hy,hr⟩:=h
  have hrd:i∈Region.ready md ops listed:=by simpa using hB.1.2
  exact z9l hi (Region.noSelect_spec hsel) (fun c a w hq=>hQ c a _ _ w hq) hs hc hn hB.1.1.1 (fun _ _ _ hL=>seqB_ready hL.1) r.length listed a w inv (Region.free_spec hi hB.1.1.2) hrd hy hS
   (z2B hsel hs hc hn hQ r _ _ _ (inv.set hrd hB.1.1.1) hB.2 hr)
 |(i,false)::r,listed,a,w,inv,hB,h=>by
  simp only[ordT,Bool.and_eq_true,beq_iff_eq,decide_eq_true_eq] at hB
  refine⟨by rw[hB.1.2];simp,fun j hj=> ?_⟩
  have g:=hj
  rw[hB.1.2] at g
  obtain rfl:j= i:=by simpa using g
  exact⟨hB.1.1,wpOp_mono (fun a' w' hh=>⟨hh.1,z2B hsel hs hc hn hQ r _ _ _ (inv.set hj hB.1.1) hB.2 hh.2⟩) (zbL (Q1:=Qt P ops Q tl) (fun _ _ _=>id) id h)⟩
theorem z3v {n g:Nat} {L:Array Bool->Act->World->Prop} (hL:∀ listed a w,L listed a w->wpAny P md ops Q g listed a w):
  ∀ (f:Nat) (listed:Array Bool) (a:Act) (w:World),z4N P md ops Q S n L f listed a w->wpAny P md ops Q (f+g) listed a w
 |0,listed,a,w,h=>by rw[Nat.zero_add];exact hL _ _ _ h
 |f+1,listed,a,w,h=>by
  rw[show f+1+g=(f+g)+1 by omega]
  exact⟨fun h0=>absurd h0 h.1,fun i hi=>wpOp_mono (fun a' w' h'=>z3v hL f _ a' w' h'.2) (h.2 i hi).2⟩
theorem z0X {id:Nat} {a:Act} {w:World} {l:List Oper} (n:Nat) (ord:List (Nat × Bool)) (S:World->Prop) (hm:P.follows .mixedOrders= true)
  (hB:ordTB .any l.toArray n ord= true) (hlen:ord.length= n)
  (hQ:∀ c a d v w,Q (.panic c) (a.put d v) w->Q (.panic c) a w) (h:wpOrd P l.toArray S (Qt P l.toArray Q (l.drop n)) ord a w.drew):(Code.region id l.toArray true).wp P Q a w:=by
 simp only[ordTB,Bool.and_eq_true,decide_eq_true_eq] at hB;obtain⟨⟨⟨⟨G,O⟩,X⟩,N⟩,C⟩:=hB;have K:HeadInv .any l.toArray n (Array.replicate l.toArray.size false):=
  ⟨by simp,fun j oj _ hl=>(by rw[getD_replicate_false] at hl;cases hl),fun t _ ht=>getD_in (by simpa using ht) (getD_replicate_false _ _)⟩
 have H:=z2B (md:= .any) G X N O hQ ord _ a _ K C h;have A:(l.drop n).length= l.toArray.size - n:=by simp
 refine wp_region_any hm ?_;have:=z3v (Q:=Q) (g:=l.toArray.size - n) (fun listed a' w' hL=>by
  have:=wpAny_of_seq (md:= .any) (Q':=Q) (l.drop n) n listed a' w' (fun j=>by simp[List.getElem?_drop]) (by rw[A];exact hL.1) hL.2;rwa [A] at this) _ _ _ _ H
 rw[hlen,show n+ (l.toArray.size - n)= l.toArray.size by omega] at this;exact this
theorem z3t {i:Nat} {r:List (Nat × Bool)} {a:Act} {w:World} (d:Option Tmp) (v:Value) (w':World) (o:Oper) (hi:ops[i]?= some o) (hd:o.dst= d) (hw:Region.wanted o (yielded ops a.tmps)= true)
  (hrun:(execOp a.eval o).run P w= .ok (.value v) w') (hS:S w') (h:wpOrd P ops S Q r (a.put d v) w'):wpOrd P ops S Q ((i,false)::r) a w:=by
 subst hd;refine z4W o hi hw fun K hK=> ?_;unfold Oper.wp;rw[hrun];exact hK _ _ hS h
theorem z3Q {a:Act} {w:World} {tl:List Oper} (h:wpList P ops Q tl a w):wpOrd P ops S (Qt P ops Q tl) [] a w:=h
end
end Go.Proofs.YtpmjcbjdcjjplaaGreatDoor
