/- Parts of a proof: Order, Order3. -/
import Derived.OrdersHeld
import Derived.BigQuiet
import Derived.WalkKit
import Derived.Test.YtpmjcbjdcjjplaaGreatDoorPackS0
set_option maxHeartbeats 8000000
set_option maxRecDepth 100000
set_option linter.unusedVariables false
set_option linter.unusedSimpArgs false
namespace Go.Proofs.YtpmjcbjdcjjplaaGreatDoor
section
open Go
def ordB (md:Region.Mode) (ops:Array Oper):List (Nat × Bool)->Array Bool->Bool
 |[],listed=>(Region.ready md ops listed).isEmpty
 |(i,true)::r,listed=>Region.free md ops listed i && (Region.ready md ops listed).contains i && ordB md ops r (listed.setIfInBounds i true)
 |(i,false)::r,listed=>(Region.ready md ops listed ==[i]) && ordB md ops r (listed.setIfInBounds i true)
def wpOrd (P:Program) (ops:Array Oper) (S:World->Prop) (Q:Exit->Act->World->Prop):List (Nat × Bool)->Act->World->Prop
 |[],a,w=>Q .normal a w
 |(i,true)::r,a,w=>S w/\∃ o v,ops[i]?= some o/\YieldsIf P ops S o v a/\wpOrd P ops S Q r (a.put o.dst v) w
 |(i,false)::r,a,w=>wpOp P ops Q i (fun a' w'=>S w'/\wpOrd P ops S Q r a' w') a w
section
variable {P:Program} {ops:Array Oper} {S:World->Prop} {Q:Exit->Act->World->Prop}
theorem z2A (hs:Region.noSelect ops= true) (hQ:∀ c a d v w,Q (.panic c) (a.put d v) w->Q (.panic c) a w):
  ∀ (ord:List (Nat × Bool)) (listed:Array Bool) (a:Act) (w:World),ordB .any ops ord listed= true->wpOrd P ops S Q ord a w->wpAnyH P .any ops Q S ord.length listed a w
 |[],listed,a,w,hB,h=>wpAnyH_done (by simpa [ordB] using hB) h _
 |(i,true)::r,listed,a,w,hB,h=>by
  simp only[ordB,Bool.and_eq_true] at hB
  obtain⟨hS,o,v,hi,hy,hr⟩:=h
  exact wpAnyH_take hi hs hB.1.1 hB.1.2 (fun c a w hq=>hQ c a _ _ w hq) hy hS (z2A hs hQ r _ _ _ hB.2 hr)
 |(i,false)::r,listed,a,w,hB,h=>by
  simp only[ordB,Bool.and_eq_true,beq_iff_eq] at hB
  refine wpAnyH_all hB.1 (by simp) fun j hj=> ?_
  obtain rfl:j= i:=by simpa using hj
  exact wpOp_mono (fun a' w' hh=>⟨hh.1,z2A hs hQ r _ _ _ hB.2 hh.2⟩) h
theorem z82 {id:Nat} {a:Act} {w:World} {l:List Oper} (ord:List (Nat × Bool)) (S:World->Prop) (hm:P.follows .mixedOrders= true) (hs:Region.noSelect l.toArray= true)
  (hB:ordB .any l.toArray ord (Array.replicate l.toArray.size false)= true) (hlen:ord.length= l.toArray.size)
  (hQ:∀ c a d v w,Q (.panic c) (a.put d v) w->Q (.panic c) a w) (h:wpOrd P l.toArray S Q ord a w.drew):(Code.region id l.toArray true).wp P Q a w:=by
 refine wp_region_held (S:=S) hm ?_;have:=z2A hs hQ ord _ a w.drew hB h;rw[hlen] at this;exact this
theorem zo {P:Program} {Q:Exit->Act->World->Prop} {id:Nat} {a:Act} {w:World} {l:List Oper} (ord:List (Nat × Bool)) (S:World->Prop) (hm:(P.follows .mixedOrders && Region.noSelect l.toArray && ordB .any l.toArray ord (Array.replicate l.toArray.size false) && (ord.length == l.toArray.size))= true) (hQ:∀ c a d v w,Q (.panic c) (a.put d v) w->Q (.panic c) a w) (h:wpOrd P l.toArray S Q ord a w.drew):(Code.region id l.toArray true).wp P Q a w:=by
 simp only[Bool.and_eq_true,beq_iff_eq] at hm;exact z82 ord S hm.1.1.1 hm.1.1.2 hm.1.2 hm.2 hQ h
variable {i:Nat} {r:List (Nat × Bool)} {o:Oper} {a:Act} {w:World}
theorem z8S (o:Oper) (hi:ops[i]?= some o) (hw:Region.wanted o (yielded ops a.tmps)= false) (hS:S w) (h:wpOrd P ops S Q r (a.put o.dst undef) w):wpOrd P ops S Q ((i,true)::r) a w:=
 ⟨hS,o,undef,hi,.inr ⟨hw,rfl⟩,h⟩
theorem z4Y (o:Oper) (v:Value) (hi:ops[i]?= some o) (hw:Region.wanted o (yielded ops a.tmps)= true) (hS:S w) (hv:∀ w,S w->(execOp a.eval o).run P w= .ok (.value v) w)
  (h:wpOrd P ops S Q r (a.put o.dst v) w):wpOrd P ops S Q ((i,true)::r) a w:=
 ⟨hS,o,v,hi,.inl ⟨hw,hv⟩,h⟩
theorem zfc (d:Option Tmp) (v:Value) (o:Oper) (hi:ops[i]?= some o) (hd:o.dst= d) (hw:Region.wanted o (yielded ops a.tmps)= true) (hS:S w) (hv:∀ w,S w->(execOp a.eval o).run P w= .ok (.value v) w)
  (h:wpOrd P ops S Q r (a.put d v) w):wpOrd P ops S Q ((i,true)::r) a w:=by
 subst hd;exact z4Y o v hi hw hS hv h
theorem zfd (d:Option Tmp) (v:Value) (o:Oper) (x:Operand) (hi:ops[i]?= some o) (ho:o.op= .move x) (hd:o.dst= d) (hw:Region.wanted o (yielded ops a.tmps)= true) (hS:S w) (hv:a.eval x= v)
  (h:wpOrd P ops S Q r (a.put d v) w):wpOrd P ops S Q ((i,true)::r) a w:=by
 subst hd;subst hv;exact z4Y o _ hi hw hS (fun w _=>by rw[BigFrame.run_move x ho]) h
theorem zb5 (d:Option Tmp) (v:Value) (o:Oper) (x:Operand) (hi:ops[i]?= some o) (ho:o.op= .assign x) (hd:o.dst= d) (hw:Region.wanted o (yielded ops a.tmps)= true) (hS:S w) (hv:a.eval x= v)
  (h:wpOrd P ops S Q r (a.put d v) w):wpOrd P ops S Q ((i,true)::r) a w:=by
 subst hd;subst hv;exact z4Y o _ hi hw hS (fun w _=>by rw[BigFrame.run_assign x ho]) h
theorem z4W (o:Oper) (hi:ops[i]?= some o) (hw:Region.wanted o (yielded ops a.tmps)= true) (h:∀ K:Act->World->Prop,(∀ a' w',S w'->wpOrd P ops S Q r a' w'->K a' w')->o.wp P a w K Q):
  wpOrd P ops S Q ((i,false)::r) a w:=by
 show wpOp P ops Q i _ a w;unfold wpOp;simp only[hi,hw,if_true];exact .inl (h _ fun a' w' hS h=>⟨hS,h⟩)
theorem zfe (o:Oper) (hi:ops[i]?= some o) (hw:Region.wanted o (yielded ops a.tmps)= false) (hS:S w) (h:wpOrd P ops S Q r (a.put o.dst undef) w):
  wpOrd P ops S Q ((i,false)::r) a w:=by
 show wpOp P ops Q i _ a w;unfold wpOp;simp only[hi,hw];exact⟨hS,h⟩
theorem zD (h:Q .normal a w):wpOrd P ops S Q [] a w:=h
theorem zfb (o:Oper) (f:FuncId) (args:Array Value) (hi:ops[i]?= some o) (hw:Region.wanted o (yielded ops a.tmps)= true) (hrun:(execOp a.eval o).run P w= .ok (.enter f args) w)
  (h:Calls P f args w fun e w'=>∃ v,e= .returned v/\S w'/\wpOrd P ops S Q r (a.put o.dst v) w'):wpOrd P ops S Q ((i,false)::r) a w:=
 z4W o hi hw fun K hK=>by
  unfold Oper.wp
  rw[hrun,Oper.upon_enter]
  refine h.mono fun e w' he=> ?_
  obtain⟨v,rfl,hS,hh⟩:=he
  exact hK _ _ hS hh
theorem z9X {y:Nat->Option Bool} (hg:o.guard= none):Region.wanted o y= true:=by unfold Region.wanted;rw[hg]
theorem z6B {og:Oper} {g d:Nat} {b:Bool} (hog:ops[g]?= some og) (hd:og.dst= some d) (hv:a.tmps.getD d undef= .bool b):yielded ops a.tmps g= some b:=by
 unfold yielded;rw[hog,Option.bind_some,hd,Option.bind_some];rw[Array.getD_eq_getD_getElem?] at hv;cases h:a.tmps[d]? with
 |none=>rw[h] at hv;simp[undef] at hv
 |some v=>rw[h] at hv;simp at hv;rw[hv]
theorem ze4 {g d:Nat} {b:Bool} {og:Oper} (hg:o.guard= some (g,b)) (hog:ops[g]?= some og) (hd:og.dst= some d) (hv:a.tmps.getD d undef= .bool b):
  Region.wanted o (yielded ops a.tmps)= true:=by
 unfold Region.wanted;rw[hg];simp only[z6B hog hd hv];simp
def wantB (o:Oper) (ops:Array Oper) (tmps:Array Value):Bool:=
 match o.guard with
 |none=>true
 |some (g,b)=>
  match ops[g]? with
  |none=>false
  |some og=>
   match og.dst with
   |none=>false
   |some d=>
    match tmps.getD d undef with
    | .bool c=>c ==b
    |_=>false
theorem wA {ops:Array Oper} {o:Oper} {a:Act} (h:wantB o ops a.tmps= true):Region.wanted o (yielded ops a.tmps)= true:=by
 unfold wantB at h;cases hg:o.guard with
 |none=>exact z9X hg
 |some gb=>
  obtain⟨g,b⟩:=gb;rw[hg] at h;dsimp only at h;cases ho:ops[g]? with
  |none=>rw[ho] at h;cases h
  |some og=>
   rw[ho] at h;dsimp only at h;cases hd:og.dst with
   |none=>rw[hd] at h;cases h
   |some d=>
    rw[hd] at h;dsimp only at h;split at h
    ·next c hv=>
     rw[eq_of_beq h] at hv;exact ze4 hg ho hd hv
    ·cases h
theorem zS {P:Program} {ops:Array Oper} {S:World->Prop} {Q:Exit->Act->World->Prop} {i:Nat} {r:List (Nat × Bool)} {a:Act} {w:World} (d:Nat) (v:Value) {o:Oper} {x:Operand} (hi:ops[i]?= some o) (ho:o.op= .assign x) (hd:o.dst= some d) (hb:wantB o ops a.tmps= true) (hS:S w) (hv:a.eval x= v) (h:wpOrd P ops S Q r (a.put (some d) v) w):wpOrd P ops S Q ((i,true)::r) a w:=zb5 (some d) v o x hi ho hd (wA hb) hS hv h
theorem zf {P:Program} {ops:Array Oper} {S:World->Prop} {Q:Exit->Act->World->Prop} {i:Nat} {r:List (Nat × Bool)} {a:Act} {w:World} (d:Nat) (v:Value) {o:Oper} {x:Operand} (hi:ops[i]?= some o) (ho:o.op= .move x) (hd:o.dst= some d) (hb:wantB o ops a.tmps= true) (hS:S w) (hv:a.eval x= v) (h:wpOrd P ops S Q r (a.put (some d) v) w):wpOrd P ops S Q ((i,true)::r) a w:=zfd (some d) v o x hi ho hd (wA hb) hS hv h
theorem z7 {P:Program} {ops:Array Oper} {S:World->Prop} {Q:Exit->Act->World->Prop} {i:Nat} {r:List (Nat × Bool)} {a:Act} {w:World} (d:Nat) (v:Value) {o:Oper} (hi:ops[i]?= some o) (hd:o.dst= some d) (hb:wantB o ops a.tmps= true) (hS:S w) (hv:∀ w,S w->(execOp a.eval o).run P w= .ok (.value v) w) (h:wpOrd P ops S Q r (a.put (some d) v) w):wpOrd P ops S Q ((i,true)::r) a w:=zfc (some d) v o hi hd (wA hb) hS hv h
theorem zd {g d:Nat} {b c:Bool} {og:Oper} (hg:o.guard= some (g,b)) (hog:ops[g]?= some og) (hd:og.dst= some d) (hv:a.tmps.getD d undef= .bool c) (hne:c≠b):
  Region.wanted o (yielded ops a.tmps)= false:=by
 unfold Region.wanted;rw[hg];simp only[z6B hog hd hv]
 simpa using hne
theorem z4l {f:FuncId} {fn:Func} (hf:P.funcs[f]?= some fn) (hn:(fn.name == "runtime.NumGoroutine")= false) (hb:fn.body.isNone= false)
  (o:Oper) (args:Array Operand) (ts:Array TypeId) (ho:o.op= .call { callee:= .value (.func f),args:=args,argTypes:=ts }):(execOp a.eval o).run P w= .ok (.enter f (args.map a.eval)) w:=by
 unfold execOp;simp only[ho];simp[resolve,Deferred.ofValue,Act.eval,invoke,callFunc,hf];rw[if_neg (by simpa using hn),if_neg (by intro h;rw[h] at hb;cases hb)]
theorem zh8 (d:Option Tmp) (f:FuncId) {fn:Func} (hf:P.funcs[f]?= some fn) (hn:(fn.name == "runtime.NumGoroutine")= false) (hb:fn.body.isNone= false) (vals:List Value)
  (o:Oper) (args:List Operand) (ts:Array TypeId) (hi:ops[i]?= some o) (ho:o.op= .call { callee:= .value (.func f),args:=args.toArray,argTypes:=ts })
  (hd:o.dst= d) (hw:Region.wanted o (yielded ops a.tmps)= true) (hv:args.map a.eval= vals)
  (h:Calls P f vals.toArray w fun e w'=>∃ v,e= .returned v/\S w'/\wpOrd P ops S Q r (a.put d v) w'):wpOrd P ops S Q ((i,false)::r) a w:=
 zfb o f vals.toArray hi hw (by rw[← hv,← List.map_toArray];exact z4l hf hn hb o args.toArray ts ho) (hd▸h)
theorem zA {P:Program} {ops:Array Oper} {S:World->Prop} {Q:Exit->Act->World->Prop} {i:Nat} {r:List (Nat × Bool)} {a:Act} {w:World} (d:Nat) (f:FuncId) {fn:Func} (hf:P.funcs[f]?= some fn) (hn:((fn.name == "runtime.NumGoroutine") || fn.body.isNone)= false) (vals:List Value) {o:Oper} {args:List Operand} {ts:Array TypeId} (hi:ops[i]?= some o) (ho:o.op= .call { callee:= .value (.func f),args:=args.toArray,argTypes:=ts }) (hd:o.dst= some d) (hb:wantB o ops a.tmps= true) (hv:args.map a.eval= vals) (h:Calls P f vals.toArray w fun e w'=>∃ v,e= .returned v/\S w'/\wpOrd P ops S Q r (a.put (some d) v) w'):wpOrd P ops S Q ((i,false)::r) a w:=by
 rw[Bool.or_eq_false_iff] at hn;exact zh8 (some d) f hf hn.1 hn.2 vals o args ts hi ho hd (wA hb) hv h
theorem zE (d:Option Tmp) (v:Value) (o:Oper) (c x y:Operand) (b:Bool) (hi:ops[i]?= some o) (ho:o.op= .pick c x y) (hd:o.dst= d) (hc:a.eval c= .bool b) (hw:Region.wanted o (yielded ops a.tmps)= true)
  (hS:S w) (hv:(if b then a.eval x else a.eval y)= v) (h:wpOrd P ops S Q r (a.put d v) w):wpOrd P ops S Q ((i,true)::r) a w:=by
 subst hd;subst hv;exact z4Y o _ hi hw hS (fun w _=>by
  unfold execOp;simp only[ho,hc];cases b<;>simp[asBool]) h
end
end
section
open Go
inductive OrdT where
 |done
 |take (i:Nat) (r:OrdT)
 |act (i:Nat) (r:OrdT)
 |two (i j:Nat) (r s:OrdT)
def OrdT.len:OrdT->Nat
 | .done=>0
 | .take _ r=>r.len+1
 | .act _ r=>r.len+1
 | .two _ _ r _=>r.len+1
def OrdT.ok (md:Region.Mode) (ops:Array Oper):OrdT->Array Bool->Bool
 | .done,listed=>(Region.ready md ops listed).isEmpty
 | .take i r,listed=>Region.free md ops listed i && (Region.ready md ops listed).contains i && r.ok md ops (listed.setIfInBounds i true)
 | .act i r,listed=>(Region.ready md ops listed ==[i]) && r.ok md ops (listed.setIfInBounds i true)
 | .two i j r s,listed=>(Region.ready md ops listed ==[i,j]) && r.ok md ops (listed.setIfInBounds i true) && s.ok md ops (listed.setIfInBounds j true) && (r.len ==s.len)
def zV (P:Program) (ops:Array Oper) (S:World->Prop) (Q:Exit->Act->World->Prop):OrdT->Act->World->Prop
 | .done,a,w=>Q .normal a w
 | .take i r,a,w=>S w/\∃ o v,ops[i]?= some o/\YieldsIf P ops S o v a/\zV P ops S Q r (a.put o.dst v) w
 | .act i r,a,w=>wpOp P ops Q i (fun a' w'=>S w'/\zV P ops S Q r a' w') a w
 | .two i j r s,a,w=>wpOp P ops Q i (fun a' w'=>S w'/\zV P ops S Q r a' w') a w/\wpOp P ops Q j (fun a' w'=>S w'/\zV P ops S Q s a' w') a w
def OrdT.of:List (Nat × Bool)->OrdT->OrdT
 |[],t=>t
 |(i,true)::r,t=> .take i (OrdT.of r t)
 |(i,false)::r,t=> .act i (OrdT.of r t)
section
variable {P:Program} {ops:Array Oper} {S:World->Prop} {Q:Exit->Act->World->Prop}
theorem z15 (hs:Region.noSelect ops= true) (hQ:∀ c a d v w,Q (.panic c) (a.put d v) w->Q (.panic c) a w):
  ∀ (t:OrdT) (listed:Array Bool) (a:Act) (w:World),t.ok .any ops listed= true->zV P ops S Q t a w->wpAnyH P .any ops Q S t.len listed a w
 | .done,listed,a,w,hB,h=>wpAnyH_done (by simpa [OrdT.ok] using hB) h _
 | .take i r,listed,a,w,hB,h=>by
  simp only[OrdT.ok,Bool.and_eq_true] at hB
  obtain⟨hS,o,v,hi,hy,hr⟩:=h
  exact wpAnyH_take hi hs hB.1.1 hB.1.2 (fun c a w hq=>hQ c a _ _ w hq) hy hS (z15 hs hQ r _ _ _ hB.2 hr)
 | .act i r,listed,a,w,hB,h=>by
  simp only[OrdT.ok,Bool.and_eq_true,beq_iff_eq] at hB
  refine wpAnyH_all hB.1 (by simp) fun j hj=> ?_
  obtain rfl:j= i:=by simpa using hj
  exact wpOp_mono (fun a' w' hh=>⟨hh.1,z15 hs hQ r _ _ _ hB.2 hh.2⟩) h
 | .two i j r s,listed,a,w,hB,h=>by
  simp only[OrdT.ok,Bool.and_eq_true,beq_iff_eq] at hB
  obtain⟨⟨⟨h1,h2⟩,h3⟩,h4⟩:=hB
  refine wpAnyH_all h1 (by simp) fun k g=> ?_
  rcases List.mem_cons.1 g with rfl|g
  ·exact wpOp_mono (fun a' w' hh=>⟨hh.1,z15 hs hQ r _ _ _ h2 hh.2⟩) h.1
  ·obtain rfl:k= j:=by simpa using g
   refine wpOp_mono (fun a' w' hh=>⟨hh.1,?_⟩) h.2
   have:=z15 hs hQ s _ _ _ h3 hh.2
   rw[← h4] at this
   exact this
theorem z2b {id:Nat} {a:Act} {w:World} {l:List Oper} (t:OrdT) (S:World->Prop) (hm:P.follows .mixedOrders= true) (hs:Region.noSelect l.toArray= true)
  (hB:t.ok .any l.toArray (Array.replicate l.toArray.size false)= true) (hlen:t.len= l.toArray.size)
  (hQ:∀ c a d v w,Q (.panic c) (a.put d v) w->Q (.panic c) a w) (h:zV P l.toArray S Q t a w.drew):(Code.region id l.toArray true).wp P Q a w:=by
 refine wp_region_held (S:=S) hm ?_;have:=z15 hs hQ t _ a w.drew hB h;rw[hlen] at this;exact this
end
section
variable {P:Program} {ops:Array Oper} {S:World->Prop} {Q:Exit->Act->World->Prop} {i:Nat} {r:OrdT} {a:Act} {w:World}
theorem z5G (o:Oper) (v:Value) (hi:ops[i]?= some o) (hw:Region.wanted o (yielded ops a.tmps)= true) (hS:S w) (hv:∀ w,S w->(execOp a.eval o).run P w= .ok (.value v) w)
  (h:zV P ops S Q r (a.put o.dst v) w):zV P ops S Q (.take i r) a w:=
 ⟨hS,o,v,hi,.inl ⟨hw,hv⟩,h⟩
theorem zdO (d:Option Tmp) (v:Value) (o:Oper) (hi:ops[i]?= some o) (hd:o.dst= d) (hw:Region.wanted o (yielded ops a.tmps)= true) (hS:S w) (hv:∀ w,S w->(execOp a.eval o).run P w= .ok (.value v) w)
  (h:zV P ops S Q r (a.put d v) w):zV P ops S Q (.take i r) a w:=by
 subst hd;exact z5G o v hi hw hS hv h
theorem zU {P:Program} {ops:Array Oper} {S:World->Prop} {Q:Exit->Act->World->Prop} {i:Nat} {r:OrdT} {a:Act} {w:World} (d:Nat) (v:Value) {o:Oper} (hi:ops[i]?= some o) (hd:o.dst= some d) (hb:wantB o ops a.tmps= true) (hS:S w) (hv:∀ w,S w->(execOp a.eval o).run P w= .ok (.value v) w) (h:zV P ops S Q r (a.put (some d) v) w):zV P ops S Q (.take i r) a w:=zdO (some d) v o hi hd (wA hb) hS hv h
theorem z4J (d:Option Tmp) (v:Value) (o:Oper) (x:Operand) (hi:ops[i]?= some o) (ho:o.op= .move x) (hd:o.dst= d) (hw:Region.wanted o (yielded ops a.tmps)= true) (hS:S w) (hv:a.eval x= v)
  (h:zV P ops S Q r (a.put d v) w):zV P ops S Q (.take i r) a w:=by
 subst hd;subst hv;exact z5G o _ hi hw hS (fun w _=>by rw[BigFrame.run_move x ho]) h
theorem z2i (d:Option Tmp) (v:Value) (o:Oper) (x:Operand) (hi:ops[i]?= some o) (ho:o.op= .assign x) (hd:o.dst= d) (hw:Region.wanted o (yielded ops a.tmps)= true) (hS:S w) (hv:a.eval x= v)
  (h:zV P ops S Q r (a.put d v) w):zV P ops S Q (.take i r) a w:=by
 subst hd;subst hv;exact z5G o _ hi hw hS (fun w _=>by rw[BigFrame.run_assign x ho]) h
theorem z5F (o:Oper) (hi:ops[i]?= some o) (hw:Region.wanted o (yielded ops a.tmps)= true) (h:∀ K:Act->World->Prop,(∀ a' w',S w'->zV P ops S Q r a' w'->K a' w')->o.wp P a w K Q):
  zV P ops S Q (.act i r) a w:=by
 show wpOp P ops Q i _ a w;unfold wpOp;simp only[hi,hw,if_true];exact .inl (h _ fun a' w' hS h=>⟨hS,h⟩)
theorem z27 (h:Q .normal a w):zV P ops S Q .done a w:=h
theorem zdN (o:Oper) (f:FuncId) (args:Array Value) (hi:ops[i]?= some o) (hw:Region.wanted o (yielded ops a.tmps)= true) (hrun:(execOp a.eval o).run P w= .ok (.enter f args) w)
  (h:Calls P f args w fun e w'=>∃ v,e= .returned v/\S w'/\zV P ops S Q r (a.put o.dst v) w'):zV P ops S Q (.act i r) a w:=
 z5F o hi hw fun K hK=>by
  unfold Oper.wp
  rw[hrun,Oper.upon_enter]
  refine h.mono fun e w' he=> ?_
  obtain⟨v,rfl,hS,hh⟩:=he
  exact hK _ _ hS hh
theorem z55 (d:Option Tmp) (f:FuncId) {fn:Func} (hf:P.funcs[f]?= some fn) (hn:(fn.name == "runtime.NumGoroutine")= false) (hb:fn.body.isNone= false) (vals:List Value)
  (o:Oper) (args:List Operand) (ts:Array TypeId) (hi:ops[i]?= some o) (ho:o.op= .call { callee:= .value (.func f),args:=args.toArray,argTypes:=ts })
  (hd:o.dst= d) (hw:Region.wanted o (yielded ops a.tmps)= true) (hv:args.map a.eval= vals)
  (h:Calls P f vals.toArray w fun e w'=>∃ v,e= .returned v/\S w'/\zV P ops S Q r (a.put d v) w'):zV P ops S Q (.act i r) a w:=
 zdN o f vals.toArray hi hw (by rw[← hv,← List.map_toArray];exact z4l hf hn hb o args.toArray ts ho) (hd▸h)
end
end
end Go.Proofs.YtpmjcbjdcjjplaaGreatDoor
