/- THE STATEMENT InferReplace is proved: for every input the Go function InferReplace returns true, and its arguments read afterwards as before; without conditions. -/
import Derived.Test.YteolfamhmfidbaaGreatDoorCards
import Derived.Test.YteolfamhmfidbaaGreatDoorTie
import Derived.ChangeMaps5
import Derived.WalkKit
import Derived.Deep.DeepHandedRow
import Derived.SevenTiedAt
import Derived.Lib.LaidTab
import Derived.Stop.LaidErr
import Derived.Test.YteolfamhmfidbaaGreatDoorPackJ12
import Derived.Test.YteolfamhmfidbaaGreatDoorPackJ50
set_option maxHeartbeats 8000000
set_option maxRecDepth 100000
set_option linter.unusedVariables false
set_option linter.unusedSimpArgs false
namespace Go.Proofs.YteolfamhmfidbaaGreatDoor
open Go.ChangeShapes Go.WideShapes Go.ChangeAt Go.RowKit Go
theorem z5j {W:World} (hL:laidMetH Tryz.prog Rows.inferReplaceRow.laid W):TabP W:=by
 have h1:laidMet Tryz.prog [("internal/strconv.uint64pow10",Rows.laid_internal_strconv_uint64pow10)] W:=laidMet.tail (laidMet.tail (show laidMet Tryz.prog Rows.inferReplaceRow.laid W from hL))
 have e:(Rows.laid_internal_strconv_uint64pow10:DataW Unit)= Lib.tabData .u64 Lib.pow10Tab:=by kernel_rfl
 rw[e] at h1
 exact Lib.tabIs_of_head (g:=2) (t:=253) (e:=172) (n:=20) (by kernel_rfl) (by kernel_rfl) Tryz.underlying253 Tryz.underlying172 (by kernel_rfl) (by kernel_rfl) h1
noncomputable def z11 (os:Os):World:=
 { World.holding Tryz.prog os ⟨#[],#[],[]⟩ with heap:=((((World.holding Tryz.prog os ⟨#[],#[],[]⟩).heap).modify 2 (fun x=>match x with| .cells _ t frozen=> .cells #[.int .u64 1,.int .u64 10,.int .u64 100,.int .u64 1000,.int .u64 10000,.int .u64 100000,.int .u64 1000000,.int .u64 10000000,.int .u64 100000000,.int .u64 1000000000,.int .u64 10000000000,.int .u64 100000000000,.int .u64 1000000000000,.int .u64 10000000000000,.int .u64 100000000000000,.int .u64 1000000000000000,.int .u64 10000000000000000,.int .u64 100000000000000000,.int .u64 1000000000000000000,.int .u64 10000000000000000000] t frozen|o=>o)).modify 3 (fun x=>match x with| .cells _ t frozen=> .cells #[.int .u8 0,.int .u8 1,.int .u8 28,.int .u8 2,.int .u8 29,.int .u8 14,.int .u8 24,.int .u8 3,.int .u8 30,.int .u8 22,.int .u8 20,.int .u8 15,.int .u8 25,.int .u8 17,.int .u8 4,.int .u8 8,.int .u8 31,.int .u8 27,.int .u8 13,.int .u8 23,.int .u8 21,.int .u8 19,.int .u8 16,.int .u8 7,.int .u8 26,.int .u8 12,.int .u8 18,.int .u8 6,.int .u8 11,.int .u8 5,.int .u8 10,.int .u8 9] t frozen|o=>o)).modify 4 (fun x=>match x with| .cells _ t frozen=> .cells #[.int .u8 0,.int .u8 1,.int .u8 56,.int .u8 2,.int .u8 57,.int .u8 49,.int .u8 28,.int .u8 3,.int .u8 61,.int .u8 58,.int .u8 42,.int .u8 50,.int .u8 38,.int .u8 29,.int .u8 17,.int .u8 4,.int .u8 62,.int .u8 47,.int .u8 59,.int .u8 36,.int .u8 45,.int .u8 43,.int .u8 51,.int .u8 22,.int .u8 53,.int .u8 39,.int .u8 33,.int .u8 30,.int .u8 24,.int .u8 18,.int .u8 12,.int .u8 5,.int .u8 63,.int .u8 55,.int .u8 48,.int .u8 27,.int .u8 60,.int .u8 41,.int .u8 37,.int .u8 16,.int .u8 46,.int .u8 35,.int .u8 44,.int .u8 21,.int .u8 52,.int .u8 32,.int .u8 23,.int .u8 11,.int .u8 54,.int .u8 26,.int .u8 40,.int .u8 15,.int .u8 34,.int .u8 20,.int .u8 31,.int .u8 10,.int .u8 25,.int .u8 14,.int .u8 19,.int .u8 9,.int .u8 13,.int .u8 8,.int .u8 7,.int .u8 6] t frozen|o=>o) }
theorem z4D (os:Os):laidMet Tryz.prog Rows.inferReplaceRow.laid ((z11 os).forCall (fun _ _=>0) ⟨#[],#[.agg #[.int .i64 0,.string .empty,.int .i64 0,.int .i64 0,.float .f64 0,.string .empty,.slice none 0 0,.slice none 0 0,.slice none 0 0,.slice none 0 0],.slice none 0 0,.string .empty,.agg #[.int .i64 0,.int .i64 0,.float .f64 0,.string .empty,.slice none 0 0,.slice none 0 0]],[]⟩).memory:=
 laidMet_of_run' 8 (by kernel_rfl) (by kernel_rfl)
theorem z45 (os:Os) {H:Type} (enc:TypeId × Value->H):∃ x,DataW.whole enc Tryz.prog ((z11 os).forCall (fun _ _=>0) ⟨#[],#[.agg #[.int .i64 0,.string .empty,.int .i64 0,.int .i64 0,.float .f64 0,.string .empty,.slice none 0 0,.slice none 0 0,.slice none 0 0,.slice none 0 0],.slice none 0 0,.string .empty,.agg #[.int .i64 0,.int .i64 0,.float .f64 0,.string .empty,.slice none 0 0,.slice none 0 0]],[]⟩).memory Tryz.f4.params.toList Rows.inferReplaceSpec.vars false (#[.agg #[.int .i64 0,.string .empty,.int .i64 0,.int .i64 0,.float .f64 0,.string .empty,.slice none 0 0,.slice none 0 0,.slice none 0 0,.slice none 0 0],.slice none 0 0,.string .empty,.agg #[.int .i64 0,.int .i64 0,.float .f64 0,.string .empty,.slice none 0 0,.slice none 0 0]]:Array Value).toList 8= some x:=
 Option.isSome_iff_exists.1 (by kernel_rfl)
theorem z2Y (H:Type) (enc:TypeId × Value->H) (W:World) (base:Nat) (args:Array Value) (ds gs:List (DataW H)) (before:List MemPlace)
  (hval0:∀ (j:Nat) t v,Tryz.f4.params[j]?= some t->args[j]?= some v->Value.okWide Tryz.prog W .any base t v)
  (hW:DataW.Whole enc Tryz.prog Tryz.f4.params.toList Rows.inferReplaceSpec.vars false W args.toList ds gs before)
  (hsz:(DataW.weightsEach Tryz.prog (Tryz.f4.params.toList ++ (OpenSpec.ofChange Rows.inferReplaceSpec).bare.plain.varTypes Tryz.prog) (ds ++ gs)).all (·<=reachBytes)= true)
  (hL:laidMetH Tryz.prog Rows.inferReplaceRow.laid W):
  Calls Tryz.prog 4 args W fun e W'=>∃ v,e= .returned v/\Rows.inferReplaceSpec.post enc Tryz.prog Tryz.f4 false true false false W args v W':=by
 have hval:∀ (j:Nat) t v,Tryz.f4.params[j]?= some t->args[j]?= some v->Value.okWide Tryz.prog W .any base t v:=hval0
 have hW':=hW
 obtain⟨p,q,hA0,hV,rfl,hfz,hnd⟩:=hW
 have hA:DataW.TrodAll enc Tryz.prog W 0 (fun _=>true) true Tryz.f4.params.toList args.toList ds p:=hA0
 rw[Tryz.params4] at hA hval
 obtain⟨v0,vs0,d0,ds0,p0,q0,hargs,rfl,rfl,h0,r0⟩:=trodAll_cons hA
 obtain⟨v1,vs1,d1,ds1,p1,q1,rfl,rfl,rfl,h1,r1⟩:=trodAll_cons r0
 obtain⟨v2,vs2,d2,ds2,p2,q2,rfl,rfl,rfl,h2,r2⟩:=trodAll_cons r1
 obtain⟨v3,vs3,d3,ds3,p3,q3,rfl,rfl,rfl,h3,r3⟩:=trodAll_cons r2
 obtain⟨rfl,rfl,rfl⟩:=trodAll_nil r3
 obtain rfl:args= #[v0,v1,v2,v3]:=by cases args;simp_all
 obtain⟨rfl,rfl⟩:=trodVars_none hV
 have k0:=h0
 have lt0:=z3o k0
 obtain⟨cs0,m0,rfl,hm0,hf0⟩:=zcc (hval 0 30 v0 rfl rfl) h0 fun n hn=>by simpa using List.all_eq_true.1 hsz _ (DataW.weights_mem_each (j:=0) rfl rfl n hn)
 have k1:=h1
 have lt1:=z3o k1
 obtain⟨m1,hm1,hl1⟩:=ze7 (hval 1 31 v1 rfl rfl) h1
 obtain⟨a2,rfl,rfl,rfl,w2⟩:=Go.ChangeMaps.open_string Tryz.underlying9 (hval 2 9 v2 rfl rfl) h2
 have k3:=h3
 have lt3:=z3o k3
 obtain⟨cs3,m3,rfl,hm3⟩:=zeA (hval 3 27 v3 rfl rfl) h3
 clear hA0 hval0
 refine(inferReplace_walk W (z5j hL) cs0 m0 hm0 hf0 v1 m1 hm1 hl1 a2 w2 cs3 m3 hm3).mono fun e W' ⟨he,bel⟩=> ?_
 subst he
 exact⟨_,rfl,_,_,_,[],_,[],hW',trodAll_mk1 (shut_bool Tryz.underlying4 _),(trodAll_cons_mk (Below.trod z6o (by kernel_rfl) (of_decide_eq_true (by kernel_rfl)) k0 bel lt0) (trodAll_cons_mk (Below.trod z6o (by kernel_rfl) (of_decide_eq_true (by kernel_rfl)) k1 bel lt1) (trodAll_cons_mk (Go.ChangeMaps.shut_string Tryz.underlying9 w2) (trodAll_cons_mk (Below.trod z6o (by kernel_rfl) (of_decide_eq_true (by kernel_rfl)) k3 bel lt3) trodAll_mk0)))),rfl,bel.frame _,fun h=>by cases h⟩
theorem z3O (os:Os) (started:os.Started) (H:Type) (enc:TypeId × Value->H) (F:Stop.Interp):
  ReturnsInHanded {} Tryz.checked os 4 .any ((OpenSpec.ofChange Rows.inferReplaceSpec).preRow enc Tryz.prog Tryz.f4 Rows.inferReplaceRow.domain false Rows.inferReplaceRow.laid) (((OpenSpec.ofChange Rows.inferReplaceSpec).at F).post enc Tryz.prog Tryz.f4 false true false false):=by
 obtain⟨x,hx⟩:=z45 os enc
 refine returnsInHanded_of_row (C:=Tryz.checked) (s:=OpenSpec.ofChange Rows.inferReplaceSpec) own started (by kernel_rfl) Tryz.func4
  (witness_row_at (enc:=enc) (C:=Tryz.checked) false (z11 os) #[.agg #[.int .i64 0,.string .empty,.int .i64 0,.int .i64 0,.float .f64 0,.string .empty,.slice none 0 0,.slice none 0 0,.slice none 0 0,.slice none 0 0],.slice none 0 0,.string .empty,.agg #[.int .i64 0,.int .i64 0,.float .f64 0,.string .empty,.slice none 0 0,.slice none 0 0]] rfl (by kernel_rfl) (by kernel_rfl) (by kernel_rfl)
   (OpenSpec.preRow_of_cond 8 hx rfl (fun k hk=>by cases hk) (by kernel_rfl) (z4D os))) ?_
 intro W base args ds gs before hval hW _ _ hsz hL _ _
 exact z2Y H enc W base args ds gs before hval hW hsz hL
theorem z4C:Rows.InferReplaceSaid:=
 OpenClaim.holds_of_cond 4 Tryz.f4 rfl rfl rfl rfl rfl rfl rfl ⟨rfl,rfl,rfl,rfl,rfl⟩ rfl rfl rfl rfl rfl (by kernel_rfl) Tryz.func4 (by kernel_rfl)
  (of_decide_eq_true (by kernel_rfl)) (by unfold Func.isWrapper;first|(rw[if_pos (by decide +kernel)];kernel_rfl)|(rw[if_neg (by decide +kernel)];exact⟨rfl,rfl⟩))
  (fun os started H enc _ F=>by rw[OpenClaim.pre_eq_preRow];exact z3O os started H enc F)
theorem z4d (f:FuncId) (fn:Func) (hf:Tryz.pinned.checked.prog.funcNamed "bascule/basculelaw11.InferReplace" = some f) (hfn:Tryz.pinned.checked.prog.funcs[f]?= some fn):
  true= Tryz.pinned.checked.prog.looks []/\∀ (j:Nat) t,fn.params[j]?= some t->Tryz.pinned.checked.prog.wantsStandIn t= false:=by
 obtain rfl:f= 4:=Option.some.inj ((show Tryz.prog.funcNamed "bascule/basculelaw11.InferReplace" = some 4 by kernel_rfl).symm.trans hf)|>.symm
 obtain rfl:fn= Tryz.f4:=(Option.some.inj (Tryz.func4.symm.trans hfn)).symm
 refine⟨by kernel_rfl,fun j t ht=> ?_⟩
 rw[Tryz.params4] at ht
 have hm:=Array.mem_of_getElem? ht
 simp only[List.mem_toArray,List.mem_cons,List.not_mem_nil,or_false] at hm
 rcases hm with rfl|rfl|rfl|rfl
 ·exact(show Tryz.prog.wantsStandIn 30= false by kernel_rfl)
 ·exact(show Tryz.prog.wantsStandIn 31= false by kernel_rfl)
 ·exact(show Tryz.prog.wantsStandIn 9= false by kernel_rfl)
 ·exact(show Tryz.prog.wantsStandIn 27= false by kernel_rfl)
theorem inferReplace_proved:Rows.InferReplaceCardSaid:=
 Claim7.holds_tied_plain_at .later [] _ _ _ _ z4C (fun _ h=>by cases h) (by kernel_rfl) (fun _ h=>by cases h) inferReplace_row_tie rfl ⟨rfl,rfl⟩ (by kernel_rfl) rfl z4d (by kernel_rfl)
#print axioms inferReplace_proved
end Go.Proofs.YteolfamhmfidbaaGreatDoor
