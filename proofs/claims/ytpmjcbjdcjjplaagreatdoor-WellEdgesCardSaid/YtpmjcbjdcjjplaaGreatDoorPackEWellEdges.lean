/- THE STATEMENT WellEdges is proved: for every input the Go function WellEdges returns true, and its arguments read afterwards as before; without conditions. -/
import Derived.Test.YtpmjcbjdcjjplaaGreatDoorCards
import Derived.Test.YtpmjcbjdcjjplaaGreatDoorTie
import Derived.Deep.DeepHandedRow
import Derived.Stop.LaidErr
import Derived.Test.YtpmjcbjdcjjplaaGreatDoorPackE49
set_option maxHeartbeats 8000000
set_option maxRecDepth 100000
set_option linter.unusedVariables false
set_option linter.unusedSimpArgs false
namespace Go.Proofs.YtpmjcbjdcjjplaaGreatDoor
open Go.ChangeShapes Go.WideShapes Go.ChangeAt Go.RowKit Go
theorem z7X {W:World} (hL:laidMetH Tryz.prog Rows.wellEdgesRow.laid W):TabP W:=by
 have h1:laidMet Tryz.prog [("internal/strconv.uint64pow10",Rows.laid_internal_strconv_uint64pow10)] W:=laidMet.tail (laidMet.tail (show laidMet Tryz.prog Rows.wellEdgesRow.laid W from hL));have e:(Rows.laid_internal_strconv_uint64pow10:DataW Unit)= Lib.tabData .u64 Lib.pow10Tab:=by kernel_rfl
 rw[e] at h1;exact Lib.tabIs_of_head (g:=2) (t:=279) (e:=181) (n:=20) (by kernel_rfl) (by kernel_rfl) Tryz.underlying279 Tryz.underlying181 (by kernel_rfl) (by kernel_rfl) h1
noncomputable def z1S (os:Os):World:=
 { World.holding Tryz.prog os ⟨#[],#[],[]⟩ with heap:=((((World.holding Tryz.prog os ⟨#[],#[],[]⟩).heap).modify 2 (fun x=>match x with| .cells _ t frozen=> .cells #[.int .u64 1,.int .u64 10,.int .u64 100,.int .u64 1000,.int .u64 10000,.int .u64 100000,.int .u64 1000000,.int .u64 10000000,.int .u64 100000000,.int .u64 1000000000,.int .u64 10000000000,.int .u64 100000000000,.int .u64 1000000000000,.int .u64 10000000000000,.int .u64 100000000000000,.int .u64 1000000000000000,.int .u64 10000000000000000,.int .u64 100000000000000000,.int .u64 1000000000000000000,.int .u64 10000000000000000000] t frozen|o=>o)).modify 3 (fun x=>match x with| .cells _ t frozen=> .cells #[.int .u8 0,.int .u8 1,.int .u8 28,.int .u8 2,.int .u8 29,.int .u8 14,.int .u8 24,.int .u8 3,.int .u8 30,.int .u8 22,.int .u8 20,.int .u8 15,.int .u8 25,.int .u8 17,.int .u8 4,.int .u8 8,.int .u8 31,.int .u8 27,.int .u8 13,.int .u8 23,.int .u8 21,.int .u8 19,.int .u8 16,.int .u8 7,.int .u8 26,.int .u8 12,.int .u8 18,.int .u8 6,.int .u8 11,.int .u8 5,.int .u8 10,.int .u8 9] t frozen|o=>o)).modify 4 (fun x=>match x with| .cells _ t frozen=> .cells #[.int .u8 0,.int .u8 1,.int .u8 56,.int .u8 2,.int .u8 57,.int .u8 49,.int .u8 28,.int .u8 3,.int .u8 61,.int .u8 58,.int .u8 42,.int .u8 50,.int .u8 38,.int .u8 29,.int .u8 17,.int .u8 4,.int .u8 62,.int .u8 47,.int .u8 59,.int .u8 36,.int .u8 45,.int .u8 43,.int .u8 51,.int .u8 22,.int .u8 53,.int .u8 39,.int .u8 33,.int .u8 30,.int .u8 24,.int .u8 18,.int .u8 12,.int .u8 5,.int .u8 63,.int .u8 55,.int .u8 48,.int .u8 27,.int .u8 60,.int .u8 41,.int .u8 37,.int .u8 16,.int .u8 46,.int .u8 35,.int .u8 44,.int .u8 21,.int .u8 52,.int .u8 32,.int .u8 23,.int .u8 11,.int .u8 54,.int .u8 26,.int .u8 40,.int .u8 15,.int .u8 34,.int .u8 20,.int .u8 31,.int .u8 10,.int .u8 25,.int .u8 14,.int .u8 19,.int .u8 9,.int .u8 13,.int .u8 8,.int .u8 7,.int .u8 6] t frozen|o=>o) }
theorem z70 (os:Os):laidMet Tryz.prog Rows.wellEdgesRow.laid ((z1S os).forCall (fun _ _=>0) ⟨#[],#[.agg #[.int .i64 0,.slice none 0 0,.slice none 0 0,.slice none 0 0,.slice none 0 0,.slice none 0 0]],[]⟩).memory:=
 laidMet_of_run' 8 (by kernel_rfl) (by kernel_rfl)
theorem z6u (os:Os) {H:Type} (enc:TypeId × Value->H):∃ x,DataW.whole enc Tryz.prog ((z1S os).forCall (fun _ _=>0) ⟨#[],#[.agg #[.int .i64 0,.slice none 0 0,.slice none 0 0,.slice none 0 0,.slice none 0 0,.slice none 0 0]],[]⟩).memory Tryz.f5.params.toList Rows.wellEdgesSpec.vars false (#[.agg #[.int .i64 0,.slice none 0 0,.slice none 0 0,.slice none 0 0,.slice none 0 0,.slice none 0 0]]:Array Value).toList 8= some x:=
 Option.isSome_iff_exists.1 (by kernel_rfl)
theorem z4x (H:Type) (enc:TypeId × Value->H) (W:World) (base:Nat) (args:Array Value) (ds gs:List (DataW H)) (before:List MemPlace)
  (hval0:∀ (j:Nat) t v,Tryz.f5.params[j]?= some t->args[j]?= some v->Value.okWide Tryz.prog W .any base t v)
  (hW:DataW.Whole enc Tryz.prog Tryz.f5.params.toList Rows.wellEdgesSpec.vars false W args.toList ds gs before)
  (hL:laidMetH Tryz.prog Rows.wellEdgesRow.laid W):
  Calls Tryz.prog 5 args W fun e W'=>∃ v,e= .returned v/\Rows.wellEdgesSpec.post enc Tryz.prog Tryz.f5 false true false false W args v W':=by
 have g:∀ (j:Nat) t v,Tryz.f5.params[j]?= some t->args[j]?= some v->Value.okWide Tryz.prog W .any base t v:=hval0;have G:=hW;obtain⟨p,q,A,hV,rfl,a1,a2⟩:=hW;have X:DataW.TrodAll enc Tryz.prog W 0 (fun _=>true) true Tryz.f5.params.toList args.toList ds p:=A;rw[Tryz.params5] at X g;obtain⟨v0,a3,d0,Y,p0,q0,K,rfl,rfl,h0,r0⟩:=trodAll_cons X;obtain⟨rfl,rfl,rfl⟩:=trodAll_nil r0;obtain rfl:args= #[v0]:=by cases args;simp_all
 obtain⟨rfl,rfl⟩:=trodVars_none hV;have k0:=h0;have O:=zaV k0;obtain⟨C,m0,rfl,N⟩:=zcu (g 0 27 v0 rfl rfl) h0;clear A hval0;refine(wellEdges_walk W (z7X hL) C m0 N).mono fun e W' ⟨he,bel⟩=> ?_;subst he;exact⟨_,rfl,_,_,_,[],_,[],G,trodAll_mk1 (shut_bool Tryz.underlying4 _),(trodAll_cons_mk (Below.trod zfL (by kernel_rfl) (of_decide_eq_true (by kernel_rfl)) k0 bel O) trodAll_mk0),rfl,bel.frame _,fun h=>by cases h⟩
theorem z5z (os:Os) (started:os.Started) (H:Type) (enc:TypeId × Value->H) (F:Stop.Interp):
  ReturnsInHanded {} Tryz.checked os 5 .any ((OpenSpec.ofChange Rows.wellEdgesSpec).preRow enc Tryz.prog Tryz.f5 Rows.wellEdgesRow.domain false Rows.wellEdgesRow.laid) (((OpenSpec.ofChange Rows.wellEdgesSpec).at F).post enc Tryz.prog Tryz.f5 false true false false):=by
 obtain⟨x,Y⟩:=z6u os enc;refine returnsInHanded_of_row (C:=Tryz.checked) (s:=OpenSpec.ofChange Rows.wellEdgesSpec) own started (by kernel_rfl) Tryz.func5
  (witness_row_at (enc:=enc) (C:=Tryz.checked) false (z1S os) #[.agg #[.int .i64 0,.slice none 0 0,.slice none 0 0,.slice none 0 0,.slice none 0 0,.slice none 0 0]] rfl (by kernel_rfl) (by kernel_rfl) (by kernel_rfl)
   (OpenSpec.preRow_of_cond 8 Y rfl (fun k hk=>by cases hk) (by kernel_rfl) (z70 os))) ?_
 intro W base args G K g A O _ _ X N _ _;exact z4x H enc W base args G K g A O N
theorem z71:Rows.WellEdgesSaid:=
 OpenClaim.holds_of_cond 5 Tryz.f5 rfl rfl rfl rfl rfl rfl rfl ⟨rfl,rfl,rfl,rfl,rfl⟩ rfl rfl rfl rfl rfl (by kernel_rfl) Tryz.func5 (by kernel_rfl)
  (of_decide_eq_true (by kernel_rfl)) (by unfold Func.isWrapper;first|(rw[if_pos (by decide +kernel)];kernel_rfl)|(rw[if_neg (by decide +kernel)];exact⟨rfl,rfl⟩))
  (fun os started H enc _ F=>by rw[OpenClaim.pre_eq_preRow];exact z5z os started H enc F)
theorem z6t (f:FuncId) (fn:Func) (hf:Tryz.pinned.checked.prog.funcNamed "bascule/basculelaw14.WellEdges" = some f) (hfn:Tryz.pinned.checked.prog.funcs[f]?= some fn):
  true= Tryz.pinned.checked.prog.looks []/\∀ (j:Nat) t,fn.params[j]?= some t->Tryz.pinned.checked.prog.wantsStandIn t= false:=by
 obtain rfl:f= 5:=Option.some.inj ((show Tryz.prog.funcNamed "bascule/basculelaw14.WellEdges" = some 5 by kernel_rfl).symm.trans hf)|>.symm;obtain rfl:fn= Tryz.f5:=(Option.some.inj (Tryz.func5.symm.trans hfn)).symm;refine⟨by kernel_rfl,fun j t ht=> ?_⟩;rw[Tryz.params5] at ht;obtain rfl:t= 27:=by simpa using Array.mem_of_getElem? ht
 exact(show Tryz.prog.wantsStandIn 27= false by kernel_rfl)
theorem wellEdges_proved:Rows.WellEdgesCardSaid:=
 Claim7.holds_tied_plain_at .later [] _ _ _ _ z71 (fun _ h=>by cases h) (by kernel_rfl) (fun _ h=>by cases h) wellEdges_row_tie rfl ⟨rfl,rfl⟩ (by kernel_rfl) rfl z6t (by kernel_rfl)
#print axioms wellEdges_proved
end Go.Proofs.YtpmjcbjdcjjplaaGreatDoor
