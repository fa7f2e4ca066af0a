/- THE STATEMENT WellGround is proved: for every input the Go function WellGround returns true, and its arguments read afterwards as before; without conditions. -/
import Derived.Test.YtdjfpcmlffekkaaGreatDoorCards
import Derived.Test.YtdjfpcmlffekkaaGreatDoorTie
import Derived.WalkKit
import Derived.Deep.DeepHandedRow
import Derived.SevenTiedAt
import Derived.Lib.LaidTab
import Derived.Stop.LaidErr
import Derived.Test.YtdjfpcmlffekkaaGreatDoorPackG5
import Derived.Test.YtdjfpcmlffekkaaGreatDoorPackG45
set_option maxHeartbeats 8000000
set_option maxRecDepth 100000
set_option linter.unusedVariables false
set_option linter.unusedSimpArgs false
namespace Go.Proofs.YtdjfpcmlffekkaaGreatDoor
open Go.ChangeShapes Go.WideShapes Go.ChangeAt Go.RowKit Go
theorem z5Z {W:World} (hL:laidMetH Tryz.prog Rows.wellGroundRow.laid W):TabP W:=by
 have h1:laidMet Tryz.prog [("internal/strconv.uint64pow10",Rows.laid_internal_strconv_uint64pow10)] W:=laidMet.tail (laidMet.tail (show laidMet Tryz.prog Rows.wellGroundRow.laid W from hL));have e:(Rows.laid_internal_strconv_uint64pow10:DataW Unit)= Lib.tabData .u64 Lib.pow10Tab:=by kernel_rfl
 rw[e] at h1;exact Lib.tabIs_of_head (g:=2) (t:=266) (e:=152) (n:=20) (by kernel_rfl) (by kernel_rfl) Tryz.underlying266 Tryz.underlying152 (by kernel_rfl) (by kernel_rfl) h1
noncomputable def z1D (os:Os):World:=
 { World.holding Tryz.prog os ⟨#[],#[],[]⟩ with heap:=((((World.holding Tryz.prog os ⟨#[],#[],[]⟩).heap).modify 2 (fun x=>match x with| .cells _ t frozen=> .cells #[.int .u64 1,.int .u64 10,.int .u64 100,.int .u64 1000,.int .u64 10000,.int .u64 100000,.int .u64 1000000,.int .u64 10000000,.int .u64 100000000,.int .u64 1000000000,.int .u64 10000000000,.int .u64 100000000000,.int .u64 1000000000000,.int .u64 10000000000000,.int .u64 100000000000000,.int .u64 1000000000000000,.int .u64 10000000000000000,.int .u64 100000000000000000,.int .u64 1000000000000000000,.int .u64 10000000000000000000] t frozen|o=>o)).modify 3 (fun x=>match x with| .cells _ t frozen=> .cells #[.int .u8 0,.int .u8 1,.int .u8 28,.int .u8 2,.int .u8 29,.int .u8 14,.int .u8 24,.int .u8 3,.int .u8 30,.int .u8 22,.int .u8 20,.int .u8 15,.int .u8 25,.int .u8 17,.int .u8 4,.int .u8 8,.int .u8 31,.int .u8 27,.int .u8 13,.int .u8 23,.int .u8 21,.int .u8 19,.int .u8 16,.int .u8 7,.int .u8 26,.int .u8 12,.int .u8 18,.int .u8 6,.int .u8 11,.int .u8 5,.int .u8 10,.int .u8 9] t frozen|o=>o)).modify 4 (fun x=>match x with| .cells _ t frozen=> .cells #[.int .u8 0,.int .u8 1,.int .u8 56,.int .u8 2,.int .u8 57,.int .u8 49,.int .u8 28,.int .u8 3,.int .u8 61,.int .u8 58,.int .u8 42,.int .u8 50,.int .u8 38,.int .u8 29,.int .u8 17,.int .u8 4,.int .u8 62,.int .u8 47,.int .u8 59,.int .u8 36,.int .u8 45,.int .u8 43,.int .u8 51,.int .u8 22,.int .u8 53,.int .u8 39,.int .u8 33,.int .u8 30,.int .u8 24,.int .u8 18,.int .u8 12,.int .u8 5,.int .u8 63,.int .u8 55,.int .u8 48,.int .u8 27,.int .u8 60,.int .u8 41,.int .u8 37,.int .u8 16,.int .u8 46,.int .u8 35,.int .u8 44,.int .u8 21,.int .u8 52,.int .u8 32,.int .u8 23,.int .u8 11,.int .u8 54,.int .u8 26,.int .u8 40,.int .u8 15,.int .u8 34,.int .u8 20,.int .u8 31,.int .u8 10,.int .u8 25,.int .u8 14,.int .u8 19,.int .u8 9,.int .u8 13,.int .u8 8,.int .u8 7,.int .u8 6] t frozen|o=>o) }
theorem z5z (os:Os):laidMet Tryz.prog Rows.wellGroundRow.laid ((z1D os).forCall (fun _ _=>0) ⟨#[],#[.agg #[.int .i64 0,.slice none 0 0,.slice none 0 0]],[]⟩).memory:=
 laidMet_of_run' 8 (by kernel_rfl) (by kernel_rfl)
theorem z4O (os:Os) {H:Type} (enc:TypeId × Value->H):∃ x,DataW.whole enc Tryz.prog ((z1D os).forCall (fun _ _=>0) ⟨#[],#[.agg #[.int .i64 0,.slice none 0 0,.slice none 0 0]],[]⟩).memory Tryz.f4.params.toList Rows.wellGroundSpec.vars false (#[.agg #[.int .i64 0,.slice none 0 0,.slice none 0 0]]:Array Value).toList 8= some x:=
 Option.isSome_iff_exists.1 (by kernel_rfl)
theorem z3r (H:Type) (enc:TypeId × Value->H) (W:World) (base:Nat) (args:Array Value) (ds gs:List (DataW H)) (before:List MemPlace)
  (hval0:∀ (j:Nat) t v,Tryz.f4.params[j]?= some t->args[j]?= some v->Value.okWide Tryz.prog W .any base t v)
  (hW:DataW.Whole enc Tryz.prog Tryz.f4.params.toList Rows.wellGroundSpec.vars false W args.toList ds gs before)
  (hL:laidMetH Tryz.prog Rows.wellGroundRow.laid W):
  Calls Tryz.prog 4 args W fun e W'=>∃ v,e= .returned v/\Rows.wellGroundSpec.post enc Tryz.prog Tryz.f4 false true false false W args v W':=by
 have g:∀ (j:Nat) t v,Tryz.f4.params[j]?= some t->args[j]?= some v->Value.okWide Tryz.prog W .any base t v:=hval0;have F:=hW;obtain⟨p,q,A,Y,rfl,a0,a1⟩:=hW;have O:DataW.TrodAll enc Tryz.prog W 0 (fun _=>true) true Tryz.f4.params.toList args.toList ds p:=A;rw[Tryz.params4] at O g;obtain⟨v0,a2,d0,X,p0,q0,G,rfl,rfl,h0,r0⟩:=trodAll_cons O;obtain⟨rfl,rfl,rfl⟩:=trodAll_nil r0;obtain rfl:args= #[v0]:=by cases args;simp_all
 obtain⟨rfl,rfl⟩:=trodVars_none Y;have k0:=h0;have N:=z9t k0;obtain⟨C,m0,rfl,K⟩:=zds (g 0 41 v0 rfl rfl) h0;clear A hval0;refine(wellGround_walk W (z5Z hL) C m0 K).mono fun e W' ⟨he,bel⟩=> ?_;subst he;exact⟨_,rfl,_,_,_,[],_,[],F,trodAll_mk1 (shut_bool Tryz.underlying4 _),(trodAll_cons_mk (Below.trod ze3 (by kernel_rfl) (of_decide_eq_true (by kernel_rfl)) k0 bel N) trodAll_mk0),rfl,bel.frame _,fun h=>by cases h⟩
theorem z4e (os:Os) (started:os.Started) (H:Type) (enc:TypeId × Value->H) (F:Stop.Interp):
  ReturnsInHanded {} Tryz.checked os 4 .any ((OpenSpec.ofChange Rows.wellGroundSpec).preRow enc Tryz.prog Tryz.f4 Rows.wellGroundRow.domain false Rows.wellGroundRow.laid) (((OpenSpec.ofChange Rows.wellGroundSpec).at F).post enc Tryz.prog Tryz.f4 false true false false):=by
 obtain⟨x,Y⟩:=z4O os enc;refine returnsInHanded_of_row (C:=Tryz.checked) (s:=OpenSpec.ofChange Rows.wellGroundSpec) own started (by kernel_rfl) Tryz.func4
  (witness_row_at (enc:=enc) (C:=Tryz.checked) false (z1D os) #[.agg #[.int .i64 0,.slice none 0 0,.slice none 0 0]] rfl (by kernel_rfl) (by kernel_rfl) (by kernel_rfl)
   (OpenSpec.preRow_of_cond 8 Y rfl (fun k hk=>by cases hk) (by kernel_rfl) (z5z os))) ?_
 intro W base args G K g A O _ _ X N _ _;exact z3r H enc W base args G K g A O N
theorem z5A:Rows.WellGroundSaid:=
 OpenClaim.holds_of_cond 4 Tryz.f4 rfl rfl rfl rfl rfl rfl rfl ⟨rfl,rfl,rfl,rfl,rfl⟩ rfl rfl rfl rfl rfl (by kernel_rfl) Tryz.func4 (by kernel_rfl)
  (of_decide_eq_true (by kernel_rfl)) (by unfold Func.isWrapper;first|(rw[if_pos (by decide +kernel)];kernel_rfl)|(rw[if_neg (by decide +kernel)];exact⟨rfl,rfl⟩))
  (fun os started H enc _ F=>by rw[OpenClaim.pre_eq_preRow];exact z4e os started H enc F)
theorem z4N (f:FuncId) (fn:Func) (hf:Tryz.pinned.checked.prog.funcNamed "bascule/basculelaw14.WellGround" = some f) (hfn:Tryz.pinned.checked.prog.funcs[f]?= some fn):
  true= Tryz.pinned.checked.prog.looks []/\∀ (j:Nat) t,fn.params[j]?= some t->Tryz.pinned.checked.prog.wantsStandIn t= false:=by
 obtain rfl:f= 4:=Option.some.inj ((show Tryz.prog.funcNamed "bascule/basculelaw14.WellGround" = some 4 by kernel_rfl).symm.trans hf)|>.symm;obtain rfl:fn= Tryz.f4:=(Option.some.inj (Tryz.func4.symm.trans hfn)).symm;refine⟨by kernel_rfl,fun j t ht=> ?_⟩;rw[Tryz.params4] at ht;obtain rfl:t= 41:=by simpa using Array.mem_of_getElem? ht
 exact(show Tryz.prog.wantsStandIn 41= false by kernel_rfl)
theorem wellGround_proved:Rows.WellGroundCardSaid:=
 Claim7.holds_tied_plain_at .later [] _ _ _ _ z5A (fun _ h=>by cases h) (by kernel_rfl) (fun _ h=>by cases h) wellGround_row_tie rfl ⟨rfl,rfl⟩ (by kernel_rfl) rfl z4N (by kernel_rfl)
#print axioms wellGround_proved
end Go.Proofs.YtdjfpcmlffekkaaGreatDoor
