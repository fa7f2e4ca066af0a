import Derived.Test.YtpmjcbjdcjjplaaGreatDoorCards
import Derived.Test.YtpmjcbjdcjjplaaGreatDoorTie
import Derived.Deep.DeepHandedRow
import Derived.Stop.LaidErr
import Derived.Test.YtpmjcbjdcjjplaaGreatDoorPackS44
set_option maxHeartbeats 8000000
set_option maxRecDepth 100000
set_option linter.unusedVariables false
set_option linter.unusedSimpArgs false
namespace Go.Proofs.YtpmjcbjdcjjplaaGreatDoor
open Go.ChangeShapes Go.WideShapes Go.ChangeAt Go.RowKit Go
theorem z81 {W:World} (hL:laidMetH Tryz.prog Rows.wellSoundRow.laid W):TabP W:=by
 have h1:laidMet Tryz.prog [("internal/strconv.uint64pow10",Rows.laid_internal_strconv_uint64pow10)] W:=laidMet.tail (laidMet.tail (show laidMet Tryz.prog Rows.wellSoundRow.laid W from hL));have e:(Rows.laid_internal_strconv_uint64pow10:DataW Unit)= Lib.tabData .u64 Lib.pow10Tab:=by kernel_rfl
 rw[e] at h1;exact Lib.tabIs_of_head (g:=2) (t:=279) (e:=181) (n:=20) (by kernel_rfl) (by kernel_rfl) Tryz.underlying279 Tryz.underlying181 (by kernel_rfl) (by kernel_rfl) h1
abbrev zAr:Array Value:=#[.agg #[.int .i64 0,.slice none 0 0,.slice none 0 0,.slice none 0 0,.slice none 0 0,.slice none 0 0],.slice none 0 0]
noncomputable def z29 (os:Os):World:=
 { World.holding Tryz.prog os ⟨#[],#[],[]⟩ with heap:=((((World.holding Tryz.prog os ⟨#[],#[],[]⟩).heap).modify 2 (fun x=>match x with| .cells _ t frozen=> .cells #[.int .u64 1,.int .u64 10,.int .u64 100,.int .u64 1000,.int .u64 10000,.int .u64 100000,.int .u64 1000000,.int .u64 10000000,.int .u64 100000000,.int .u64 1000000000,.int .u64 10000000000,.int .u64 100000000000,.int .u64 1000000000000,.int .u64 10000000000000,.int .u64 100000000000000,.int .u64 1000000000000000,.int .u64 10000000000000000,.int .u64 100000000000000000,.int .u64 1000000000000000000,.int .u64 10000000000000000000] t frozen|o=>o)).modify 3 (fun x=>match x with| .cells _ t frozen=> .cells #[.int .u8 0,.int .u8 1,.int .u8 28,.int .u8 2,.int .u8 29,.int .u8 14,.int .u8 24,.int .u8 3,.int .u8 30,.int .u8 22,.int .u8 20,.int .u8 15,.int .u8 25,.int .u8 17,.int .u8 4,.int .u8 8,.int .u8 31,.int .u8 27,.int .u8 13,.int .u8 23,.int .u8 21,.int .u8 19,.int .u8 16,.int .u8 7,.int .u8 26,.int .u8 12,.int .u8 18,.int .u8 6,.int .u8 11,.int .u8 5,.int .u8 10,.int .u8 9] t frozen|o=>o)).modify 4 (fun x=>match x with| .cells _ t frozen=> .cells #[.int .u8 0,.int .u8 1,.int .u8 56,.int .u8 2,.int .u8 57,.int .u8 49,.int .u8 28,.int .u8 3,.int .u8 61,.int .u8 58,.int .u8 42,.int .u8 50,.int .u8 38,.int .u8 29,.int .u8 17,.int .u8 4,.int .u8 62,.int .u8 47,.int .u8 59,.int .u8 36,.int .u8 45,.int .u8 43,.int .u8 51,.int .u8 22,.int .u8 53,.int .u8 39,.int .u8 33,.int .u8 30,.int .u8 24,.int .u8 18,.int .u8 12,.int .u8 5,.int .u8 63,.int .u8 55,.int .u8 48,.int .u8 27,.int .u8 60,.int .u8 41,.int .u8 37,.int .u8 16,.int .u8 46,.int .u8 35,.int .u8 44,.int .u8 21,.int .u8 52,.int .u8 32,.int .u8 23,.int .u8 11,.int .u8 54,.int .u8 26,.int .u8 40,.int .u8 15,.int .u8 34,.int .u8 20,.int .u8 31,.int .u8 10,.int .u8 25,.int .u8 14,.int .u8 19,.int .u8 9,.int .u8 13,.int .u8 8,.int .u8 7,.int .u8 6] t frozen|o=>o) }
theorem z6Z (os:Os):laidMet Tryz.prog Rows.wellSoundRow.laid ((z29 os).forCall (fun _ _=>0) ⟨#[],zAr,[]⟩).memory:=
 laidMet_of_run' 8 (by kernel_rfl) (by kernel_rfl)
theorem z6z (os:Os) {H:Type} (enc:TypeId × Value->H):∃ x,DataW.whole enc Tryz.prog ((z29 os).forCall (fun _ _=>0) ⟨#[],zAr,[]⟩).memory Tryz.f3.params.toList Rows.wellSoundSpec.vars false zAr.toList 8= some x:=
 Option.isSome_iff_exists.1 (by kernel_rfl)
theorem z4L (H:Type) (enc:TypeId × Value->H) (W:World) (base:Nat) (args:Array Value) (ds gs:List (DataW H)) (before:List MemPlace)
  (hval0:∀ (j:Nat) t v,Tryz.f3.params[j]?= some t->args[j]?= some v->Value.okWide Tryz.prog W .any base t v)
  (hW:DataW.Whole enc Tryz.prog Tryz.f3.params.toList Rows.wellSoundSpec.vars false W args.toList ds gs before)
  (hL:laidMetH Tryz.prog Rows.wellSoundRow.laid W):
  Calls Tryz.prog 3 args W fun e W'=>∃ v,e= .returned v/\Rows.wellSoundSpec.post enc Tryz.prog Tryz.f3 false true false false W args v W':=by
 have g:∀ (j:Nat) t v,Tryz.f3.params[j]?= some t->args[j]?= some v->Value.okWide Tryz.prog W .any base t v:=hval0;have G:=hW;obtain⟨p,q,A,hV,rfl,a5,a6⟩:=hW;have hA:DataW.TrodAll enc Tryz.prog W 0 (fun _=>true) true Tryz.f3.params.toList args.toList ds p:=A;rw[Tryz.params3] at hA g;obtain⟨v0,a7,d0,a2,p0,q0,K,rfl,rfl,h0,r0⟩:=trodAll_cons hA;obtain⟨v1,a8,d1,a3,p1,q1,rfl,rfl,rfl,h1,r1⟩:=trodAll_cons r0;obtain⟨rfl,rfl,rfl⟩:=trodAll_nil r1;obtain rfl:args= #[v0,v1]:=by cases args;simp_all
 obtain⟨rfl,rfl⟩:=trodVars_none hV;have k0:=h0;have Y:=z67 k0;obtain⟨C,m0,rfl,O⟩:=zcA (g 0 27 v0 rfl rfl) h0;have k1:=h1;have a0:=z67 k1;obtain⟨m1,X,N⟩:=zbw (g 1 28 v1 rfl rfl) h1;clear A hval0;refine(wellSound_walk W (z81 hL) C m0 O v1 m1 X N).mono fun e W' ⟨he,bel⟩=> ?_;subst he;exact⟨_,rfl,_,_,_,[],_,[],G,trodAll_mk1 (shut_bool Tryz.underlying4 _),(trodAll_cons_mk (Below.trod zak (by kernel_rfl) (of_decide_eq_true (by kernel_rfl)) k0 bel Y) (trodAll_cons_mk (Below.trod zak (by kernel_rfl) (of_decide_eq_true (by kernel_rfl)) k1 bel a0) trodAll_mk0)),rfl,bel.frame _,fun h=>by cases h⟩
theorem z5J (os:Os) (started:os.Started) (H:Type) (enc:TypeId × Value->H) (F:Stop.Interp):
  ReturnsInHanded {} Tryz.checked os 3 .any ((OpenSpec.ofChange Rows.wellSoundSpec).preRow enc Tryz.prog Tryz.f3 Rows.wellSoundRow.domain false Rows.wellSoundRow.laid) (((OpenSpec.ofChange Rows.wellSoundSpec).at F).post enc Tryz.prog Tryz.f3 false true false false):=by
 obtain⟨x,Y⟩:=z6z os enc;refine returnsInHanded_of_row (C:=Tryz.checked) (s:=OpenSpec.ofChange Rows.wellSoundSpec) own started (by kernel_rfl) Tryz.func3
  (witness_row_at (enc:=enc) (C:=Tryz.checked) false (z29 os) zAr rfl (by kernel_rfl) (by kernel_rfl) (by kernel_rfl)
   (OpenSpec.preRow_of_cond 8 Y rfl (fun k hk=>by cases hk) (by kernel_rfl) (z6Z os))) ?_
 intro W base args G K g A O _ _ X N _ _;exact z4L H enc W base args G K g A O N
theorem z70:Rows.WellSoundSaid:=
 OpenClaim.holds_of_cond 3 Tryz.f3 rfl rfl rfl rfl rfl rfl rfl ⟨rfl,rfl,rfl,rfl,rfl⟩ rfl rfl rfl rfl rfl (by kernel_rfl) Tryz.func3 (by kernel_rfl)
  (of_decide_eq_true (by kernel_rfl)) (by unfold Func.isWrapper;first|(rw[if_pos (by decide +kernel)];kernel_rfl)|(rw[if_neg (by decide +kernel)];exact⟨rfl,rfl⟩))
  (fun os started H enc _ F=>by rw[OpenClaim.pre_eq_preRow];exact z5J os started H enc F)
theorem z6y (f:FuncId) (fn:Func) (hf:Tryz.pinned.checked.prog.funcNamed "bascule/basculelaw14.WellSound" = some f) (hfn:Tryz.pinned.checked.prog.funcs[f]?= some fn):
  true= Tryz.pinned.checked.prog.looks []/\∀ (j:Nat) t,fn.params[j]?= some t->Tryz.pinned.checked.prog.wantsStandIn t= false:=by
 obtain rfl:f= 3:=Option.some.inj ((show Tryz.prog.funcNamed "bascule/basculelaw14.WellSound" = some 3 by kernel_rfl).symm.trans hf)|>.symm;obtain rfl:fn= Tryz.f3:=(Option.some.inj (Tryz.func3.symm.trans hfn)).symm;refine⟨by kernel_rfl,fun j t ht=> ?_⟩;rw[Tryz.params3] at ht;have g:=Array.mem_of_getElem? ht;simp only[List.mem_toArray,List.mem_cons,List.not_mem_nil,or_false] at g;rcases g with rfl|rfl
 ·exact(show Tryz.prog.wantsStandIn 27= false by kernel_rfl)
 ·exact(show Tryz.prog.wantsStandIn 28= false by kernel_rfl)
theorem wellSound_proved:Rows.WellSoundCardSaid:=
 Claim7.holds_tied_plain_at .later [] _ _ _ _ z70 (fun _ h=>by cases h) (by kernel_rfl) (fun _ h=>by cases h) wellSound_row_tie rfl ⟨rfl,rfl⟩ (by kernel_rfl) rfl z6y (by kernel_rfl)
#print axioms wellSound_proved
end Go.Proofs.YtpmjcbjdcjjplaaGreatDoor
