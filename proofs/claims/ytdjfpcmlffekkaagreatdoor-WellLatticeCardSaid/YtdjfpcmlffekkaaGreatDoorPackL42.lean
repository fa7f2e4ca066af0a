/- Parts of a proof: TUn, TCo. -/
import Derived.Deep.CutBlock
import Derived.Test.YtdjfpcmlffekkaaGreatDoorPackL28
import Derived.Test.YtdjfpcmlffekkaaGreatDoorPackL32
import Derived.Test.YtdjfpcmlffekkaaGreatDoorPackL35
import Derived.Test.YtdjfpcmlffekkaaGreatDoorPackL40
set_option maxHeartbeats 8000000
set_option maxRecDepth 100000
set_option linter.unusedVariables false
set_option linter.unusedSimpArgs false
namespace Go.Proofs.YtdjfpcmlffekkaaGreatDoor
section
open Go Go.RowKit
def TQ (p:Nat->Prop) (r:Except Int TT) (w:World) (e:Ending) (w':World):Prop:=
 (∃ t cs,r= .ok t/\e= .returned (.agg ⟨cs⟩)/\KeptT (fun b=>p b\/w.heap.size<=b) w' cs t/\Below w.heap.size w w')\/(∃ m n,r= .error m/\n≠0/\e= panE n/\Below w.heap.size w w')
theorem TQ.from {p:Nat->Prop} {r:Except Int TT} {w w1:World} {e:Ending} {w':World} (hb:Below w.heap.size w w1) (h:TQ p r w1 e w'):TQ p r w e w':=by
 rcases h with ⟨t,cs,hr,he,hk,hb2⟩|⟨m,n,hr,hn,he,hb2⟩
 ·exact .inl ⟨t,cs,hr,he,hk.to (fun b h1 h2=>⟨h1.imp id fun h=>Nat.le_trans hb.size h,rfl⟩) (Nat.le_refl _),hb.trans (hb2.mono hb.size)⟩
 ·exact .inr ⟨m,n,hr,hn,he,hb.trans (hb2.mono hb.size)⟩
def unW (k:Int):List Int:=if k= 3 then[2,3] else if k= 20 then[5,4] else if k= 21 then[2] else if k= 22 then[3] else if k= 23 then[1,2,3,4] else[1]
def unO (k:Int) (t:TT):TT:=if k= 20 then pT 2 else if k= 21 then pT 3 else if k= 22 then pT 2 else if k= 23 then pT 4 else t
theorem zfm {E:List VarT} {k:Int} {s:ByteArray} {v:VT} {ns:List ByteArray} {t:TT} (hk:k= 3\/k= 4\/k= 20\/k= 21\/k= 22\/k= 23):
  ownT E k s v ns [t]= if(unW k).contains (kT t)= true then .ok (unO k t) else .error 6:=by
 rcases hk with rfl|rfl|rfl|rfl|rfl|rfl<;>simp[ownT,unW,unO]
theorem zaa {ta tb t:TT} (h:joinT ta tb= some t) (h1:kT ta≠7) (h2:kT tb≠7):kT ta= kT tb:=by
 cases ta
 cases tb
 rw[joinT] at h
 simp only[kT] at*
 rw[if_neg h1,if_neg h2] at h
 apply Classical.byContradiction
 intro hne
 rw[if_pos (.inl hne)] at h
 cases h
def biW (k:Int):List Int:=if k= 5 then[2,3,4,5] else if k= 6\/k= 7\/k= 8 then[2,3] else if k= 9 then[2] else if k= 11\/k= 12 then[2,3,4] else[1]
theorem ze9 {k:Int} {ta tb:TT} (ha:lf ta) (hb:lf tb) (hj:joinT ta tb= none) (hk:5<=k/\k<=14):∃ m,pairT k ta tb= .error m:=by
 have hno:∀ m,(m= 1\/m= 2\/m= 3\/m= 4)->¬ (kT ta= m/\kT tb= m):=fun m hm h=>by rw[z9h ha hb h.1 h.2 hm] at hj;cases hj
 have n1:=hno 1 (by simp)
 have n2:=hno 2 (by simp)
 have n3:=hno 3 (by simp)
 have n4:=hno 4 (by simp)
 refine⟨6,?_⟩
 unfold pairT
 simp only[hj]
 by_cases k5:k= 5
 ·rw[if_pos k5]
 rw[if_neg k5]
 by_cases k6:k= 6\/k= 7\/k= 8
 ·rw[if_pos k6,if_neg (fun h=>h.elim n2 n3)]
 rw[if_neg k6]
 by_cases k9:k= 9
 ·rw[if_pos k9,if_neg n2]
 rw[if_neg k9]
 by_cases k10:k= 10
 ·rw[if_pos k10,if_neg (by simp)]
 rw[if_neg k10]
 by_cases k11:k= 11\/k= 12
 ·rw[if_pos k11,if_neg (fun h=>h.elim (fun h=>h.elim n2 n3) n4)]
 rw[if_neg k11]
 by_cases k13:k= 13\/k= 14
 ·rw[if_pos k13,if_neg n1]
 rw[if_neg k13]
theorem zem {k:Int} {ta tb t:TT} (ha:lf ta) (hb:lf tb) (hj:joinT ta tb= some t) (hk:5<=k/\k<=14) (h10:k≠10):
  pairT k ta tb= if((biW k).contains (kT ta) && (biW k).contains (kT tb))= true then .ok (if k= 11\/k= 12 then pT 1 else t) else .error 6:=by
 have J:∀ m,(m= 1\/m= 2\/m= 3\/m= 4)->kT ta= m->kT tb= m->t= pT m:=fun m hm h1 h2=>by
  have:=z9h ha hb h1 h2 hm
  rw[hj] at this
  injection this
 have K:=zaa hj
 have J1:=J 1 (by simp)
 have J2:=J 2 (by simp)
 have J3:=J 3 (by simp)
 have J4:=J 4 (by simp)
 clear J
 have hk2:k= 5\/k= 6\/k= 7\/k= 8\/k= 9\/k= 11\/k= 12\/k= 13\/k= 14:=by omega
 unfold pairT
 rw[hj]
 dsimp only
 generalize kT ta= x at*
 generalize kT tb= y at*
 have hc:∀ z:Int,z= 1\/z= 2\/z= 3\/z= 4\/z= 5\/(z≠1/\z≠2/\z≠3/\z≠4/\z≠5):=fun z=>by omega
 clear hj ha hb hk h10
 rcases hc x with rfl|rfl|rfl|rfl|rfl|⟨x1,x2,x3,x4,x5⟩
 case inr.inr.inr.inr.inr=>rcases hk2 with rfl|rfl|rfl|rfl|rfl|rfl|rfl|rfl|rfl<;>simp[biW,x1,x2,x3,x4,x5]
 all_goals
  rcases hc y with rfl|rfl|rfl|rfl|rfl|⟨y1,y2,y3,y4,y5⟩
  case inr.inr.inr.inr.inr=>rcases hk2 with rfl|rfl|rfl|rfl|rfl|rfl|rfl|rfl|rfl<;>simp[biW,y1,y2,y3,y4,y5]
  all_goals
   first
    |(simp at K;done)
    |((try (have:=J1 rfl rfl;subst this));(try (have:=J2 rfl rfl;subst this));(try (have:=J3 rfl rfl;subst this));(try (have:=J4 rfl rfl;subst this));rcases hk2 with rfl|rfl|rfl|rfl|rfl|rfl|rfl|rfl|rfl<;>simp[biW])
theorem zep (k:Int):(unW k).length<=10000:=by
 unfold unW
 repeat' split
 all_goals decide
theorem z03 {u:World} {b:Nat} {l:List Int} {T:TypeId} (h:Whole T u b (l.map (Value.int .i64))) (hl:l.length<=10000):IntsAt u u.heap.size (.slice (some ⟨b,0,none⟩) l.length l.length) l:=
 ⟨by omega,_,_,rfl,fun h0=>⟨b,0,rfl,h.lt,fun i x hx=>h.range i _ (by rw[List.getElem?_map,hx];rfl)⟩⟩
section
variable {P:Program} {o:Oper} {a:Act} {w:World}
theorem z6I (t:TypeId) (n:Int) (ho:o.op= .buildSlice t 1 #[(0,.const (.int .i64 n))]) (e:TypeId) (i:TypeInfo) (z:Value)
  (ht:P.underlying t= some (.slice e)) (hi:P.info? e= some i) (hz:i.zero= some z) (hsz:i.size= 1):(execOp a.eval o).run P w= .ok (.value (.slice (some ⟨w.heap.size,0,none⟩) 1 1)) (w.alloc (.cells ⟨[.int .i64 n]⟩ e)):=by
 have hr:(Instr.buildSlice t 1 #[(0,.int .i64 n)]).run P w= .ok (.slice (some ⟨w.heap.size,0,none⟩) 1 1) (w.alloc (.cells ⟨[.int .i64 n]⟩ e)):=by
  have hs:(sizeOf e).run P w= .ok 1 w:=by simp[sizeOf,typeInfo,hi,hsz]
  have hzv:(zeroValue e).run P w= .ok z w:=by simp[zeroValue,typeInfo,hi,hz]
  have hf:∀ cells:Array Value,cells.size= 1->Instr.fill (fun i=>some (i*1,1)) cells [(0,.int .i64 n)]= some #[.int .i64 n]:=fun cells hc=>z7L 1 [.int .i64 n] cells rfl hc
  unfold Instr.buildSlice
  simp only[Sem.run_bind,run_underlying ht,Result.andThen_ok,hs,Nat.one_mul]
  rw[if_neg (by omega),if_neg (by omega)]
  simp only[Sem.run_bind,Sem.run_pure,Result.andThen_ok,hzv]
  rw[hf _ (by simp)]
  simp[newRow]
 unfold execOp
 simp only[ho,List.map_toArray,List.map_cons,List.map_nil,Act.eval,Sem.run_bind,Sem.run_pure,Result.andThen_ok,hr]
end
theorem zcB:(Tryz.prog.info? 3).map (fun i=>(i.zero,i.size,i.bytes))= some (some (.int .i64 0),1,8):=by kernel_rfl
theorem za6 (p:Nat->Prop) (k:Int) (t:TT) (ct:List Value) (w:World) (E:List VarT) (s:ByteArray) (v:VT) (ns:List ByteArray) (hk:k= 3\/k= 4\/k= 20\/k= 21\/k= 22\/k= 23) (h:KeptT p w ct t) (hp:∀ b,p b->b < w.heap.size):
  Calls Tryz.prog 151 #[.int .i64 k,.agg ⟨ct⟩] w (TQ p (ownT E k s v ns [t]) w):=by
 have HRES:=I (zfm (E:=E) (s:=s) (v:=v) (ns:=ns) (t:=t) hk)
 generalize ownT E k s v ns [t]= res at HRES ⊢
 cases t with
 |mk ka na ia=>
 have HK:=I h
 have HP:=I hp
 obtain⟨NA,nc,A,c,rfl,_⟩:=h.inv
 clear h hp
 go_enter Tryz.func151,Tryz.ntmps151
 go_upto_region 1 with (fail)
 have hz3:(#[Value.int IntKind.i64 0,Value.slice none 0 0,Value.slice none 0 0]:Array Value)= zT3.toArray:=rfl
 rw[hz3]
 clear hz3
 have g0:=zd w (.cells ⟨[.int .i64 ka,.slice NA na.length nc,.slice A ia.length c]⟩ 41)
 have h0:=Whole.new w ([.int .i64 ka,.slice NA na.length nc,.slice A ia.length c]:List Value) 41
 have s0:(w.alloc (.cells ⟨[.int .i64 ka,.slice NA na.length nc,.slice A ia.length c]⟩ 41)).heap.size= w.heap.size+1:=by simp
 generalize w.alloc (.cells ⟨[.int .i64 ka,.slice NA na.length nc,.slice A ia.length c]⟩ 41)= W0 at*
 have g1:=zd W0 (.cells zT3.toArray 41)
 have h1:=Whole.new W0 (zT3:List Value) 41
 have s1:(W0.alloc (.cells zT3.toArray 41)).heap.size= w.heap.size+1+1:=by simp[s0]
 generalize W0.alloc (.cells zT3.toArray 41)= W1 at*
 rw[s0] at h1
 (try rw[s0])
 have HX:=I (h0.keep (g1.block _ (by omega)))
 have HRW:=I h1
 have HBL:=I (g0.trans (g1.mono g0.size))
 clear g0 g1 h0 h1 s0 s1
 obtain⟨W,hW⟩:∃ z,z= W1:=⟨_,rfl⟩
 subst hW
 obtain⟨jt,hi,hy0,hy1,hy2⟩:=zX z1L
 have HT0:=I hi
 have HT1:=I hy0
 obtain⟨ji,hi2,hx0,hx1,hx2⟩:=zX zcB
 have HI0:=I hi2
 have HI1:=I hx0
 have HI2:=I hx1
 clear hi hy0 hy1 hy2 hi2 hx0 hx1 hx2
 have HL3:Hid (([.int .i64 ka,.slice NA na.length nc,.slice A ia.length c]:List Value).length= 3):=I rfl
 have HXS:Hid (∀ z,Below W.heap.size W z->z.rangeAt w.heap.size 0 [.int .i64 ka,.slice NA na.length nc,.slice A ia.length c]):=I fun z hz=>(HX.o.keep (hz.block _ HX.o.lt)).range
 have hs:Below W.heap.size W W.drew:=(Below.refl _ _).drew
 go_cut [5,6] (fun v5 v6 z=>∃ q,v6= .pointer (some ⟨q,0,none⟩)/\IntsAt z z.heap.size v5 [1]/\W.heap.size<=q/\Whole 41 z q [.int .i64 ka,.slice NA na.length nc,.slice A ia.length c]/\Below W.heap.size W z)
 case first=>
  refine z1K (.take 1 (.two 0 2 (.act 2 (.take 3 (.act 4 .done))) (.act 0 (.take 3 (.act 4 .done))))) (fun z=>Below W.heap.size W z) (by kernel_rfl) (by kernel_rfl) (by kernel_rfl) rfl (by intro c a d v w h;cases d<;>exact h) ?_
  refine zV (some 8) (.agg ⟨[.int .i64 ka,.slice NA na.length nc,.slice A ia.length c]⟩) _ rfl rfl (by exact wA rfl) hs (fun z hz=>zt 41 rfl (w.heap.size) (0) ([.int .i64 ka,.slice NA na.length nc,.slice A ia.length c]) _ rfl (HXS.o z hz) Tryz.underlying41 rfl (by rw[HL3.o];kernel_rfl)) ?_
  go_frame
  refine z3i ?_ ?_
  ·refine z0G (some 7) (.slice (some ⟨W.drew.heap.size,0,none⟩) 1 1) (W.drew.alloc (.cells ⟨[.int .i64 1]⟩ 3)) _ rfl rfl (by exact wA rfl) (z6I 47 1 rfl 3 ji _ Tryz.underlying47 HI0.o HI1.o HI2.o) (hs.trans ((zd W.drew _).mono hs.size)) ?_
   go_frame
   have hbw1:=zd W.drew (.cells ⟨[.int .i64 1]⟩ 3)
   have hlw1:Whole 3 (W.drew.alloc (.cells ⟨[.int .i64 1]⟩ 3)) W.drew.heap.size [.int .i64 1]:=Whole.new W.drew _ _
   have hs:Below W.heap.size W (W.drew.alloc (.cells ⟨[.int .i64 1]⟩ 3)):=hs.trans (hbw1.mono hs.size)
   generalize W.drew.alloc (.cells ⟨[.int .i64 1]⟩ 3)= w1 at*
   refine z0G (some 6) (.pointer (some ⟨w1.heap.size,0,none⟩)) (w1.alloc (.cells zT3.toArray 41)) _ rfl rfl (by exact wA rfl) (z1c 41 rfl _ _ HT0.o HT1.o) (hs.trans ((zd w1 _).mono hs.size)) ?_
   go_frame
   have hbw2:=zd w1 (.cells zT3.toArray 41)
   have hww2:Whole 41 (w1.alloc (.cells zT3.toArray 41)) w1.heap.size zT3:=Whole.new w1 zT3 41
   have hgw2:W.heap.size<=w1.heap.size:=hs.size
   have hs:Below W.heap.size W (w1.alloc (.cells zT3.toArray 41)):=hs.trans (hbw2.mono hs.size)
   generalize w1.alloc (.cells zT3.toArray 41)= w2 at*
   refine z1R (some 5) (.slice (some ⟨W.drew.heap.size,0,none⟩) 1 1) _ _ rfl rfl rfl (by exact wA rfl) hs rfl ?_
   go_frame
   refine z0D none 41 _ _ _ rfl rfl rfl (by exact wA rfl) (w1.heap.size) zT3 ([.int .i64 ka,.slice NA na.length nc,.slice A ia.length c]) hww2 rfl rfl rfl (by kernel_rfl) (zI _ _ _ _ _ _ _) ?_
   intro w3 hww3 hbw3
   have hs:Below W.heap.size W w3:=hs.trans (hbw3.below hs.size hgw2 hgw2)
   refine⟨hs,?_⟩
   go_frame
   have hd:W.drew.heap.size < w1.heap.size:=hlw1.lt
   have hl3:=(hlw1.keep (hbw2.block _ hlw1.lt)).keep (hbw3.block _ (Nat.lt_of_lt_of_le hlw1.lt hbw2.size) (by omega) (by omega))
   refine z1H ?_
   go_wp2
   go_meet
   case rel=>exact⟨w1.heap.size,rfl,z03 (l:=[1]) (hl3) (by decide),hgw2,hww3,hs⟩
  ·refine z0G (some 6) (.pointer (some ⟨W.drew.heap.size,0,none⟩)) (W.drew.alloc (.cells zT3.toArray 41)) _ rfl rfl (by exact wA rfl) (z1c 41 rfl _ _ HT0.o HT1.o) (hs.trans ((zd W.drew _).mono hs.size)) ?_
   go_frame
   have hbw1:=zd W.drew (.cells zT3.toArray 41)
   have hww1:Whole 41 (W.drew.alloc (.cells zT3.toArray 41)) W.drew.heap.size zT3:=Whole.new W.drew zT3 41
   have hgw1:W.heap.size<=W.drew.heap.size:=hs.size
   have hs:Below W.heap.size W (W.drew.alloc (.cells zT3.toArray 41)):=hs.trans (hbw1.mono hs.size)
   generalize W.drew.alloc (.cells zT3.toArray 41)= w1 at*
   refine z0G (some 7) (.slice (some ⟨w1.heap.size,0,none⟩) 1 1) (w1.alloc (.cells ⟨[.int .i64 1]⟩ 3)) _ rfl rfl (by exact wA rfl) (z6I 47 1 rfl 3 ji _ Tryz.underlying47 HI0.o HI1.o HI2.o) (hs.trans ((zd w1 _).mono hs.size)) ?_
   go_frame
   have hbw2:=zd w1 (.cells ⟨[.int .i64 1]⟩ 3)
   have hlw2:Whole 3 (w1.alloc (.cells ⟨[.int .i64 1]⟩ 3)) w1.heap.size [.int .i64 1]:=Whole.new w1 _ _
   have hs:Below W.heap.size W (w1.alloc (.cells ⟨[.int .i64 1]⟩ 3)):=hs.trans (hbw2.mono hs.size)
   generalize w1.alloc (.cells ⟨[.int .i64 1]⟩ 3)= w2 at*
   refine z1R (some 5) (.slice (some ⟨w1.heap.size,0,none⟩) 1 1) _ _ rfl rfl rfl (by exact wA rfl) hs rfl ?_
   go_frame
   have hd:W.drew.heap.size < w1.heap.size:=hww1.lt
   have hww2:=hww1.keep (hbw2.block _ hww1.lt)
   refine z0D none 41 _ _ _ rfl rfl rfl (by exact wA rfl) (W.drew.heap.size) zT3 ([.int .i64 ka,.slice NA na.length nc,.slice A ia.length c]) hww2 rfl rfl rfl (by kernel_rfl) (zI _ _ _ _ _ _ _) ?_
   intro w3 hww3 hbw3
   have hs:Below W.heap.size W w3:=hs.trans (hbw3.below hs.size hgw1 hgw1)
   refine⟨hs,?_⟩
   go_frame
   have hl3:=hlw2.keep (hbw3.block _ hlw2.lt (by omega) (by omega))
   refine z1H ?_
   go_wp2
   go_meet
   case rel=>exact⟨W.drew.heap.size,rfl,z03 (l:=[1]) (hl3) (by decide),hgw1,hww3,hs⟩
 case rest=>
 obtain⟨q,rfl,hlit,hq,hwq,hbu⟩:=hcut
 obtain⟨U,hU⟩:∃ z,z= wc:=⟨_,rfl⟩
 subst hU
 have HQ:=I hwq
 have HUB:=I hbu
 have HQG:=I hq
 have HLT:=I hlit
 clear hlit hq hwq hbu
 go_upto_block 0 with (fail)
 go_cut [5] (fun v5 z=>∃ co,Whole 41 z q co/\co.length= 3/\(∀ u∈co,u.oneCell'= true)/\KeptT (fun b=>(p b\/W.heap.size<=b)/\b≠q) z co (unO k (.mk ka na ia))/\IntsAt z z.heap.size v5 (unW k)/\Below W.heap.size W z)
 case first=>
  have HKU:Hid (KeptT (fun b=>(p b\/W.heap.size<=b)/\b≠q) U [.int .i64 ka,.slice NA na.length nc,.slice A ia.length c] (.mk ka na ia)):=I (HK.o.to (fun b h1 h2=>⟨⟨.inl h1,fun e=>by have:=HP.o b h1;have:=HQG.o;have:=HBL.o.size;omega⟩,(HUB.o.block b (Nat.lt_of_lt_of_le h2 HBL.o.size)).trans (HBL.o.block b h2)⟩) (Nat.le_trans HBL.o.size HUB.o.size))
  rcases hk with rfl|rfl|rfl|rfl|rfl|rfl
  ·go_wp2
   go_meet
   case rel=>exact⟨_,HQ.o.keep ((zd U _).block _ HQ.o.lt),rfl,zI _ _ _ _ _ _ _,HKU.o.next (zd U _),z03 (l:=[2,3]) (Whole.new U [.int .i64 2,.int .i64 3] 3) (by decide),HUB.o.trans ((zd U _).mono HUB.o.size)⟩
  ·go_wp2
   go_meet
   case rel=>exact⟨_,HQ.o,rfl,zI _ _ _ _ _ _ _,HKU.o,HLT.o,HUB.o⟩
  ·go_wp2_with (first|(go_at_call 146;refine(z1d 2 (zx 2 (by decide +kernel)) _).mono ?_;rintro e z1 ⟨rfl,hb⟩;have HBZ1:=I hb;have HQ1:=I (HQ.o.keep (((zd _ _).trans (hb.mono (zd _ _).size)).block _ HQ.o.lt));clear hb)|((with_reducible refine zf 41 _ _ rfl rfl ?_ (q) ([.int .i64 ka,.slice NA na.length nc,.slice A ia.length c]) (tyC 2 (.slice none 0 0) (.slice none 0 0)) HQ1.o ?_ ?_ ?_ ?_ ?_ ?_);(exact wA rfl);rfl;rfl;rfl;kernel_rfl;exact(zI _ _ _ _ _ _ _);intro Z hz hb;have HZZ:=I hz;have HBZ:=I hb;clear hz hb))
   have HLN:Hid (Whole 3 (U.alloc (.cells ⟨[.int .i64 5,.int .i64 4]⟩ 3)) U.heap.size [.int .i64 5,.int .i64 4]):=I (Whole.new U _ _)
   have HLZ:Hid (Whole 3 z1 U.heap.size [.int .i64 5,.int .i64 4]):=I (HLN.o.keep (HBZ1.o.block _ HLN.o.lt))
   have hqu:=HQ.o.lt
   go_meet
   case rel=>exact⟨_,HZZ.o,rfl,zI _ _ _ _ _ _ _,z0y (zx 2 (by decide +kernel)),z03 (l:=[5,4]) (HLZ.o.keep (HBZ.o.block _ HLZ.o.lt (by omega) (by omega))) (by decide),(HUB.o.trans (((zd U _).trans (HBZ1.o.mono (zd U _).size)).mono HUB.o.size)).trans (HBZ.o.below (Nat.le_trans HUB.o.size (Nat.le_trans (zd U _).size HBZ1.o.size)) HQG.o HQG.o)⟩
  ·go_wp2_with (first|(go_at_call 146;refine(z1d 3 (zx 3 (by decide +kernel)) _).mono ?_;rintro e z1 ⟨rfl,hb⟩;have HBZ1:=I hb;have HQ1:=I (HQ.o.keep (((zd _ _).trans (hb.mono (zd _ _).size)).block _ HQ.o.lt));clear hb)|((with_reducible refine zf 41 _ _ rfl rfl ?_ (q) ([.int .i64 ka,.slice NA na.length nc,.slice A ia.length c]) (tyC 3 (.slice none 0 0) (.slice none 0 0)) HQ1.o ?_ ?_ ?_ ?_ ?_ ?_);(exact wA rfl);rfl;rfl;rfl;kernel_rfl;exact(zI _ _ _ _ _ _ _);intro Z hz hb;have HZZ:=I hz;have HBZ:=I hb;clear hz hb))
   have HLN:Hid (Whole 3 (U.alloc (.cells ⟨[.int .i64 2]⟩ 3)) U.heap.size [.int .i64 2]):=I (Whole.new U _ _)
   have HLZ:Hid (Whole 3 z1 U.heap.size [.int .i64 2]):=I (HLN.o.keep (HBZ1.o.block _ HLN.o.lt))
   have hqu:=HQ.o.lt
   go_meet
   case rel=>exact⟨_,HZZ.o,rfl,zI _ _ _ _ _ _ _,z0y (zx 3 (by decide +kernel)),z03 (l:=[2]) (HLZ.o.keep (HBZ.o.block _ HLZ.o.lt (by omega) (by omega))) (by decide),(HUB.o.trans (((zd U _).trans (HBZ1.o.mono (zd U _).size)).mono HUB.o.size)).trans (HBZ.o.below (Nat.le_trans HUB.o.size (Nat.le_trans (zd U _).size HBZ1.o.size)) HQG.o HQG.o)⟩
  ·go_wp2_with (first|(go_at_call 146;refine(z1d 2 (zx 2 (by decide +kernel)) _).mono ?_;rintro e z1 ⟨rfl,hb⟩;have HBZ1:=I hb;have HQ1:=I (HQ.o.keep (((zd _ _).trans (hb.mono (zd _ _).size)).block _ HQ.o.lt));clear hb)|((with_reducible refine zf 41 _ _ rfl rfl ?_ (q) ([.int .i64 ka,.slice NA na.length nc,.slice A ia.length c]) (tyC 2 (.slice none 0 0) (.slice none 0 0)) HQ1.o ?_ ?_ ?_ ?_ ?_ ?_);(exact wA rfl);rfl;rfl;rfl;kernel_rfl;exact(zI _ _ _ _ _ _ _);intro Z hz hb;have HZZ:=I hz;have HBZ:=I hb;clear hz hb))
   have HLN:Hid (Whole 3 (U.alloc (.cells ⟨[.int .i64 3]⟩ 3)) U.heap.size [.int .i64 3]):=I (Whole.new U _ _)
   have HLZ:Hid (Whole 3 z1 U.heap.size [.int .i64 3]):=I (HLN.o.keep (HBZ1.o.block _ HLN.o.lt))
   have hqu:=HQ.o.lt
   go_meet
   case rel=>exact⟨_,HZZ.o,rfl,zI _ _ _ _ _ _ _,z0y (zx 2 (by decide +kernel)),z03 (l:=[3]) (HLZ.o.keep (HBZ.o.block _ HLZ.o.lt (by omega) (by omega))) (by decide),(HUB.o.trans (((zd U _).trans (HBZ1.o.mono (zd U _).size)).mono HUB.o.size)).trans (HBZ.o.below (Nat.le_trans HUB.o.size (Nat.le_trans (zd U _).size HBZ1.o.size)) HQG.o HQG.o)⟩
  ·go_wp2_with (first|(go_at_call 146;refine(z1d 4 (zx 4 (by decide +kernel)) _).mono ?_;rintro e z1 ⟨rfl,hb⟩;have HBZ1:=I hb;have HQ1:=I (HQ.o.keep (((zd _ _).trans (hb.mono (zd _ _).size)).block _ HQ.o.lt));clear hb)|((with_reducible refine zf 41 _ _ rfl rfl ?_ (q) ([.int .i64 ka,.slice NA na.length nc,.slice A ia.length c]) (tyC 4 (.slice none 0 0) (.slice none 0 0)) HQ1.o ?_ ?_ ?_ ?_ ?_ ?_);(exact wA rfl);rfl;rfl;rfl;kernel_rfl;exact(zI _ _ _ _ _ _ _);intro Z hz hb;have HZZ:=I hz;have HBZ:=I hb;clear hz hb))
   have HLN:Hid (Whole 3 (U.alloc (.cells ⟨[.int .i64 1,.int .i64 2,.int .i64 3,.int .i64 4]⟩ 3)) U.heap.size [.int .i64 1,.int .i64 2,.int .i64 3,.int .i64 4]):=I (Whole.new U _ _)
   have HLZ:Hid (Whole 3 z1 U.heap.size [.int .i64 1,.int .i64 2,.int .i64 3,.int .i64 4]):=I (HLN.o.keep (HBZ1.o.block _ HLN.o.lt))
   have hqu:=HQ.o.lt
   go_meet
   case rel=>exact⟨_,HZZ.o,rfl,zI _ _ _ _ _ _ _,z0y (zx 4 (by decide +kernel)),z03 (l:=[1,2,3,4]) (HLZ.o.keep (HBZ.o.block _ HLZ.o.lt (by omega) (by omega))) (by decide),(HUB.o.trans (((zd U _).trans (HBZ1.o.mono (zd U _).size)).mono HUB.o.size)).trans (HBZ.o.below (Nat.le_trans HUB.o.size (Nat.le_trans (zd U _).size HBZ1.o.size)) HQG.o HQG.o)⟩
 case rest=>
 obtain⟨co,hwo,hol,hoo,hok,hin,hbz⟩:=hcut
 obtain⟨V,hV⟩:∃ z,z= wc:=⟨_,rfl⟩
 subst hV
 have HWO:=I hwo
 have HOL:=I hol
 have HOO:=I hoo
 have HOK:=I hok
 have HBV:=I hbz
 have HTO:=I (z3l ka (.slice NA na.length nc) (.slice A ia.length c) _ (unW k) V rfl rfl hin (zep k))
 have HXV:Hid (V.rangeAt w.heap.size 0 [.int .i64 ka,.slice NA na.length nc,.slice A ia.length c]):=I (HXS.o V hbz)
 have HBW:Hid (Below w.heap.size w V):=I (HBL.o.trans (hbz.mono HBL.o.size))
 have HRV:=I (HRW.o.keep (hbz.block _ HRW.o.lt))
 have HRL:Hid (w.heap.size+1 < W.heap.size):=I HRW.o.lt
 clear hwo hol hoo hok hin hbz HXS
 obtain⟨cb,hcb⟩:∃ b,(unW k).contains ka= b:=⟨_,rfl⟩
 rw[hcb] at HTO
 have HCB:=I hcb
 clear hcb
 cases cb with
 |false=>
  have HF:Hid (res= .error 6):=I (by rw[HRES.o];exact if_neg (by show ¬ (unW k).contains ka= true;rw[HCB.o];decide))
  go_wp2_with (first|((with_reducible refine za 41 _ rfl ?_ (w.heap.size) (0) ([.int .i64 ka,.slice NA na.length nc,.slice A ia.length c]) _ rfl HXV.o Tryz.underlying41 rfl ?_ ?_);(exact wA rfl);rw[HL3.o];kernel_rfl)|(go_at_call 149;refine(HTO.o).mono ?_;rintro e z ⟨rfl,hb⟩;have HBY:=I hb;clear hb)|(go_at_call 109;refine(z02 6 _).mono ?_;rintro e z5 ⟨rfl,hzw⟩;rw[hzw];clear hzw z5))
  exact⟨rfl,.inr ⟨6,6,HF.o,by decide,rfl,HBW.o.trans (HBY.o.mono HBW.o.size)⟩⟩
 |true=>
  have HF:Hid (res= .ok (unO k (.mk ka na ia))):=I (by rw[HRES.o];exact if_pos HCB.o)
  go_wp2_with (first|((with_reducible refine za 41 _ rfl ?_ (w.heap.size) (0) ([.int .i64 ka,.slice NA na.length nc,.slice A ia.length c]) _ rfl HXV.o Tryz.underlying41 rfl ?_ ?_);(exact wA rfl);rw[HL3.o];kernel_rfl)|(go_at_call 149;refine(HTO.o).mono ?_;rintro e z ⟨rfl,hb⟩;have HBY:=I hb;have HWY:=I (HWO.o.keep (hb.block _ HWO.o.lt));have HRY:=I (HRV.o.keep (hb.block _ HRV.o.lt));clear hb)|(go_at_call 109;refine(z0k 6 _).mono ?_;rintro e z5 ⟨rfl,hzw⟩;rw[hzw];clear hzw z5)|((with_reducible refine za 41 _ rfl ?_ (q) (0) (co) _ rfl HWY.o.range Tryz.underlying41 rfl ?_ ?_);(exact wA rfl);rw[HOL.o];kernel_rfl)|((with_reducible refine zf 41 _ _ rfl rfl ?_ (w.heap.size+1) (zT3) (co) HRY.o ?_ ?_ ?_ ?_ ?_ ?_);(exact wA rfl);rw[HOL.o];rfl;rfl;rfl;rw[HOL.o];kernel_rfl;exact HOO.o;intro Z hz hb;have HZZ:=I hz;have HBZ:=I hb;clear hz hb))
  (try simp only[Exit.inBlock,Exit.then])
  refine bodyPost_ret (zK rfl _ _ (w.heap.size+1) co HOL.o rfl HZZ.o) rfl ?_
  refine .inl ⟨_,co,HF.o,rfl,HOK.o.to (fun b h1 h2=>⟨h1.1.imp id fun h=>Nat.le_trans HBL.o.size h,?_⟩) (Nat.le_trans HBY.o.size HBZ.o.size),(HBW.o.trans (HBY.o.mono HBW.o.size)).trans (HBZ.o.below (Nat.le_trans HBW.o.size HBY.o.size) (by omega) (by omega))⟩
  have hrl:=HRL.o
  have hne:b≠w.heap.size+1:=fun e=>by
   rcases h1.1 with h|h
   ·have:=HP.o b h;omega
   ·omega
  exact(HBZ.o.block b (Nat.lt_of_lt_of_le h2 HBY.o.size) hne hne).trans (HBY.o.block b h2)
theorem JPost.yes {p:Nat->Prop} {r:Option TT} {t:TT} (hr:r= some t) {w:World} {e:Ending} {w':World} (h:JPost p r w e w'):∃ cs,e= .returned (.agg ⟨cs⟩)/\KeptT (fun b=>p b\/w.heap.size<=b) w' cs t/\Below w.heap.size w w':=by
 rcases h with ⟨t',cs,h1,h2,h3,h4⟩|⟨h1,_⟩
 ·rw[hr] at h1;injection h1 with h1;subst h1;exact⟨cs,h2,h3,h4⟩
 ·rw[hr] at h1;cases h1
theorem JPost.no {p:Nat->Prop} {r:Option TT} (hr:r= none) {w:World} {e:Ending} {w':World} (h:JPost p r w e w'):e= panE 6/\Below w.heap.size w w':=by
 rcases h with ⟨t',cs,h1,h2,h3,h4⟩|⟨h1,h2⟩
 ·rw[hr] at h1;cases h1
 ·exact h2
theorem z99 (k:Int):(biW k).length<=10000:=by
 unfold biW
 repeat' split
 all_goals decide
theorem z8y (p:Nat->Prop) (k:Int) (ta tb:TT) (ca cb:List Value) (w:World) (hk:5<=k/\k<=14) (ha:KeptT p w ca ta) (hb:KeptT p w cb tb) (hp:∀ b,p b->b < w.heap.size) (hja:jok ta= true) (hjb:jok tb= true) (hsa:stT ta= true) (hsb:stT tb= true) (hla:lf ta) (hlb:lf tb):
  Calls Tryz.prog 152 #[.int .i64 k,.agg ⟨ca⟩,.agg ⟨cb⟩] w (TQ p (pairT k ta tb) w):=by
 have HNO:=I (fun hj=>ze9 hla hlb hj hk)
 have HYES:=I (fun t hj h10=>zem (t:=t) hla hlb hj hk h10)
 have H10:Hid (k= 10->pairT k ta tb= if(joinT ta tb).isSome= true then .ok (pT 1) else .error 6):=I (fun h=>by subst h;rfl)
 have HJ0:=I (fun W (hb1:Below w.heap.size w W)=>z2I ta tb hja hjb hsa hsb p ca cb W (fun b h=>Nat.lt_of_lt_of_le (hp b h) hb1.size) (ha.next hb1) (hb.next hb1))
 cases ta with
 |mk ka na ia=>
 cases tb with
 |mk kb nb ib=>
 have HP:=I hp
 obtain⟨NA,nc,A,c,rfl,_⟩:=ha.inv
 obtain⟨NB,nd,B,d,rfl,_⟩:=hb.inv
 generalize pairT k (.mk ka na ia) (.mk kb nb ib)= res at HNO HYES H10 ⊢
 clear ha hb hp hja hjb hsa hsb hla hlb
 go_enter Tryz.func152,Tryz.ntmps152
 go_upto_region 1 with (fail)
 have hz3:(#[Value.int IntKind.i64 0,Value.slice none 0 0,Value.slice none 0 0]:Array Value)= zT3.toArray:=rfl
 rw[hz3]
 clear hz3
 have g0:=zd w (.cells ⟨[.int .i64 ka,.slice NA na.length nc,.slice A ia.length c]⟩ 41)
 have h0:=Whole.new w ([.int .i64 ka,.slice NA na.length nc,.slice A ia.length c]:List Value) 41
 have s0:(w.alloc (.cells ⟨[.int .i64 ka,.slice NA na.length nc,.slice A ia.length c]⟩ 41)).heap.size= w.heap.size+1:=by simp
 generalize w.alloc (.cells ⟨[.int .i64 ka,.slice NA na.length nc,.slice A ia.length c]⟩ 41)= W0 at*
 have g1:=zd W0 (.cells ⟨[.int .i64 kb,.slice NB nb.length nd,.slice B ib.length d]⟩ 41)
 have h1:=Whole.new W0 ([.int .i64 kb,.slice NB nb.length nd,.slice B ib.length d]:List Value) 41
 have s1:(W0.alloc (.cells ⟨[.int .i64 kb,.slice NB nb.length nd,.slice B ib.length d]⟩ 41)).heap.size= w.heap.size+1+1:=by simp[s0]
 generalize W0.alloc (.cells ⟨[.int .i64 kb,.slice NB nb.length nd,.slice B ib.length d]⟩ 41)= W1 at*
 have g2:=zd W1 (.cells zT3.toArray 41)
 have h2:=Whole.new W1 (zT3:List Value) 41
 have s2:(W1.alloc (.cells zT3.toArray 41)).heap.size= w.heap.size+1+1+1:=by simp[s1]
 generalize W1.alloc (.cells zT3.toArray 41)= W2 at*
 rw[s0] at h1
 rw[s1] at h2
 (try simp only[s0,s1])
 have hg1:=g0.trans (g1.mono g0.size)
 have HXA:=I ((h0.keep (g1.block _ (by omega))).keep (g2.block _ (by omega)))
 have HXB:=I (h1.keep (g2.block _ (by omega)))
 have HRW:=I h2
 have HBL:=I (hg1.trans (g2.mono hg1.size))
 clear g0 g1 g2 h0 h1 h2 s0 s1 s2 hg1
 obtain⟨W,hW⟩:∃ z,z= W2:=⟨_,rfl⟩
 subst hW
 have HJ:=I (HJ0.o W HBL.o)
 have HL3:Hid (([.int .i64 ka,.slice NA na.length nc,.slice A ia.length c]:List Value).length= 3):=I rfl
 have HL3b:Hid (([.int .i64 kb,.slice NB nb.length nd,.slice B ib.length d]:List Value).length= 3):=I rfl
 have HRL:Hid (w.heap.size+1+1 < W.heap.size):=I HRW.o.lt
 clear HJ0
 cases hj:joinT (.mk ka na ia) (.mk kb nb ib) with
 |none=>
  obtain⟨m,hm⟩:=HNO.o hj
  have HF:=I hm
  clear hm
  go_wp2_with (first|((with_reducible refine za 41 _ rfl ?_ (w.heap.size) (0) ([.int .i64 ka,.slice NA na.length nc,.slice A ia.length c]) _ rfl HXA.o.range Tryz.underlying41 rfl ?_ ?_);(exact wA rfl);rw[HL3.o];kernel_rfl)|((with_reducible refine za 41 _ rfl ?_ (w.heap.size+1) (0) ([.int .i64 kb,.slice NB nb.length nd,.slice B ib.length d]) _ rfl HXB.o.range Tryz.underlying41 rfl ?_ ?_);(exact wA rfl);rw[HL3b.o];kernel_rfl)|(go_at_call 112;refine HJ.o.mono ?_;rintro e z he;obtain⟨rfl,hb⟩:=he.no hj;have HBJ:=I hb;clear hb he))
  exact⟨rfl,.inr ⟨m,6,HF.o,by decide,rfl,HBL.o.trans (HBJ.o.mono HBL.o.size)⟩⟩
 |some t=>
 have HY1:=I (HYES.o t hj)
 by_cases h10:k= 10
 ·subst h10
  have HF:Hid (res= .ok (pT 1)):=I (by rw[H10.o rfl,hj];rfl)
  go_wp2_with (first|((with_reducible refine za 41 _ rfl ?_ (w.heap.size) (0) ([.int .i64 ka,.slice NA na.length nc,.slice A ia.length c]) _ rfl HXA.o.range Tryz.underlying41 rfl ?_ ?_);(exact wA rfl);rw[HL3.o];kernel_rfl)|((with_reducible refine za 41 _ rfl ?_ (w.heap.size+1) (0) ([.int .i64 kb,.slice NB nb.length nd,.slice B ib.length d]) _ rfl HXB.o.range Tryz.underlying41 rfl ?_ ?_);(exact wA rfl);rw[HL3b.o];kernel_rfl)|(go_at_call 112;refine HJ.o.mono ?_;rintro e z he;obtain⟨co,rfl,hk,hb⟩:=he.yes hj;have HBJ:=I hb;have HKJ:=I hk;have HCL:=I (zk hk.typ).1;have HCO:=I (zk hk.typ).2;clear hk hb he)|((with_reducible refine zJ 41 _ _ rfl ?hwx13 z ?zz13 (co) ?hwld13 ?hz13 ?hx13 ?hy13 ?hi13 ?h113 ?_);(case hwld13=>rfl);(case hx13=>rfl);(case hy13=>rfl);(case hwx13=>(exact wA rfl));(case hz13=>rw[HCL.o];rfl);(case hi13=>rw[HCL.o];kernel_rfl);(case h113=>exact HCO.o);intro Z1 hZ;have HX1:=I hZ;clear hZ)|(go_at_call 146;refine(z1d 1 (zx 1 (by decide +kernel)) _).mono ?_;rintro e z1 ⟨rfl,hb⟩;have HBZ1:=I (HBJ.o.trans ((HX1.o.below.trans (hb.mono HX1.o.below.size)).mono HBJ.o.size));have HRQ:=I (HRW.o.keep (HBZ1.o.block _ HRW.o.lt));clear hb)|((with_reducible refine zf 41 _ _ rfl rfl ?_ (w.heap.size+1+1) (zT3) (tyC 1 (.slice none 0 0) (.slice none 0 0)) HRQ.o ?_ ?_ ?_ ?_ ?_ ?_);(exact wA rfl);rfl;rfl;rfl;kernel_rfl;exact(zI _ _ _ _ _ _ _);intro Z hz hb;have HZZ:=I hz;have HBZ:=I hb;clear hz hb))
  (try simp only[Exit.inBlock,Exit.then])
  refine bodyPost_ret (zK rfl _ _ (w.heap.size+1+1) (tyC 1 (.slice none 0 0) (.slice none 0 0)) rfl rfl HZZ.o) rfl ?_
  exact .inl ⟨_,_,HF.o,rfl,z0y (zx 1 (by decide +kernel)),(HBL.o.trans (HBZ1.o.mono HBL.o.size)).trans (HBZ.o.below (Nat.le_trans HBL.o.size HBZ1.o.size) (by omega) (by omega))⟩
 have e10:(k ==10)= false:=by rw[beq_eq_false_iff_ne];exact h10
 have HRES:=I (HY1.o h10)
 go_upto_block 0 with (first|((with_reducible refine za 41 _ rfl ?_ (w.heap.size) (0) ([.int .i64 ka,.slice NA na.length nc,.slice A ia.length c]) _ rfl HXA.o.range Tryz.underlying41 rfl ?_ ?_);(exact wA rfl);rw[HL3.o];kernel_rfl)|((with_reducible refine za 41 _ rfl ?_ (w.heap.size+1) (0) ([.int .i64 kb,.slice NB nb.length nd,.slice B ib.length d]) _ rfl HXB.o.range Tryz.underlying41 rfl ?_ ?_);(exact wA rfl);rw[HL3b.o];kernel_rfl)|(go_at_call 112;refine HJ.o.mono ?_;rintro e z he;obtain⟨co,rfl,hk,hb⟩:=he.yes hj;have HBJ:=I hb;have HKJ:=I hk;have HCL:=I (zk hk.typ).1;have HCO:=I (zk hk.typ).2;clear hk hb he)|((with_reducible refine zJ 41 _ _ rfl ?hwx15 z ?zz15 (co) ?hwld15 ?hz15 ?hx15 ?hy15 ?hi15 ?h115 ?_);(case hwld15=>rfl);(case hx15=>rfl);(case hy15=>rfl);(case hwx15=>(exact wA rfl));(case hz15=>rw[HCL.o];rfl);(case hi15=>rw[HCL.o];kernel_rfl);(case h115=>exact HCO.o);intro Z1 hZ;have HX1:=I hZ;clear hZ))
 have HBU:Hid (Below W.heap.size W Z1):=I (HBJ.o.trans (HX1.o.below.mono HBJ.o.size))
 have HRX:=I HX1.o.range
 have HQL:=I HX1.o.size
 obtain⟨q,hq⟩:∃ q,z.heap.size= q:=⟨_,rfl⟩
 have HQG:Hid (W.heap.size<=q):=I (hq▸HBJ.o.size)
 have HKU:Hid (KeptT (fun b=>(p b\/W.heap.size<=b)/\b≠q) Z1 co t):=I (HKJ.o.to (fun b h1 h2=>⟨⟨h1,by omega⟩,HX1.o.below.block b h2⟩) HX1.o.below.size)
 rw[hq] at HRX HQL
 rw[hq]
 clear hq hj HX1 HKJ HBJ
 go_cut [8] (fun v8 z=>IntsAt z z.heap.size v8 (biW k)/\Below Z1.heap.size Z1 z)
 case first=>
  have hk2:k= 5\/k= 6\/k= 7\/k= 8\/k= 9\/k= 11\/k= 12\/k= 13\/k= 14:=by omega
  clear hk h10 e10
  rcases hk2 with rfl|rfl|rfl|rfl|rfl|rfl|rfl|rfl|rfl
  ·go_wp2
   go_meet
   case rel=>exact⟨z03 (l:=[2,3,4,5]) (Whole.new Z1 [.int .i64 2,.int .i64 3,.int .i64 4,.int .i64 5] 3) (by decide),zd Z1 _⟩
  ·go_wp2
   go_meet
   case rel=>exact⟨z03 (l:=[2,3]) (Whole.new Z1 [.int .i64 2,.int .i64 3] 3) (by decide),zd Z1 _⟩
  ·go_wp2
   go_meet
   case rel=>exact⟨z03 (l:=[2,3]) (Whole.new Z1 [.int .i64 2,.int .i64 3] 3) (by decide),zd Z1 _⟩
  ·go_wp2
   go_meet
   case rel=>exact⟨z03 (l:=[2,3]) (Whole.new Z1 [.int .i64 2,.int .i64 3] 3) (by decide),zd Z1 _⟩
  ·go_wp2
   go_meet
   case rel=>exact⟨z03 (l:=[2]) (Whole.new Z1 [.int .i64 2] 3) (by decide),zd Z1 _⟩
  ·go_wp2
   go_meet
   case rel=>exact⟨z03 (l:=[2,3,4]) (Whole.new Z1 [.int .i64 2,.int .i64 3,.int .i64 4] 3) (by decide),zd Z1 _⟩
  ·go_wp2
   go_meet
   case rel=>exact⟨z03 (l:=[2,3,4]) (Whole.new Z1 [.int .i64 2,.int .i64 3,.int .i64 4] 3) (by decide),zd Z1 _⟩
  ·go_wp2
   go_meet
   case rel=>exact⟨z03 (l:=[1]) (Whole.new Z1 [.int .i64 1] 3) (by decide),zd Z1 _⟩
  ·go_wp2
   go_meet
   case rel=>exact⟨z03 (l:=[1]) (Whole.new Z1 [.int .i64 1] 3) (by decide),zd Z1 _⟩
 case rest=>
 obtain⟨hin,hbz⟩:=hcut
 obtain⟨V,hV⟩:∃ z,z= wc:=⟨_,rfl⟩
 subst hV
 have HBV:Hid (Below W.heap.size W V):=I (HBU.o.trans (hbz.mono HBU.o.size))
 have HBW:Hid (Below w.heap.size w V):=I (HBL.o.trans (HBV.o.mono HBL.o.size))
 have HTO:=I (show Calls Tryz.prog 149 #[.agg ⟨[.int .i64 ka,.slice NA na.length nc,.slice A ia.length c]⟩,_] V _ from z3l ka (.slice NA na.length nc) (.slice A ia.length c) _ (biW k) V rfl rfl hin (z99 k))
 have HTO2:=I (fun y (hy:Below V.heap.size V y)=>show Calls Tryz.prog 149 #[.agg ⟨[.int .i64 kb,.slice NB nb.length nd,.slice B ib.length d]⟩,_] y _ from z3l kb (.slice NB nb.length nd) (.slice B ib.length d) _ (biW k) y rfl rfl ((hin.below hy).more hy.size) (z99 k))
 have HXV:=I (HXA.o.keep (HBV.o.block _ HXA.o.lt)).range
 have HXBV:=I (fun y (hy:Below V.heap.size V y)=>(HXB.o.keep ((hy.block _ (Nat.lt_of_lt_of_le HXB.o.lt HBV.o.size)).trans (HBV.o.block _ HXB.o.lt))).range)
 have HWV:=I (zc HRX.o hbz HQL.o)
 have HZS:=I hbz.size
 have HRV:=I (HRW.o.keep (HBV.o.block _ HRW.o.lt))
 have HKV:Hid (KeptT (fun b=>(p b\/W.heap.size<=b)/\b≠q) V co t):=I (HKU.o.to (fun b h1 h2=>⟨h1,hbz.block b h2⟩) hbz.size)
 clear hin hbz
 obtain⟨b1,hb1⟩:∃ b,(biW k).contains ka= b:=⟨_,rfl⟩
 obtain⟨b2,hb2⟩:∃ b,(biW k).contains kb= b:=⟨_,rfl⟩
 have HRES2:Hid (res= if(b1 && b2)= true then .ok (if k= 11\/k= 12 then pT 1 else t) else .error 6):=I (by rw[← hb1,← hb2];exact HRES.o)
 rw[hb1] at HTO
 rw[hb2] at HTO2
 clear hb1 hb2 HRES
 cases b1 with
 |false=>
  go_wp2_with (first|((with_reducible refine za 41 _ rfl ?_ (w.heap.size) (0) ([.int .i64 ka,.slice NA na.length nc,.slice A ia.length c]) _ rfl HXV.o Tryz.underlying41 rfl ?_ ?_);(exact wA rfl);rw[HL3.o];kernel_rfl)|(go_at_call 149;first|((with_reducible refine HTO.o.mono ?_);rintro e y ⟨rfl,hb⟩;have HBY:=I hb;have HXY:=I (HXBV.o y hb);have HT2:=I (HTO2.o y hb);clear hb)|((with_reducible refine HT2.o.mono ?_);rintro e x ⟨rfl,hb⟩;have HBX:=I hb;clear hb))|(go_at_call 109;refine(z02 6 _).mono ?_;rintro e z5 ⟨rfl,hzw⟩;rw[hzw];clear hzw z5))
  exact⟨rfl,.inr ⟨6,6,HRES2.o,by decide,rfl,HBW.o.trans (HBY.o.mono HBW.o.size)⟩⟩
 |true=>
 cases b2 with
 |false=>
  go_wp2_with (first|((with_reducible refine za 41 _ rfl ?_ (w.heap.size) (0) ([.int .i64 ka,.slice NA na.length nc,.slice A ia.length c]) _ rfl HXV.o Tryz.underlying41 rfl ?_ ?_);(exact wA rfl);rw[HL3.o];kernel_rfl)|(go_at_call 149;first|((with_reducible refine HTO.o.mono ?_);rintro e y ⟨rfl,hb⟩;have HBY:=I hb;have HXY:=I (HXBV.o y hb);have HT2:=I (HTO2.o y hb);clear hb)|((with_reducible refine HT2.o.mono ?_);rintro e x ⟨rfl,hb⟩;have HBX:=I hb;clear hb))|((with_reducible refine za 41 _ rfl ?_ (w.heap.size+1) (0) ([.int .i64 kb,.slice NB nb.length nd,.slice B ib.length d]) _ rfl HXY.o Tryz.underlying41 rfl ?_ ?_);(exact wA rfl);rw[HL3b.o];kernel_rfl)|(go_at_call 109;refine(z02 6 _).mono ?_;rintro e z5 ⟨rfl,hzw⟩;rw[hzw];clear hzw z5))
  exact⟨rfl,.inr ⟨6,6,HRES2.o,by decide,rfl,HBW.o.trans ((HBY.o.trans (HBX.o.mono HBY.o.size)).mono HBW.o.size)⟩⟩
 |true=>
 go_upto_region 19 with (first|((with_reducible refine za 41 _ rfl ?_ (w.heap.size) (0) ([.int .i64 ka,.slice NA na.length nc,.slice A ia.length c]) _ rfl HXV.o Tryz.underlying41 rfl ?_ ?_);(exact wA rfl);rw[HL3.o];kernel_rfl)|(go_at_call 149;first|((with_reducible refine HTO.o.mono ?_);rintro e y ⟨rfl,hb⟩;have HBY:=I hb;have HXY:=I (HXBV.o y hb);have HT2:=I (HTO2.o y hb);clear hb)|((with_reducible refine HT2.o.mono ?_);rintro e x ⟨rfl,hb⟩;have HBX:=I hb;clear hb))|((with_reducible refine za 41 _ rfl ?_ (w.heap.size+1) (0) ([.int .i64 kb,.slice NB nb.length nd,.slice B ib.length d]) _ rfl HXY.o Tryz.underlying41 rfl ?_ ?_);(exact wA rfl);rw[HL3b.o];kernel_rfl)|(go_at_call 109;refine(z0k 6 _).mono ?_;rintro e z5 ⟨rfl,hzw⟩;rw[hzw];clear hzw z5))
 have HBX2:Hid (Below V.heap.size V x):=I (HBY.o.trans (HBX.o.mono HBY.o.size))
 have HBWX:Hid (Below w.heap.size w x):=I (HBW.o.trans (HBX2.o.mono HBW.o.size))
 have HWX:=I (zc HWV.o HBX2.o (Nat.lt_of_lt_of_le HQL.o HZS.o))
 have HRX2:=I (HRV.o.keep (HBX2.o.block _ HRV.o.lt))
 by_cases h11:k= 11\/k= 12
 ·have HF:Hid (res= .ok (pT 1)):=I (by rw[HRES2.o,Bool.and_self,if_pos (rfl:true= true),if_pos h11])
  have key:∀ x:Bool,True:=fun _=>trivial
  rcases h11 with rfl|rfl
  ·go_wp2_with (first|(go_at_call 146;refine(z1d 1 (zx 1 (by decide +kernel)) _).mono ?_;rintro e z1 ⟨rfl,hb⟩;have HBZ1:=I hb;have HRQ:=I (HRX2.o.keep (hb.block _ HRX2.o.lt));clear hb)|((with_reducible refine zf 41 _ _ rfl rfl ?_ (w.heap.size+1+1) (zT3) (tyC 1 (.slice none 0 0) (.slice none 0 0)) HRQ.o ?_ ?_ ?_ ?_ ?_ ?_);(exact wA rfl);rfl;rfl;rfl;kernel_rfl;exact(zI _ _ _ _ _ _ _);intro Z hz hb;have HZZ:=I hz;have HBZ:=I hb;clear hz hb))
   (try simp only[Exit.inBlock,Exit.then])
   refine bodyPost_ret (zK rfl _ _ (w.heap.size+1+1) (tyC 1 (.slice none 0 0) (.slice none 0 0)) rfl rfl HZZ.o) rfl ?_
   exact .inl ⟨_,_,HF.o,rfl,z0y (zx 1 (by decide +kernel)),(HBWX.o.trans (HBZ1.o.mono HBWX.o.size)).trans (HBZ.o.below (Nat.le_trans HBWX.o.size HBZ1.o.size) (by omega) (by omega))⟩
  ·go_wp2_with (first|(go_at_call 146;refine(z1d 1 (zx 1 (by decide +kernel)) _).mono ?_;rintro e z1 ⟨rfl,hb⟩;have HBZ1:=I hb;have HRQ:=I (HRX2.o.keep (hb.block _ HRX2.o.lt));clear hb)|((with_reducible refine zf 41 _ _ rfl rfl ?_ (w.heap.size+1+1) (zT3) (tyC 1 (.slice none 0 0) (.slice none 0 0)) HRQ.o ?_ ?_ ?_ ?_ ?_ ?_);(exact wA rfl);rfl;rfl;rfl;kernel_rfl;exact(zI _ _ _ _ _ _ _);intro Z hz hb;have HZZ:=I hz;have HBZ:=I hb;clear hz hb))
   (try simp only[Exit.inBlock,Exit.then])
   refine bodyPost_ret (zK rfl _ _ (w.heap.size+1+1) (tyC 1 (.slice none 0 0) (.slice none 0 0)) rfl rfl HZZ.o) rfl ?_
   exact .inl ⟨_,_,HF.o,rfl,z0y (zx 1 (by decide +kernel)),(HBWX.o.trans (HBZ1.o.mono HBWX.o.size)).trans (HBZ.o.below (Nat.le_trans HBWX.o.size HBZ1.o.size) (by omega) (by omega))⟩
 ·have HF:Hid (res= .ok t):=I (by rw[HRES2.o,Bool.and_self,if_pos (rfl:true= true),if_neg h11])
  have e11:(k ==11)= false:=by rw[beq_eq_false_iff_ne];exact fun h=>h11 (.inl h)
  have e12:(k ==12)= false:=by rw[beq_eq_false_iff_ne];exact fun h=>h11 (.inr h)
  go_wp2_with (first|((with_reducible refine za 41 _ rfl ?_ (q) (0) (co) _ rfl HWX.o Tryz.underlying41 rfl ?_ ?_);(exact wA rfl);rw[HCL.o];kernel_rfl)|((with_reducible refine zf 41 _ _ rfl rfl ?_ (w.heap.size+1+1) (zT3) (co) HRX2.o ?_ ?_ ?_ ?_ ?_ ?_);(exact wA rfl);rw[HCL.o];rfl;rfl;rfl;rw[HCL.o];kernel_rfl;exact HCO.o;intro Z hz hb;have HZZ:=I hz;have HBZ:=I hb;clear hz hb))
  (try simp only[Exit.inBlock,Exit.then])
  refine bodyPost_ret (zK rfl _ _ (w.heap.size+1+1) co HCL.o rfl HZZ.o) rfl ?_
  refine .inl ⟨_,co,HF.o,rfl,HKV.o.to (fun b h1 h2=>⟨h1.1.imp id fun h=>Nat.le_trans HBL.o.size h,?_⟩) (Nat.le_trans HBX2.o.size HBZ.o.size),HBWX.o.trans (HBZ.o.below HBWX.o.size (by omega) (by omega))⟩
  have hrl:=HRL.o
  have hne:b≠w.heap.size+1+1:=fun e=>by
   rcases h1.1 with h|h
   ·have:=HP.o b h;omega
   ·omega
  exact(HBZ.o.block b (Nat.lt_of_lt_of_le h2 HBX2.o.size) hne hne).trans (HBX2.o.block b h2)
end
section
open Go Go.RowKit
theorem KeptT.form {p:Nat->Prop} {w:World} {cs:List Value} {t:TT} {k:Int} (h:KeptT p w cs t) (hk:kT t= k):∃ X Y,cs=[.int .i64 k,X,Y]/\X.oneCell'= true/\Y.oneCell'= true:=by
 cases t with
 |mk k' ns its=>
  obtain⟨NA,nc,A,c,rfl,_⟩:=h.inv
  have hk:k'= k:=hk
  subst hk
  exact⟨_,_,rfl,rfl,rfl⟩
theorem tone1 (k m:Int) (x y:Value) (w:World) (hx:x.oneCell'= true) (hy:y.oneCell'= true):
  Calls Tryz.prog 149 #[.agg ⟨[.int .i64 k,x,y]⟩,.slice (some ⟨w.heap.size,0,none⟩) 1 1] (w.alloc (.cells ⟨[.int .i64 m]⟩ 3)) fun e w'=>e= .returned (.bool (k ==m))/\Below w.heap.size w w':=
 (z3l k x y _ [m] _ hx hy (z03 (l:=[m]) (Whole.new w [.int .i64 m] 3) (by simp)) (by simp)).mono fun e w' ⟨he,hb⟩=>by
  refine⟨?_,(zd w _).trans (hb.mono (zd w _).size)⟩
  rw[he]
  congr 2
  simp
  by_cases h:k= m<;>simp[h]
theorem TQ.ok {p:Nat->Prop} {r:Except Int TT} {t:TT} {w:World} {cs:List Value} {w':World} (hr:r= .ok t) (hk:KeptT (fun b=>p b\/w.heap.size<=b) w' cs t) (hb:Below w.heap.size w w'):TQ p r w (.returned (.agg ⟨cs⟩)) w':= .inl ⟨t,cs,hr,rfl,hk,hb⟩
theorem TQ.no {p:Nat->Prop} {r:Except Int TT} {m n:Int} {w:World} {w':World} (hr:r= .error m) (hn:n≠0) (hb:Below w.heap.size w w'):TQ p r w (panE n) w':= .inr ⟨m,n,hr,hn,rfl,hb⟩
theorem zcb (nm s:ByteArray) (lb:Int) (a b c d e f g i j:Value) (pb xb xo:Nat) (w:World) (hp:w.cell? ⟨pb,0,none⟩= some (.pointer (some ⟨xb,xo,none⟩))) (hs:w.cell? ⟨xb,xo+1,none⟩= some (.string s)) (hlp:pb < w.heap.size) (hlx:xb < w.heap.size):
  Calls Tryz.prog 148 #[.agg #[.string nm,.int .i64 lb,a,b,c,d,e,f,g,i,j],.pointer (some ⟨pb,0,none⟩)] w fun r w'=>r= .returned (.bool (nm.toList ==s.toList))/\Below w.heap.size w w':=by
 have HB:=I (zd w (.cells #[.string nm,.int .i64 lb,a,b,c,d,e,f,g,i,j] 62))
 have HP:=I hp
 have HS:=I hs
 have HL:=I hlp
 have HLX:=I hlx
 have d0:=zB w #[.string nm,.int .i64 lb,a,b,c,d,e,f,g,i,j] 62 0
 simp only[List.getElem?_toArray,List.getElem?_cons_zero] at d0
 clear hp hlp hs hlx
 go_enter Tryz.func148,Tryz.ntmps148
 go_upto_region 1 with (fail)
 have d2:=(HB.o.cell (p:=⟨pb,0,none⟩) HL.o).trans HP.o
 have d3:=(HB.o.cell (p:=⟨xb,xo+1,none⟩) HLX.o).trans HS.o
 generalize w.alloc (.cells #[.string nm,.int .i64 lb,a,b,c,d,e,f,g,i,j] 62)= W at*
 go_quiet (fail)
 go_wp2
 go_ret
 exact⟨rfl,zj HB.o _⟩
theorem z9N (E:List VarT) (s:ByteArray) (v:Value) (pb xb xo:Nat) (w:World) (hv:SlAt w w.heap.size 11 (VarAt w w.heap.size) v E) (hE:E.length<=10000) (hp:w.cell? ⟨pb,0,none⟩= some (.pointer (some ⟨xb,xo,none⟩))) (hs:w.cell? ⟨xb,xo+1,none⟩= some (.string s)) (hlp:pb < w.heap.size) (hlx:xb < w.heap.size):
  Calls Tryz.prog 147 #[v,.func (.func 148) #[] #[.pointer (some ⟨pb,0,none⟩)]] w fun e w'=>e= .returned (.int .i64 (findV E s))/\Below w.heap.size w w':=by
 obtain⟨hel,EA,ec,rfl,hea⟩:=hv
 have HEB:=I hea
 have HO1:=I (fun nm lb a b c d e f g i j u (hu:Below w.heap.size w u)=>zcb nm s lb a b c d e f g i j pb xb xo u ((hu.cell (p:=⟨pb,0,none⟩) hlp).trans hp) ((hu.cell (p:=⟨xb,xo+1,none⟩) hlx).trans hs) (Nat.lt_of_lt_of_le hlp hu.size) (Nat.lt_of_lt_of_le hlx hu.size))
 clear hp hlp hs hlx
 have hle2:(E.length:Int)<=10000:=by omega
 clear hea hel
 go_enter Tryz.func147,Tryz.ntmps147
 go_wp2
 go_loopg [8] E.length (fun q x u=>∃ j:Nat,j+q= E.length/\x= .int .i64 j/\Below w.heap.size w u/\∀ k,k < j->∀ e,E[k]?= some e->z23 s e= false)
 case atStart=>exact⟨0,by omega,rfl,Below.refl _ _,fun k hk=>absurd hk (Nat.not_lt_zero k)⟩
 case round=>
  obtain⟨jj,hj,rfl,hb,hno⟩:=hrel
  have HBK:=I hb
  have HNO:=I hno
  clear hb hno
  cases gk with
  |zero=>
   obtain rfl:jj= E.length:=by omega
   have hge: ¬ ((E.length:Int) <(E.length:Int)):=by omega
   have HR:Hid (findV E s= -1):=I (z4T fun k e he=>HNO.o k (List.getElem?_eq_some_iff.1 he).1 e he)
   go_wp2
   go_ret
   exact⟨by rw[HR.o];try rfl,HBK.o⟩
  |succ q=>
   have hlt2:(jj:Int) <(E.length:Int):=by omega
   obtain⟨x,he⟩:∃ e,E[jj]?= some e:=⟨_,List.getElem?_eq_getElem (by omega)⟩
   obtain⟨bb,o,rfl,hbl,hc⟩:=HEB.o (by omega)
   obtain⟨ks,hkl,hks,hva⟩:=hc jj x he
   obtain⟨a,b,c,d,e,f,g,i,j,rfl⟩:=z7R hva
   have HRE:=I (zc hks HBK.o hbl)
   have HE:=I he
   have HC1:=I (HO1.o x.name x.label a b c d e f g i j wr HBK.o)
   clear hc he hks hva hkl
   cases ho:(x.name.toList ==s.toList) with
   |true=>
    have HR:Hid (findV E s= jj):=I (z3C jj x HE.o ho fun k hk e' he'=>HNO.o k hk e' he')
    rw[ho] at HC1
    clear ho
    go_wp2_with (first|((with_reducible refine za 62 _ rfl ?_ bb (o+jj*11) [.string x.name,.int .i64 x.label,a,b,c,d,e,f,g,i,j] _ rfl HRE.o Tryz.underlying62 rfl ?_ ?_);exact wA rfl;kernel_rfl)|(go_at_call 148;refine HC1.o.mono ?_;rintro e' w4 ⟨rfl,hb4⟩;have HB4:=I hb4;clear hb4))
    go_ret
    exact⟨by rw[HR.o];try rfl,HBK.o.trans (HB4.o.mono HBK.o.size)⟩
   |false=>
    have HNX:Hid (∀ k,k < jj+1->∀ e,E[k]?= some e->z23 s e= false):=I fun k hk e' he'=>by
     by_cases ek:k= jj
     ·subst ek
      have:=HE.o
      rw[he'] at this
      injection this with this
      rw[this];exact ho
     ·exact HNO.o k (by omega) e' he'
    rw[ho] at HC1
    clear ho
    go_wp2_with (first|((with_reducible refine za 62 _ rfl ?_ bb (o+jj*11) [.string x.name,.int .i64 x.label,a,b,c,d,e,f,g,i,j] _ rfl HRE.o Tryz.underlying62 rfl ?_ ?_);exact wA rfl;kernel_rfl)|(go_at_call 148;refine HC1.o.mono ?_;rintro e' w4 ⟨rfl,hb4⟩;have HB4:=I hb4;clear hb4))
    go_roundg q
    case measure=>omega
    case rel=>exact⟨jj+1,by omega,by go_num,HBK.o.trans (HB4.o.mono HBK.o.size),HNX.o⟩
theorem zbP {p:Nat->Prop} {w:World} {ce:List Value} {vr va:Value} {E:List VarT} {s:ByteArray} {v:VT} {ns:List ByteArray} {k:Int} {l:List TT} {cb b o:Nat} (h:OwnArgs p w ce vr va E k s v ns l) (hr:w.rangeAt b o ce) (hb:b < w.heap.size) (hc:w.cell? ⟨cb,0,none⟩= some va) (hcl:cb < w.heap.size) (hk:kidsB (z0M k) l.length= true) (hst:∀ t∈l,stT t= true) (hnm:k= 17->ns.length<=1000):
  Calls Tryz.prog 131 #[.pointer (some ⟨cb,0,none⟩),.pointer (some ⟨b,o,none⟩),vr] w (TQ p (ownT E k s v ns l) w):=by
 obtain⟨-,VA,vc,rfl, -⟩:=id h.vars
 have HC:=I h.cells
 have HAR:=I h
 have HST:=I hst
 have HNM:=I hnm
 have HLB:=I hb
 have HCE:Hid (∀ z,Below w.heap.size w z->∀ j v,ce[j]?= some v->z.cell? ⟨b,o+j,none⟩= some v):=I fun z hz j v hv=>(hz.cell (p:=⟨b,o+j,none⟩) hb).trans (hr j v hv)
 have HVC:Hid (∀ z,Below w.heap.size w z->z.cell? ⟨cb,0,none⟩= some (.slice VA E.length vc)):=I fun z hz=>(hz.cell (p:=⟨cb,0,none⟩) hcl).trans hc
 have hkk:=zdp hk
 clear h hk hst hnm hr hb hc hcl
 go_enter Tryz.func131,Tryz.ntmps131
 go_upto_region 1 with (fail)
 have hz3:(#[Value.int IntKind.i64 0,Value.slice none 0 0,Value.slice none 0 0]:Array Value)= zT3.toArray:=rfl
 rw[hz3]
 clear hz3
 have g1:=zd w (.cells #[.pointer (some ⟨b,o,none⟩)] 117)
 have h1:=Whole.new w [.pointer (some ⟨b,o,none⟩)] 117
 have s1:(w.alloc (.cells #[.pointer (some ⟨b,o,none⟩)] 117)).heap.size= w.heap.size+1:=by simp
 generalize w.alloc (.cells #[.pointer (some ⟨b,o,none⟩)] 117)= W1 at*
 have g2:=zd W1 (.cells zT3.toArray 41)
 have h2:=Whole.new W1 zT3 41
 generalize W1.alloc (.cells zT3.toArray 41)= W at*
 rw[s1] at h2
 (try rw[s1])
 have HXB:=I (h1.keep (g2.block _ (by omega)))
 have HRW:=I h2
 have HBL:=I (g1.trans (g2.mono g1.size))
 have HRL:Hid (w.heap.size+1 < W.heap.size):=I h2.lt
 have HPT:Hid (∀ z,Below W.heap.size W z->z.cell? ⟨w.heap.size,0,none⟩= some (.pointer (some ⟨b,o,none⟩))):=I fun z hz=>(hz.cell (p:=⟨w.heap.size,0,none⟩) HXB.o.lt).trans (HXB.o.range 0 _ rfl)
 have HCW:Hid (∀ z,Below W.heap.size W z->Below w.heap.size w z):=I fun z hz=>HBL.o.trans (hz.mono HBL.o.size)
 have HRK:Hid (∀ z,Below W.heap.size W z->Whole 41 z (w.heap.size+1) zT3):=I fun z hz=>HRW.o.keep (hz.block _ HRW.o.lt)
 have hWW:Below W.heap.size W W:=Below.refl _ _
 have HWW:=I hWW
 clear g1 g2 h1 h2 s1 hWW
 have e0:W.cell? ⟨w.heap.size,0,none⟩= some (.pointer (some ⟨b,o,none⟩)):=HPT.o W HWW.o
 have e1:W.cell? ⟨b,o,none⟩= some (.int .i64 k):=HCE.o W HBL.o 0 _ HC.o.1
 rcases hkk with ⟨hk,_⟩|⟨hk,hn⟩|⟨hk,hn⟩|⟨rfl,hn⟩|hk
 ·rcases hk with rfl|rfl
  ·have hkv:=HC.o.2.2.2.1
   have e2:W.cell? ⟨b,o+2,none⟩= some (.int .i64 (kV v)):=HCE.o W HBL.o 2 _ HC.o.2.2.1
   have HF:Hid (ownT E 1 s v ns l= .ok (pT (kV v))):=I rfl
   go_wp2_with (first|(go_at_call 146;refine(z1d (kV v) hkv _).mono ?_;rintro e z ⟨rfl,hb⟩;have HRP:=I (HRK.o z hb);have HBP:=I (HCW.o z hb);clear hb)|((with_reducible refine zf 41 _ _ rfl rfl ?_ (w.heap.size+1) (zT3) (tyC (kV v) (.slice none 0 0) (.slice none 0 0)) HRP.o ?_ ?_ ?_ ?_ ?_ ?_);(exact wA rfl);rfl;rfl;rfl;kernel_rfl;exact(zI _ _ _ _ _ _ _);intro Z hz hb;have HZZ:=I hz;have HBZ:=I hb;clear hz hb))
   (try simp only[Exit.inBlock,Exit.then])
   refine bodyPost_ret (zK rfl _ _ (w.heap.size+1) (tyC (kV v) (.slice none 0 0) (.slice none 0 0)) rfl rfl HZZ.o) rfl ?_
   exact TQ.ok HF.o (z0y hkv) (HBP.o.trans (HBZ.o.below HBP.o.size (by omega) (by omega)))
  ·have v0:W.cell? ⟨cb,0,none⟩= some (.slice VA E.length vc):=HVC.o W HBL.o
   have HVU:=I (z41 HAR.o.vars HBL.o)
   have hmf:∀ (fn:Fn) (first cap:Array Value) (w:World),(Instr.makeFunc fn first cap).run Tryz.prog w= .ok (.func fn first cap) w:=fun _ _ _ _=>rfl
   have HFD0:=I (z9N E s (.slice VA E.length vc) w.heap.size b o W (zdr HVU.o) HAR.o.elen e0 (HCE.o W HBL.o 1 _ HC.o.2.1) HXB.o.lt (Nat.lt_of_lt_of_le HLB.o HBL.o.size))
   have hcs:=z6y E s
   obtain⟨ix,hix⟩:∃ ix,findV E s= ix:=⟨_,rfl⟩
   have HFD:Hid (Calls Tryz.prog 147 #[.slice VA E.length vc,.func (.func 148) #[] #[.pointer (some ⟨w.heap.size,0,none⟩)]] W fun e w'=>e= .returned (.int .i64 ix)/\Below W.heap.size W w'):=I (hix▸HFD0.o)
   clear HFD0
   have HIX:=I hix
   rw[hix] at hcs
   clear hix
   rcases hcs with rfl|⟨hi0,hi1⟩
   ·have HF:Hid (ownT E 2 s v ns l= .error 11):=I (by show(if findV E s= -1 then(Except.error 11:Except Int TT) else _)= _;rw[if_pos HIX.o])
    go_wp2_with (first|(go_at_call 147;refine(HFD.o).mono ?_;rintro e z ⟨rfl,hb⟩;have HBI:=I hb;have v0z:z.cell? ⟨cb,0,none⟩= some (.slice (VA) E.length vc):=HVC.o z (HCW.o z hb);clear hb)|(go_at_call 109;refine(z02 11 _).mono ?_;rintro e z9 ⟨rfl,hzw⟩;rw[hzw];clear hzw z9))
    exact⟨rfl,TQ.no HF.o (by decide) (HCW.o z HBI.o)⟩
   ·obtain⟨j,rfl⟩:∃ j:Nat,ix=(j:Int):=⟨ix.toNat,by omega⟩
    have hj:j < E.length:=by omega
    obtain⟨x,hx⟩:∃ x,E[j]?= some x:=⟨_,List.getElem?_eq_getElem hj⟩
    have HF:Hid (ownT E 2 s v ns l= .ok x.type):=I (by
     show(if findV E s= -1 then(Except.error 11:Except Int TT) else _)= _
     rw[if_neg (by rw[HIX.o];omega)]
     have:(findV E s).toNat= j:=by rw[HIX.o];rfl
     rw[this,hx])
    obtain⟨_,VA',vc',e',h1'⟩:=HAR.o.vars
    injection e' with e1' e2' e3'
    subst e1' e3'
    obtain⟨vb,vo,rfl,hvb,hc⟩:=h1' (by omega)
    obtain⟨ks,hkl,hks,hva⟩:=hc j x hx
    obtain⟨⟨ct,ci,rfl,hct,hci,hty,_⟩,_,_⟩:=hva
    have HCT:Hid (∀ z,Below w.heap.size w z->z.rangeAt vb (vo+j*11+2) ct):=I (fun z hz=>zc (fun i u hu=>by
     have:=hks (2+i) u (by rw[List.append_assoc];show([Value.string x.name,Value.int .i64 x.label] ++ (ct ++ ci))[2+i]?= _;rw[List.getElem?_append_right (by simp)];simp only[List.length_cons,List.length_nil];rw[show 2+i - (0+1+1)= i by omega,List.getElem?_append_left (List.getElem?_eq_some_iff.1 hu).1];exact hu)
     have h2:=(zp.1 this).2
     rwa [show vo+j*11+ (2+i)= vo+j*11+2+i by omega] at h2) hz hvb)
    have HLT:=I hct
    have HKT:Hid (KeptT p w ct x.type):=I hty
    have HOT:=I (zk hty).2
    have hjl:(j:Int) <(E.length:Int):=by omega
    have hjn: ¬ (j:Int) < 0:=by omega
    have hjg:(0:Int)<=(j:Int):=by omega
    clear hc hks hct hci hty h1' hkl hx hvb hi1 hi0 e2'
    go_wp2_with (first|(go_at_call 147;refine(HFD.o).mono ?_;rintro e z ⟨rfl,hb⟩;have HBI:=I hb;have v0z:z.cell? ⟨cb,0,none⟩= some (.slice (some ⟨vb,vo,none⟩) E.length vc):=HVC.o z (HCW.o z hb);clear hb;have HRP:=I (HRK.o z HBI.o);have HCZ:=I (HCT.o z (HCW.o z HBI.o));have HBP:=I (HCW.o z HBI.o))|(go_at_call 109;refine(z0k 11 _).mono ?_;rintro e z9 ⟨rfl,hzw⟩;rw[hzw];clear hzw z9)|((with_reducible refine za 41 _ rfl ?_ (vb) (vo+j*11+2) (ct) _ rfl HCZ.o Tryz.underlying41 rfl ?_ ?_);(exact wA rfl);rw[HLT.o];kernel_rfl)|((with_reducible refine zf 41 _ _ rfl rfl ?_ (w.heap.size+1) (zT3) (ct) HRP.o ?_ ?_ ?_ ?_ ?_ ?_);(exact wA rfl);rw[HLT.o];rfl;rfl;rfl;rw[HLT.o];kernel_rfl;exact HOT.o;intro Z hz hb;have HZZ:=I hz;have HBZ:=I hb;clear hz hb))
    (try simp only[Exit.inBlock,Exit.then])
    refine bodyPost_ret (zK rfl _ _ (w.heap.size+1) (ct) HLT.o rfl HZZ.o) rfl ?_
    exact TQ.ok HF.o (HKT.o.to (fun b hb hl=>⟨.inl hb,(HBZ.o.block b (Nat.lt_of_lt_of_le hl HBP.o.size) (by have:=HAR.o.lo b hb;omega) (by have:=HAR.o.lo b hb;omega)).trans (HBP.o.block b hl)⟩) (Nat.le_trans HBP.o.size HBZ.o.size)) (HBP.o.trans (HBZ.o.below HBP.o.size (by omega) (by omega)))
 ·obtain⟨ta,rfl⟩:=len1 hn
  clear hn
  by_cases h18:k= 18
  ·subst h18
   obtain⟨A,c,rfl,h2⟩:=HAR.o.row.inv
   obtain⟨b3,o3,rfl,hbb,hc⟩:=h2 (by simp)
   have HBB:=I hbb
   obtain⟨c0x,hl0x,hr0x,hk0x⟩:=hc 0 ta rfl
   obtain⟨x0,hx0⟩:∃ x,kT ta= x:=⟨_,rfl⟩
   obtain⟨X0,Y0,rfl,hX0,hY0⟩:=hk0x.form hx0
   have hr0y:w.rangeAt b3 (o3) [.int .i64 x0,X0,Y0]:=by simpa using hr0x
   have HL0:Hid (([.int .i64 x0,X0,Y0]:List Value).length= 3):=I rfl
   have HK0:=I hk0x
   have HE0:=I hx0
   have HOX0:=I (And.intro hX0 hY0)
   have HO0:=I (zk hk0x.typ).2
   have HR0:=I (fun z (hz:Below w.heap.size w z)=>zc hr0y hz hbb)
   clear hl0x hr0x hk0x hr0y hX0 hY0 hx0
   clear hc h2 hbb
   have HFD:Hid (ownT E 18 s v ns [ta]= z7D s ta):=I rfl
   by_cases k6:x0= 6
   ·subst k6
    have hjt:=(HAR.o.oks ta (by simp)).1
    cases ta with
    |mk k0 na ia=>
    obtain rfl:k0= 6:=HE0.o
    obtain⟨hJ,_⟩:=z1t.1 hjt
    obtain⟨NA,nc,A4,c4,e4,_,h1,h2,h3⟩:=HK0.o.inv
    simp only[List.cons.injEq,and_true,true_and] at e4
    obtain⟨rfl,rfl⟩:=e4
    have HNA:=I h1
    have HIA:=I h3
    have HJL:=I hJ
    clear h1 h2 h3 hjt hJ
    have HFT:Hid (ownT E 18 s v ns [.mk 6 na ia]= if Lib.idxOfS na s= -1 then .error 10 else .ok (ia.getD (Lib.idxOfS na s).toNat (pT 0))):=I (by rw[HFD.o,z7D,if_neg (by decide)])
    have HIX:Hid (∀ z:World,Below w.heap.size w z->Calls Tryz.prog 150 #[.slice NA na.length nc,.string s] z fun e z'=>e= .returned (.int .i64 (Lib.idxOfS na s))/\z'= z):=I fun z hz=>by
     rcases Nat.eq_zero_or_pos na.length with h0|h0
     ·obtain rfl:na=[]:=List.eq_nil_of_length_eq_zero h0
      exact Tryz.slices_Index_string_empty NA nc s z
     ·obtain⟨bn,on,rfl,hbn,hcn⟩:=HNA.o h0
      have:=Tryz.slices_Index_string bn on na.length nc na s z (Nat.le_refl _) (by have:=HJL.o.1;omega) fun j hj=>by
       rw[List.getD_eq_getElem?_getD,List.getElem?_eq_getElem hj]
       exact(hz.cell (p:=⟨bn,on+j,none⟩) hbn).trans (hcn j _ (List.getElem?_eq_getElem hj))
      rw[List.take_length] at this
      exact this
    have HU0:Hid (W.rangeAt b3 o3 [.int .i64 6,.slice NA na.length nc,.slice A4 ia.length c4]):=I (HR0.o W HBL.o)
    go_upto_region 23 with (first|((with_reducible refine za 41 _ rfl ?_ (b3) (o3) ([.int .i64 6,.slice NA na.length nc,.slice A4 ia.length c4]) _ rfl HU0.o Tryz.underlying41 rfl ?_ ?_);(exact wA rfl);rw[HL0.o];kernel_rfl)|(go_at_call 149;refine(tone1 6 6 _ _ W HOX0.o.1 HOX0.o.2).mono ?_;rintro e z0 ⟨rfl,hb⟩;have HWZ:=I hb;clear hb)|(go_at_call 109;refine(z0k 6 _).mono ?_;rintro e z9 ⟨rfl,hzw⟩;rw[hzw];clear hzw z9))
    clear e0 e1
    have hs:Below w.heap.size w z0.drew/\z0.drew.cell? ⟨w.heap.size,0,none⟩= some (.pointer (some ⟨b,o,none⟩)):=⟨(HCW.o _ HWZ.o).drew,HPT.o _ HWZ.o.drew⟩
    refine zr [(0,true),(1,true),(2,true),(3,true),(4,true),(5,true),(6,true),(7,true),(8,false),(9,true)] (fun z=>Below w.heap.size w z/\z.cell? ⟨w.heap.size,0,none⟩= some (.pointer (some ⟨b,o,none⟩))) (by kernel_rfl) (by kernel_rfl) (by kernel_rfl) rfl (by intro c a d v w h;cases d<;>exact h) ?_
    refine zh (some 91) (.slice (some ⟨b3,o3,none⟩) [TT.mk 6 na ia].length c) _ _ rfl rfl rfl (by exact wA rfl) hs rfl ?_
    go_frame
    refine z8 (some 92) (.pointer (some ⟨b3,o3,none⟩)) _ rfl rfl (by exact wA rfl) hs (fun z hz=>by go_simp) ?_
    go_frame
    refine z8 (some 93) (.pointer (some ⟨b3,o3+1,none⟩)) _ rfl rfl (by exact wA rfl) hs (fun z hz=>by go_simp) ?_
    go_frame
    refine z8 (some 94) (.slice NA na.length nc) _ rfl rfl (by exact wA rfl) hs (fun z hz=>by have e3:=HR0.o z hz.1 1 _ rfl;clear hz;go_simp) ?_
    go_frame
    refine z8 (some 95) (.pointer (some ⟨b,o,none⟩)) _ rfl rfl (by exact wA rfl) hs (fun z hz=>by have e3:=hz.2;clear hz;go_simp) ?_
    go_frame
    refine z8 (some 96) (.pointer (some ⟨b,o,none⟩)) _ rfl rfl (by exact wA rfl) hs (fun z hz=>by go_simp) ?_
    go_frame
    refine z8 (some 97) (.pointer (some ⟨b,o+1,none⟩)) _ rfl rfl (by exact wA rfl) hs (fun z hz=>by go_simp) ?_
    go_frame
    refine z8 (some 98) (.string s) _ rfl rfl (by exact wA rfl) hs (fun z hz=>by have e3:=HCE.o z hz.1 1 _ HC.o.2.1;clear hz;go_simp) ?_
    go_frame
    refine zC (some 99) 150 Tryz.func150 (by kernel_rfl) (by kernel_rfl) [.slice NA na.length nc,.string s] _ _ _ rfl rfl rfl (by exact wA rfl) rfl ?_
    refine(HIX.o _ hs.1).mono ?_
    rintro e z ⟨rfl,hzw⟩
    rw[hzw]
    clear hzw z
    refine⟨_,rfl,hs,?_⟩
    go_frame
    refine zQ (some 11) (.int .i64 (Lib.idxOfS na s)) _ _ rfl rfl rfl (by exact wA rfl) hs rfl ?_
    go_frame
    refine zF ?_
    have HZD:Hid (Below W.heap.size W z0.drew):=I HWZ.o.drew
    clear hs HWZ HIX
    generalize z0.drew= Y at*
    have HID:=z44 na s
    obtain⟨ix,hix⟩:∃ ix,Lib.idxOfS na s= ix:=⟨_,rfl⟩
    rw[hix] at HID HFT
    rw[hix]
    clear hix
    have HBY:=I (HCW.o Y HZD.o)
    rcases HID with rfl|⟨hi0,hi1⟩
    ·go_wp2_with (first|(go_at_call 109;refine(z02 10 _).mono ?_;rintro e z9 ⟨rfl,hzw⟩;rw[hzw];clear hzw z9))
     exact⟨rfl,TQ.no HFT.o (by decide) HBY.o⟩
    ·have hne: ¬ ix= -1:=by omega
     rw[if_neg hne] at HFT
     obtain⟨j,rfl⟩:∃ j:Nat,ix=(j:Int):=⟨ix.toNat,by omega⟩
     have hlen:=HJL.o.2.2 (by first|trivial|rfl)
     have hj:j < ia.length:=by omega
     have hj2:(j:Int) <(ia.length:Int):=by omega
     have hj0:(0:Int)<=(j:Int):=by omega
     obtain⟨b4,o4,rfl,hb4,hc4⟩:=HIA.o (by omega)
     obtain⟨ks,hkl,hkr,hkv⟩:=hc4 j _ (List.getElem?_eq_getElem hj)
     have HKV:=I hkv
     have HKL:=I hkl
     have HKR:Hid (Y.rangeAt b4 (o4+j*3) ks):=I (zc hkr HBY.o hb4)
     have HON:=I (zk hkv.typ).2
     have HF:Hid (ownT E 18 s v ns [.mk 6 na ia]= .ok ia[j]):=I (by rw[HFT.o];simp[List.getD,List.getElem?_eq_getElem hj])
     have HRY:=I (HRK.o Y HZD.o)
     have d5:Y.cell? ⟨b3,o3+2,none⟩= some (.slice (some ⟨b4,o4,none⟩) ia.length c4):=HR0.o Y HBY.o 2 _ rfl
     clear hc4 hkl hkr hkv hi0 hi1 hne hlen
     go_wp2_with (first|(go_at_call 109;refine(z0k 10 _).mono ?_;rintro e z9 ⟨rfl,hzw⟩;rw[hzw];clear hzw z9)|((with_reducible refine za 41 _ rfl ?_ (b4) (o4+j*3) (ks) _ rfl HKR.o Tryz.underlying41 rfl ?_ ?_);(exact wA rfl);rw[HKL.o];kernel_rfl)|((with_reducible refine zf 41 _ _ rfl rfl ?_ (w.heap.size+1) (zT3) (ks) HRY.o ?_ ?_ ?_ ?_ ?_ ?_);(exact wA rfl);rw[HKL.o];rfl;rfl;rfl;rw[HKL.o];kernel_rfl;exact HON.o;intro Z hz hb;have HZZ:=I hz;have HBZ:=I hb;clear hz hb))
     (try simp only[Exit.inBlock,Exit.then])
     refine bodyPost_ret (zK rfl _ _ (w.heap.size+1) (ks) HKL.o rfl HZZ.o) rfl ?_
     exact TQ.ok HF.o (HKV.o.to (fun b hb hl=>⟨.inl hb,(HBZ.o.block b (Nat.lt_of_lt_of_le hl HBY.o.size) (by have:=HAR.o.lo b hb;omega) (by have:=HAR.o.lo b hb;omega)).trans (HBY.o.block b hl)⟩) (Nat.le_trans HBY.o.size HBZ.o.size)) (HBY.o.trans (HBZ.o.below HBY.o.size (by omega) (by omega)))
   ·have q6:(x0 ==6)= false:=by rw[beq_eq_false_iff_ne];exact k6
    have HF:Hid (ownT E 18 s v ns [ta]= .error 6):=I (by
     rw[HFD.o]
     cases ta with
     |mk k0 na ia=>exact if_pos (fun h=>k6 (HE0.o.symm.trans h)))
    have HU0:Hid (W.rangeAt b3 o3 [.int .i64 x0,X0,Y0]):=I (HR0.o W HBL.o)
    go_wp2_with (first|((with_reducible refine za 41 _ rfl ?_ (b3) (o3) ([.int .i64 x0,X0,Y0]) _ rfl HU0.o Tryz.underlying41 rfl ?_ ?_);(exact wA rfl);rw[HL0.o];kernel_rfl)|(go_at_call 149;refine(tone1 x0 6 X0 Y0 W HOX0.o.1 HOX0.o.2).mono ?_;rintro e z0 ⟨rfl,hb⟩;have HBz0:=I hb;clear hb)|(go_at_call 109;refine(z02 6 _).mono ?_;rintro e z9 ⟨rfl,hzw⟩;rw[hzw];clear hzw z9))
    exact⟨rfl,TQ.no HF.o (by decide) (HCW.o _ HBz0.o)⟩
  ·have hku:k= 3\/k= 4\/k= 20\/k= 21\/k= 22\/k= 23:=by omega
   obtain⟨A,c,rfl,h2⟩:=HAR.o.row.inv
   obtain⟨b3,o3,rfl,hbb,hc⟩:=h2 (by simp)
   have HBB:=I hbb
   obtain⟨c0x,hl0x,hr0x,hk0x⟩:=hc 0 ta rfl
   obtain⟨x0,hx0⟩:∃ x,kT ta= x:=⟨_,rfl⟩
   obtain⟨X0,Y0,rfl,hX0,hY0⟩:=hk0x.form hx0
   have hr0y:w.rangeAt b3 (o3) [.int .i64 x0,X0,Y0]:=by simpa using hr0x
   have HL0:Hid (([.int .i64 x0,X0,Y0]:List Value).length= 3):=I rfl
   have HK0:=I hk0x
   have HE0:=I hx0
   have HOX0:=I (And.intro hX0 hY0)
   have HO0:=I (zk hk0x.typ).2
   have HR0:=I (fun z (hz:Below w.heap.size w z)=>zc hr0y hz hbb)
   clear hl0x hr0x hk0x hr0y hX0 hY0 hx0
   clear hc h2 hbb
   have q1k:(k ==1)= false:=by rw[beq_eq_false_iff_ne];omega
   have q2k:(k ==2)= false:=by rw[beq_eq_false_iff_ne];omega
   have q15k:(k ==15)= false:=by rw[beq_eq_false_iff_ne];omega
   have q16k:(k ==16)= false:=by rw[beq_eq_false_iff_ne];omega
   have q17k:(k ==17)= false:=by rw[beq_eq_false_iff_ne];omega
   have q18k:(k ==18)= false:=by rw[beq_eq_false_iff_ne];omega
   have q19k:(k ==19)= false:=by rw[beq_eq_false_iff_ne];omega
   have HUC:Hid (∀ z,Below w.heap.size w z->Calls Tryz.prog 151 #[.int .i64 k,.agg ⟨[.int .i64 x0,X0,Y0]⟩] z (TQ p (ownT E k s v ns [ta]) z)):=I fun z hz=>za6 p k ta [.int .i64 x0,X0,Y0] z E s v ns hku (HK0.o.next hz) (fun b hb=>Nat.lt_of_lt_of_le (HAR.o.lo b hb) hz.size)
   go_upto_region 30 with (fail)
   clear e0 e1
   have HWZ:=HWW
   have hs:Below w.heap.size w W.drew/\W.drew.cell? ⟨w.heap.size,0,none⟩= some (.pointer (some ⟨b,o,none⟩)):=⟨(HCW.o _ HWZ.o).drew,HPT.o _ HWZ.o.drew⟩
   refine zr [(0,true),(1,true),(2,true),(3,true),(4,true),(5,true),(6,true),(7,false),(8,false)] (fun z=>Below w.heap.size w z/\z.cell? ⟨w.heap.size,0,none⟩= some (.pointer (some ⟨b,o,none⟩))) (by kernel_rfl) (by kernel_rfl) (by kernel_rfl) rfl (by intro c a d v w h;cases d<;>exact h) ?_
   refine z8 (some 145) (.pointer (some ⟨b,o,none⟩)) _ rfl rfl (by exact wA rfl) hs (fun z hz=>by have e3:=hz.2;clear hz;go_simp) ?_
   go_frame
   refine z8 (some 146) (.pointer (some ⟨b,o,none⟩)) _ rfl rfl (by exact wA rfl) hs (fun z hz=>by go_simp) ?_
   go_frame
   refine z8 (some 147) (.pointer (some ⟨b,o,none⟩)) _ rfl rfl (by exact wA rfl) hs (fun z hz=>by go_simp) ?_
   go_frame
   refine z8 (some 148) (.int .i64 k) _ rfl rfl (by exact wA rfl) hs (fun z hz=>by have e3:=HCE.o z hz.1 0 _ HC.o.1;clear hz;rw[Nat.add_zero] at e3;go_simp) ?_
   go_frame
   refine zh (some 149) (.slice (some ⟨b3,o3,none⟩) [ta].length c) _ _ rfl rfl rfl (by exact wA rfl) hs rfl ?_
   go_frame
   refine z8 (some 150) (.pointer (some ⟨b3,o3,none⟩)) _ rfl rfl (by exact wA rfl) hs (fun z hz=>by go_simp) ?_
   go_frame
   refine z8 (some 151) (.agg ⟨[.int .i64 x0,X0,Y0]⟩) _ rfl rfl (by exact wA rfl) hs (fun z hz=>zt 41 rfl (b3) (o3) ([.int .i64 x0,X0,Y0]) _ rfl (HR0.o z hz.1) Tryz.underlying41 rfl (by rw[HL0.o];kernel_rfl)) ?_
   go_frame
   refine z4o (some 152) 151 Tryz.func151 (by kernel_rfl) (by kernel_rfl) [.int .i64 k,.agg ⟨[.int .i64 x0,X0,Y0]⟩] _ _ _ rfl rfl rfl (by exact wA rfl) rfl ?_
   refine(HUC.o _ hs.1).mono ?_
   rintro e u6 (⟨tn,cn,htn,rfl,hkn,hbn⟩|⟨m,n,htn,hn,rfl,hbn⟩)
   case inr=>exact .inr ⟨_,rfl,rfl,TQ.no htn hn ((HCW.o _ HWZ.o).drew.trans (hbn.mono (HCW.o _ HWZ.o).size))⟩
   have HF:=I htn
   clear htn
   have HKN:=I hkn
   have HLN:=I (zk hkn.typ).1
   have HON:=I (zk hkn.typ).2
   have HZU:Hid (Below W.heap.size W u6):=I ((HWZ.o.trans ((Below.refl _ _).drew.mono HWZ.o.size)).trans (hbn.mono (Nat.le_trans HWZ.o.size (Nat.le_refl _))))
   clear hkn hbn
   refine .inl ⟨_,rfl,⟨HCW.o _ HZU.o,HPT.o _ HZU.o⟩,?_⟩
   go_frame
   refine z1C none 41 _ _ _ rfl rfl rfl (by exact wA rfl) (w.heap.size+1) zT3 cn (HRK.o _ HZU.o) (by rw[HLN.o];rfl) rfl rfl (by rw[HLN.o];kernel_rfl) HON.o ?_
   intro wf hwf hbf
   have HBF:Hid (Below w.heap.size w wf):=I ((HCW.o _ HZU.o).trans (hbf.below (HCW.o _ HZU.o).size (by omega) (by omega)))
   have HZZ:=I hwf
   have HPF:Hid (wf.cell? ⟨w.heap.size,0,none⟩= some (.pointer (some ⟨b,o,none⟩))):=I ((World.cell?_of_block (a:=⟨w.heap.size,0,none⟩) (hbf.block w.heap.size (Nat.lt_of_lt_of_le HXB.o.lt HZU.o.size) (by omega) (by omega))).trans (HPT.o _ HZU.o))
   have HKF:Hid (KeptT (fun b=>p b\/w.heap.size<=b) wf cn tn):=I (HKN.o.to (fun b h1 h2=>⟨h1.imp id fun h=>Nat.le_trans (HCW.o _ HWZ.o).size h,hbf.block b h2 (fun e=>by
    rcases h1 with h|h
    ·have:=HAR.o.lo b h;omega
    ·have h3:=HRL.o;have h4:=HWZ.o.size;have h5:W.heap.size<=b:=h;omega) (fun e=>by
    rcases h1 with h|h
    ·have:=HAR.o.lo b h;omega
    ·have h3:=HRL.o;have h4:=HWZ.o.size;have h5:W.heap.size<=b:=h;omega)⟩) hbf.size)
   clear hwf hbf
   refine⟨⟨HBF.o,HPF.o⟩,?_⟩
   go_frame
   refine zF ?_
   go_wp2
   (try simp only[Exit.inBlock,Exit.then])
   refine bodyPost_ret (zK rfl _ _ (w.heap.size+1) (cn) HLN.o rfl HZZ.o) rfl ?_
   exact TQ.ok HF.o HKF.o HBF.o
 ·obtain⟨ta,tb,rfl⟩:=len2 hn
  clear hn
  rcases hk with hk|rfl
  ·obtain⟨A,c,rfl,h2⟩:=HAR.o.row.inv
   obtain⟨b3,o3,rfl,hbb,hc⟩:=h2 (by simp)
   have HBB:=I hbb
   obtain⟨c0x,hl0x,hr0x,hk0x⟩:=hc 0 ta rfl
   obtain⟨x0,hx0⟩:∃ x,kT ta= x:=⟨_,rfl⟩
   obtain⟨X0,Y0,rfl,hX0,hY0⟩:=hk0x.form hx0
   have hr0y:w.rangeAt b3 (o3) [.int .i64 x0,X0,Y0]:=by simpa using hr0x
   have HL0:Hid (([.int .i64 x0,X0,Y0]:List Value).length= 3):=I rfl
   have HK0:=I hk0x
   have HE0:=I hx0
   have HOX0:=I (And.intro hX0 hY0)
   have HO0:=I (zk hk0x.typ).2
   have HR0:=I (fun z (hz:Below w.heap.size w z)=>zc hr0y hz hbb)
   clear hl0x hr0x hk0x hr0y hX0 hY0 hx0
   obtain⟨c1x,hl1x,hr1x,hk1x⟩:=hc 1 tb rfl
   obtain⟨x1,hx1⟩:∃ x,kT tb= x:=⟨_,rfl⟩
   obtain⟨X1,Y1,rfl,hX1,hY1⟩:=hk1x.form hx1
   have hr1y:w.rangeAt b3 (o3+3) [.int .i64 x1,X1,Y1]:=by simpa using hr1x
   have HL1:Hid (([.int .i64 x1,X1,Y1]:List Value).length= 3):=I rfl
   have HK1:=I hk1x
   have HE1:=I hx1
   have HOX1:=I (And.intro hX1 hY1)
   have HO1:=I (zk hk1x.typ).2
   have HR1:=I (fun z (hz:Below w.heap.size w z)=>zc hr1y hz hbb)
   clear hl1x hr1x hk1x hr1y hX1 hY1 hx1
   clear hc h2 hbb
   have q1k:(k ==1)= false:=by rw[beq_eq_false_iff_ne];omega
   have q2k:(k ==2)= false:=by rw[beq_eq_false_iff_ne];omega
   have q15k:(k ==15)= false:=by rw[beq_eq_false_iff_ne];omega
   have q16k:(k ==16)= false:=by rw[beq_eq_false_iff_ne];omega
   have q17k:(k ==17)= false:=by rw[beq_eq_false_iff_ne];omega
   have q18k:(k ==18)= false:=by rw[beq_eq_false_iff_ne];omega
   have q19k:(k ==19)= false:=by rw[beq_eq_false_iff_ne];omega
   have HBC0:Hid (∀ z,Below w.heap.size w z->Calls Tryz.prog 152 #[.int .i64 k,.agg ⟨[.int .i64 x0,X0,Y0]⟩,.agg ⟨[.int .i64 x1,X1,Y1]⟩] z (TQ p (pairT k ta tb) z)):=I fun z hz=>z8y p k ta tb [.int .i64 x0,X0,Y0] [.int .i64 x1,X1,Y1] z hk (HK0.o.next hz) (HK1.o.next hz) (fun b hb=>Nat.lt_of_lt_of_le (HAR.o.lo b hb) hz.size) (HAR.o.oks ta (by simp)).1 (HAR.o.oks tb (by simp)).1 (HST.o ta (by simp)) (HST.o tb (by simp)) (HAR.o.oks ta (by simp)).2.1 (HAR.o.oks tb (by simp)).2.1
   have HBC:Hid (∀ z,Below w.heap.size w z->Calls Tryz.prog 152 #[.int .i64 k,.agg ⟨[.int .i64 x0,X0,Y0]⟩,.agg ⟨[.int .i64 x1,X1,Y1]⟩] z (TQ p (ownT E k s v ns [ta,tb]) z)):=I (by rw[zf1 hk];exact HBC0.o)
   clear HBC0
   go_upto_region 31 with (fail)
   clear e0 e1
   have HWZ:=HWW
   have hs:Below w.heap.size w W.drew/\W.drew.cell? ⟨w.heap.size,0,none⟩= some (.pointer (some ⟨b,o,none⟩)):=⟨(HCW.o _ HWZ.o).drew,HPT.o _ HWZ.o.drew⟩
   refine zr [(0,true),(1,true),(2,true),(3,true),(4,true),(5,true),(6,true),(7,true),(8,true),(9,true),(10,false),(11,false)] (fun z=>Below w.heap.size w z/\z.cell? ⟨w.heap.size,0,none⟩= some (.pointer (some ⟨b,o,none⟩))) (by kernel_rfl) (by kernel_rfl) (by kernel_rfl) rfl (by intro c a d v w h;cases d<;>exact h) ?_
   refine z8 (some 153) (.pointer (some ⟨b,o,none⟩)) _ rfl rfl (by exact wA rfl) hs (fun z hz=>by have e3:=hz.2;clear hz;go_simp) ?_
   go_frame
   refine z8 (some 154) (.pointer (some ⟨b,o,none⟩)) _ rfl rfl (by exact wA rfl) hs (fun z hz=>by go_simp) ?_
   go_frame
   refine z8 (some 155) (.pointer (some ⟨b,o,none⟩)) _ rfl rfl (by exact wA rfl) hs (fun z hz=>by go_simp) ?_
   go_frame
   refine z8 (some 156) (.int .i64 k) _ rfl rfl (by exact wA rfl) hs (fun z hz=>by have e3:=HCE.o z hz.1 0 _ HC.o.1;clear hz;rw[Nat.add_zero] at e3;go_simp) ?_
   go_frame
   refine zh (some 157) (.slice (some ⟨b3,o3,none⟩) [ta,tb].length c) _ _ rfl rfl rfl (by exact wA rfl) hs rfl ?_
   go_frame
   refine z8 (some 158) (.pointer (some ⟨b3,o3,none⟩)) _ rfl rfl (by exact wA rfl) hs (fun z hz=>by go_simp) ?_
   go_frame
   refine z8 (some 159) (.agg ⟨[.int .i64 x0,X0,Y0]⟩) _ rfl rfl (by exact wA rfl) hs (fun z hz=>zt 41 rfl (b3) (o3) ([.int .i64 x0,X0,Y0]) _ rfl (HR0.o z hz.1) Tryz.underlying41 rfl (by rw[HL0.o];kernel_rfl)) ?_
   go_frame
   refine zh (some 160) (.slice (some ⟨b3,o3,none⟩) [ta,tb].length c) _ _ rfl rfl rfl (by exact wA rfl) hs rfl ?_
   go_frame
   refine z8 (some 161) (.pointer (some ⟨b3,o3+3,none⟩)) _ rfl rfl (by exact wA rfl) hs (fun z hz=>by go_simp) ?_
   go_frame
   refine z8 (some 162) (.agg ⟨[.int .i64 x1,X1,Y1]⟩) _ rfl rfl (by exact wA rfl) hs (fun z hz=>zt 41 rfl (b3) (o3+3) ([.int .i64 x1,X1,Y1]) _ rfl (HR1.o z hz.1) Tryz.underlying41 rfl (by rw[HL1.o];kernel_rfl)) ?_
   go_frame
   refine z4o (some 163) 152 Tryz.func152 (by kernel_rfl) (by kernel_rfl) [.int .i64 k,.agg ⟨[.int .i64 x0,X0,Y0]⟩,.agg ⟨[.int .i64 x1,X1,Y1]⟩] _ _ _ rfl rfl rfl (by exact wA rfl) rfl ?_
   refine(HBC.o _ hs.1).mono ?_
   rintro e u6 (⟨tn,cn,htn,rfl,hkn,hbn⟩|⟨m,n,htn,hn,rfl,hbn⟩)
   case inr=>exact .inr ⟨_,rfl,rfl,TQ.no htn hn ((HCW.o _ HWZ.o).drew.trans (hbn.mono (HCW.o _ HWZ.o).size))⟩
   have HF:=I htn
   clear htn
   have HKN:=I hkn
   have HLN:=I (zk hkn.typ).1
   have HON:=I (zk hkn.typ).2
   have HZU:Hid (Below W.heap.size W u6):=I ((HWZ.o.trans ((Below.refl _ _).drew.mono HWZ.o.size)).trans (hbn.mono (Nat.le_trans HWZ.o.size (Nat.le_refl _))))
   clear hkn hbn
   refine .inl ⟨_,rfl,⟨HCW.o _ HZU.o,HPT.o _ HZU.o⟩,?_⟩
   go_frame
   refine z1C none 41 _ _ _ rfl rfl rfl (by exact wA rfl) (w.heap.size+1) zT3 cn (HRK.o _ HZU.o) (by rw[HLN.o];rfl) rfl rfl (by rw[HLN.o];kernel_rfl) HON.o ?_
   intro wf hwf hbf
   have HBF:Hid (Below w.heap.size w wf):=I ((HCW.o _ HZU.o).trans (hbf.below (HCW.o _ HZU.o).size (by omega) (by omega)))
   have HZZ:=I hwf
   have HPF:Hid (wf.cell? ⟨w.heap.size,0,none⟩= some (.pointer (some ⟨b,o,none⟩))):=I ((World.cell?_of_block (a:=⟨w.heap.size,0,none⟩) (hbf.block w.heap.size (Nat.lt_of_lt_of_le HXB.o.lt HZU.o.size) (by omega) (by omega))).trans (HPT.o _ HZU.o))
   have HKF:Hid (KeptT (fun b=>p b\/w.heap.size<=b) wf cn tn):=I (HKN.o.to (fun b h1 h2=>⟨h1.imp id fun h=>Nat.le_trans (HCW.o _ HWZ.o).size h,hbf.block b h2 (fun e=>by
    rcases h1 with h|h
    ·have:=HAR.o.lo b h;omega
    ·have h3:=HRL.o;have h4:=HWZ.o.size;have h5:W.heap.size<=b:=h;omega) (fun e=>by
    rcases h1 with h|h
    ·have:=HAR.o.lo b h;omega
    ·have h3:=HRL.o;have h4:=HWZ.o.size;have h5:W.heap.size<=b:=h;omega)⟩) hbf.size)
   clear hwf hbf
   refine⟨⟨HBF.o,HPF.o⟩,?_⟩
   go_frame
   refine zF ?_
   go_wp2
   (try simp only[Exit.inBlock,Exit.then])
   refine bodyPost_ret (zK rfl _ _ (w.heap.size+1) (cn) HLN.o rfl HZZ.o) rfl ?_
   exact TQ.ok HF.o HKF.o HBF.o
  ·obtain⟨A,c,rfl,h2⟩:=HAR.o.row.inv
   obtain⟨b3,o3,rfl,hbb,hc⟩:=h2 (by simp)
   have HBB:=I hbb
   obtain⟨c0x,hl0x,hr0x,hk0x⟩:=hc 0 ta rfl
   obtain⟨x0,hx0⟩:∃ x,kT ta= x:=⟨_,rfl⟩
   obtain⟨X0,Y0,rfl,hX0,hY0⟩:=hk0x.form hx0
   have hr0y:w.rangeAt b3 (o3) [.int .i64 x0,X0,Y0]:=by simpa using hr0x
   have HL0:Hid (([.int .i64 x0,X0,Y0]:List Value).length= 3):=I rfl
   have HK0:=I hk0x
   have HE0:=I hx0
   have HOX0:=I (And.intro hX0 hY0)
   have HO0:=I (zk hk0x.typ).2
   have HR0:=I (fun z (hz:Below w.heap.size w z)=>zc hr0y hz hbb)
   clear hl0x hr0x hk0x hr0y hX0 hY0 hx0
   obtain⟨c1x,hl1x,hr1x,hk1x⟩:=hc 1 tb rfl
   obtain⟨x1,hx1⟩:∃ x,kT tb= x:=⟨_,rfl⟩
   obtain⟨X1,Y1,rfl,hX1,hY1⟩:=hk1x.form hx1
   have hr1y:w.rangeAt b3 (o3+3) [.int .i64 x1,X1,Y1]:=by simpa using hr1x
   have HL1:Hid (([.int .i64 x1,X1,Y1]:List Value).length= 3):=I rfl
   have HK1:=I hk1x
   have HE1:=I hx1
   have HOX1:=I (And.intro hX1 hY1)
   have HO1:=I (zk hk1x.typ).2
   have HR1:=I (fun z (hz:Below w.heap.size w z)=>zc hr1y hz hbb)
   clear hl1x hr1x hk1x hr1y hX1 hY1 hx1
   clear hc h2 hbb
   have HD19:Hid (ownT E 19 s v ns [ta,tb]= if kT ta= 5/\kT tb= 2/\kT (item0 ta)≠7 then(Except.ok (item0 ta):Except Int TT) else Except.error 6):=I rfl
   by_cases k5:x0= 5
   ·subst k5
    by_cases k2:x1= 2
    ·subst k2
     obtain⟨a,ha⟩:=(HAR.o.oks ta (by simp)).2.2 HE0.o
     cases ta with
     |mk k0 na ia=>
     obtain rfl:ia=[a]:=ha
     obtain rfl:k0= 5:=HE0.o
     obtain⟨NA,nc,A4,c4,e4,_,_,_,h3⟩:=HK0.o.inv
     simp only[List.cons.injEq,and_true,true_and] at e4
     obtain⟨rfl,rfl⟩:=e4
     obtain⟨b4,o4,rfl,hb4,hc4⟩:=h3 (by simp)
     obtain⟨ca,hla,hra,hka⟩:=hc4 0 a rfl
     have hra2:w.rangeAt b4 o4 ca:=by simpa using hra
     obtain⟨xa,hxa⟩:∃ x,kT a= x:=⟨_,rfl⟩
     obtain⟨XA,YA,rfl,hXA,hYA⟩:=hka.form hxa
     have HRA:=I (fun z (hz:Below w.heap.size w z)=>zc hra2 hz hb4)
     have HOXA:=I (And.intro hXA hYA)
     have HKA:=I hka
     have HXE:=I hxa
     have HLA3:Hid (([.int .i64 5,.slice NA na.length nc,.slice (some ⟨b4,o4,none⟩) [a].length c4]:List Value).length= 3):=I rfl
     have HLX3:Hid (([.int .i64 xa,XA,YA]:List Value).length= 3):=I rfl
     have HU0:Hid (W.rangeAt b3 o3 [.int .i64 5,.slice NA na.length nc,.slice (some ⟨b4,o4,none⟩) [a].length c4]):=I (HR0.o W HBL.o)
     have HOA:=I (zk hka.typ).2
     clear h3 hc4 hra hra2 hla hka hXA hYA hxa hb4
     by_cases k7:xa= 7
     ·subst k7
      have HF:Hid (ownT E 19 s v ns [.mk 5 na [a],tb]= .error 6):=I (by rw[HD19.o];exact if_neg fun h=>h.2.2 HXE.o)
      go_wp2_with (first|((with_reducible refine za 41 _ rfl ?_ (b3) (o3) ([.int .i64 5,.slice NA na.length nc,.slice (some ⟨b4,o4,none⟩) [a].length c4]) _ rfl HU0.o Tryz.underlying41 rfl ?_ ?_);(exact wA rfl);rw[HLA3.o];kernel_rfl)|((with_reducible refine za 41 _ rfl ?_ (b3) (o3+3) ([.int .i64 2,X1,Y1]) _ rfl HU1.o Tryz.underlying41 rfl ?_ ?_);(exact wA rfl);rw[HL1.o];kernel_rfl)|((with_reducible refine za 41 _ rfl ?_ (b4) (o4) ([.int .i64 7,XA,YA]) _ rfl HUA.o Tryz.underlying41 rfl ?_ ?_);(exact wA rfl);rw[HLX3.o];kernel_rfl)|(go_at_call 149;refine(tone1 5 5 _ _ W HOX0.o.1 HOX0.o.2).mono ?_;rintro e z0 ⟨rfl,hb⟩;have HBz0:=I hb;clear hb;have HW0:=I HBz0.o;have HU1:=I (HR1.o z0 (HCW.o z0 HW0.o)))|(go_at_call 149;refine(tone1 2 2 X1 Y1 z0 HOX1.o.1 HOX1.o.2).mono ?_;rintro e z1 ⟨rfl,hb⟩;have HBz1:=I hb;clear hb;have HW1:=I (HW0.o.trans (HBz1.o.mono HW0.o.size));have d5z:z1.cell? ⟨b3,o3+2,none⟩= some (.slice (some ⟨b4,o4,none⟩) [a].length c4):=HR0.o z1 (HCW.o z1 HW1.o) 2 _ rfl;have HUA:=I (HRA.o z1 (HCW.o z1 HW1.o)))|(go_at_call 149;refine(tone1 7 7 XA YA z1 HOXA.o.1 HOXA.o.2).mono ?_;rintro e z2 ⟨rfl,hb⟩;have HBz2:=I hb;clear hb;have HW2:=I (HW1.o.trans (HBz2.o.mono HW1.o.size));have d5y:z2.cell? ⟨b3,o3+2,none⟩= some (.slice (some ⟨b4,o4,none⟩) [a].length c4):=HR0.o z2 (HCW.o z2 HW2.o) 2 _ rfl;have HUB:=I (HRA.o z2 (HCW.o z2 HW2.o));have HRP:=I (HRK.o z2 HW2.o);have HBP:=I (HCW.o z2 HW2.o))|(go_at_call 109;refine(z02 6 _).mono ?_;rintro e z9 ⟨rfl,hzw⟩;rw[hzw];clear hzw z9))
      exact⟨rfl,TQ.no HF.o (by decide) (HCW.o _ HW2.o)⟩
     ·have q7:(xa ==7)= false:=by rw[beq_eq_false_iff_ne];exact k7
      have HF:Hid (ownT E 19 s v ns [.mk 5 na [a],tb]= .ok a):=I (by rw[HD19.o];exact if_pos ⟨HE0.o,HE1.o,fun h=>k7 (HXE.o.symm.trans h)⟩)
      go_wp2_with (first|((with_reducible refine za 41 _ rfl ?_ (b3) (o3) ([.int .i64 5,.slice NA na.length nc,.slice (some ⟨b4,o4,none⟩) [a].length c4]) _ rfl HU0.o Tryz.underlying41 rfl ?_ ?_);(exact wA rfl);rw[HLA3.o];kernel_rfl)|((with_reducible refine za 41 _ rfl ?_ (b3) (o3+3) ([.int .i64 2,X1,Y1]) _ rfl HU1.o Tryz.underlying41 rfl ?_ ?_);(exact wA rfl);rw[HL1.o];kernel_rfl)|((with_reducible refine za 41 _ rfl ?_ (b4) (o4) ([.int .i64 xa,XA,YA]) _ rfl HUA.o Tryz.underlying41 rfl ?_ ?_);(exact wA rfl);rw[HLX3.o];kernel_rfl)|((with_reducible refine za 41 _ rfl ?_ (b4) (o4) ([.int .i64 xa,XA,YA]) _ rfl HUB.o Tryz.underlying41 rfl ?_ ?_);(exact wA rfl);rw[HLX3.o];kernel_rfl)|(go_at_call 149;refine(tone1 5 5 _ _ W HOX0.o.1 HOX0.o.2).mono ?_;rintro e z0 ⟨rfl,hb⟩;have HBz0:=I hb;clear hb;have HW0:=I HBz0.o;have HU1:=I (HR1.o z0 (HCW.o z0 HW0.o)))|(go_at_call 149;refine(tone1 2 2 X1 Y1 z0 HOX1.o.1 HOX1.o.2).mono ?_;rintro e z1 ⟨rfl,hb⟩;have HBz1:=I hb;clear hb;have HW1:=I (HW0.o.trans (HBz1.o.mono HW0.o.size));have d5z:z1.cell? ⟨b3,o3+2,none⟩= some (.slice (some ⟨b4,o4,none⟩) [a].length c4):=HR0.o z1 (HCW.o z1 HW1.o) 2 _ rfl;have HUA:=I (HRA.o z1 (HCW.o z1 HW1.o)))|(go_at_call 149;refine(tone1 xa 7 XA YA z1 HOXA.o.1 HOXA.o.2).mono ?_;rintro e z2 ⟨rfl,hb⟩;have HBz2:=I hb;clear hb;have HW2:=I (HW1.o.trans (HBz2.o.mono HW1.o.size));have d5y:z2.cell? ⟨b3,o3+2,none⟩= some (.slice (some ⟨b4,o4,none⟩) [a].length c4):=HR0.o z2 (HCW.o z2 HW2.o) 2 _ rfl;have HUB:=I (HRA.o z2 (HCW.o z2 HW2.o));have HRP:=I (HRK.o z2 HW2.o);have HBP:=I (HCW.o z2 HW2.o))|(go_at_call 109;refine(z0k 6 _).mono ?_;rintro e z9 ⟨rfl,hzw⟩;rw[hzw];clear hzw z9)|((with_reducible refine zf 41 _ _ rfl rfl ?_ (w.heap.size+1) (zT3) ([.int .i64 xa,XA,YA]) HRP.o ?_ ?_ ?_ ?_ ?_ ?_);(exact wA rfl);rfl;rfl;rfl;kernel_rfl;exact HOA.o;intro Z hz hb;have HZZ:=I hz;have HBZ:=I hb;clear hz hb))
      (try simp only[Exit.inBlock,Exit.then])
      refine bodyPost_ret (zK rfl _ _ (w.heap.size+1) ([.int .i64 xa,XA,YA]) rfl rfl HZZ.o) rfl ?_
      exact TQ.ok HF.o (HKA.o.to (fun b hb hl=>⟨.inl hb,(HBZ.o.block b (Nat.lt_of_lt_of_le hl HBP.o.size) (by have:=HAR.o.lo b hb;omega) (by have:=HAR.o.lo b hb;omega)).trans (HBP.o.block b hl)⟩) (Nat.le_trans HBP.o.size HBZ.o.size)) (HBP.o.trans (HBZ.o.below HBP.o.size (by omega) (by omega)))
    ·have q2:(x1 ==2)= false:=by rw[beq_eq_false_iff_ne];exact k2
     have HF:Hid (ownT E 19 s v ns [ta,tb]= .error 6):=I (by rw[HD19.o];exact if_neg fun h=>k2 (HE1.o.symm.trans h.2.1))
     have HU0:Hid (W.rangeAt b3 o3 [.int .i64 5,X0,Y0]):=I (HR0.o W HBL.o)
     go_wp2_with (first|((with_reducible refine za 41 _ rfl ?_ (b3) (o3) ([.int .i64 5,X0,Y0]) _ rfl HU0.o Tryz.underlying41 rfl ?_ ?_);(exact wA rfl);rw[HL0.o];kernel_rfl)|((with_reducible refine za 41 _ rfl ?_ (b3) (o3+3) ([.int .i64 x1,X1,Y1]) _ rfl HU1.o Tryz.underlying41 rfl ?_ ?_);(exact wA rfl);rw[HL1.o];kernel_rfl)|(go_at_call 149;refine(tone1 5 5 X0 Y0 W HOX0.o.1 HOX0.o.2).mono ?_;rintro e z0 ⟨rfl,hb⟩;have HBz0:=I hb;clear hb;have HW0:=I HBz0.o;have HU1:=I (HR1.o z0 (HCW.o z0 HW0.o)))|(go_at_call 149;refine(tone1 x1 2 X1 Y1 z0 HOX1.o.1 HOX1.o.2).mono ?_;rintro e z1 ⟨rfl,hb⟩;have HBz1:=I hb;clear hb)|(go_at_call 109;refine(z02 6 _).mono ?_;rintro e z9 ⟨rfl,hzw⟩;rw[hzw];clear hzw z9))
     exact⟨rfl,TQ.no HF.o (by decide) ((HCW.o _ HW0.o).trans (HBz1.o.mono (HCW.o _ HW0.o).size))⟩
   ·have q5:(x0 ==5)= false:=by rw[beq_eq_false_iff_ne];exact k5
    have HF:Hid (ownT E 19 s v ns [ta,tb]= .error 6):=I (by rw[HD19.o];exact if_neg fun h=>k5 (HE0.o.symm.trans h.1))
    have HU0:Hid (W.rangeAt b3 o3 [.int .i64 x0,X0,Y0]):=I (HR0.o W HBL.o)
    go_wp2_with (first|((with_reducible refine za 41 _ rfl ?_ (b3) (o3) ([.int .i64 x0,X0,Y0]) _ rfl HU0.o Tryz.underlying41 rfl ?_ ?_);(exact wA rfl);rw[HL0.o];kernel_rfl)|(go_at_call 149;refine(tone1 x0 5 X0 Y0 W HOX0.o.1 HOX0.o.2).mono ?_;rintro e z0 ⟨rfl,hb⟩;have HBz0:=I hb;clear hb)|(go_at_call 109;refine(z02 6 _).mono ?_;rintro e z9 ⟨rfl,hzw⟩;rw[hzw];clear hzw z9))
    exact⟨rfl,TQ.no HF.o (by decide) (HCW.o _ HBz0.o)⟩
 ·obtain⟨ta,tb,tc,rfl⟩:=len3 hn
  clear hn
  obtain⟨A,c,rfl,h2⟩:=HAR.o.row.inv
  obtain⟨b3,o3,rfl,hbb,hc⟩:=h2 (by simp)
  have HBB:=I hbb
  obtain⟨c0x,hl0x,hr0x,hk0x⟩:=hc 0 ta rfl
  obtain⟨x0,hx0⟩:∃ x,kT ta= x:=⟨_,rfl⟩
  obtain⟨X0,Y0,rfl,hX0,hY0⟩:=hk0x.form hx0
  have hr0y:w.rangeAt b3 (o3) [.int .i64 x0,X0,Y0]:=by simpa using hr0x
  have HL0:Hid (([.int .i64 x0,X0,Y0]:List Value).length= 3):=I rfl
  have HK0:=I hk0x
  have HE0:=I hx0
  have HOX0:=I (And.intro hX0 hY0)
  have HO0:=I (zk hk0x.typ).2
  have HR0:=I (fun z (hz:Below w.heap.size w z)=>zc hr0y hz hbb)
  clear hl0x hr0x hk0x hr0y hX0 hY0 hx0
  obtain⟨c1x,hl1x,hr1x,hk1x⟩:=hc 1 tb rfl
  obtain⟨x1,hx1⟩:∃ x,kT tb= x:=⟨_,rfl⟩
  obtain⟨X1,Y1,rfl,hX1,hY1⟩:=hk1x.form hx1
  have hr1y:w.rangeAt b3 (o3+3) [.int .i64 x1,X1,Y1]:=by simpa using hr1x
  have HL1:Hid (([.int .i64 x1,X1,Y1]:List Value).length= 3):=I rfl
  have HK1:=I hk1x
  have HE1:=I hx1
  have HOX1:=I (And.intro hX1 hY1)
  have HO1:=I (zk hk1x.typ).2
  have HR1:=I (fun z (hz:Below w.heap.size w z)=>zc hr1y hz hbb)
  clear hl1x hr1x hk1x hr1y hX1 hY1 hx1
  obtain⟨c2x,hl2x,hr2x,hk2x⟩:=hc 2 tc rfl
  obtain⟨x2,hx2⟩:∃ x,kT tc= x:=⟨_,rfl⟩
  obtain⟨X2,Y2,rfl,hX2,hY2⟩:=hk2x.form hx2
  have hr2y:w.rangeAt b3 (o3+6) [.int .i64 x2,X2,Y2]:=by simpa using hr2x
  have HL2:Hid (([.int .i64 x2,X2,Y2]:List Value).length= 3):=I rfl
  have HK2:=I hk2x
  have HE2:=I hx2
  have HOX2:=I (And.intro hX2 hY2)
  have HO2:=I (zk hk2x.typ).2
  have HR2:=I (fun z (hz:Below w.heap.size w z)=>zc hr2y hz hbb)
  clear hl2x hr2x hk2x hr2y hX2 hY2 hx2
  clear hc h2 hbb
  have HD15:Hid (ownT E 15 s v ns [ta,tb,tc]= match joinT tb tc with|some t=>if kT ta= 1 then Except.ok t else Except.error 6|none=>(Except.error 6:Except Int TT)):=I rfl
  by_cases k1:x0= 1
  ·subst k1
   have HFN:Hid (joinT tb tc= none->ownT E 15 s v ns [ta,tb,tc]= .error 6):=I fun h=>by rw[HD15.o,h]
   have HFY:Hid (∀ t,joinT tb tc= some t->ownT E 15 s v ns [ta,tb,tc]= .ok t):=I fun t h=>by rw[HD15.o,h];exact if_pos HE0.o
   have HJC:Hid (∀ z,Below w.heap.size w z->Calls Tryz.prog 112 #[.agg ⟨[.int .i64 x1,X1,Y1]⟩,.agg ⟨[.int .i64 x2,X2,Y2]⟩] z (JPost p (joinT tb tc) z)):=I fun z hz=>z2I tb tc (HAR.o.oks tb (by simp)).1 (HAR.o.oks tc (by simp)).1 (HST.o tb (by simp)) (HST.o tc (by simp)) p [.int .i64 x1,X1,Y1] [.int .i64 x2,X2,Y2] z (fun b hb=>Nat.lt_of_lt_of_le (HAR.o.lo b hb) hz.size) (HK1.o.next hz) (HK2.o.next hz)
   have HU0:Hid (W.rangeAt b3 o3 [.int .i64 1,X0,Y0]):=I (HR0.o W HBL.o)
   go_upto_region 10 with (first|((with_reducible refine za 41 _ rfl ?_ (b3) (o3) ([.int .i64 1,X0,Y0]) _ rfl HU0.o Tryz.underlying41 rfl ?_ ?_);(exact wA rfl);rw[HL0.o];kernel_rfl)|(go_at_call 149;refine(tone1 1 1 X0 Y0 W HOX0.o.1 HOX0.o.2).mono ?_;rintro e z0 ⟨rfl,hb⟩;have HWZ:=I hb;clear hb)|(go_at_call 109;refine(z0k 6 _).mono ?_;rintro e z9 ⟨rfl,hzw⟩;rw[hzw];clear hzw z9))
   clear e0 e1
   have hs:Below w.heap.size w z0.drew/\z0.drew.cell? ⟨w.heap.size,0,none⟩= some (.pointer (some ⟨b,o,none⟩)):=⟨(HCW.o _ HWZ.o).drew,HPT.o _ HWZ.o.drew⟩
   refine zr [(0,true),(1,true),(2,true),(3,true),(4,true),(5,true),(6,false),(7,false)] (fun z=>Below w.heap.size w z/\z.cell? ⟨w.heap.size,0,none⟩= some (.pointer (some ⟨b,o,none⟩))) (by kernel_rfl) (by kernel_rfl) (by kernel_rfl) rfl (by intro c a d v w h;cases d<;>exact h) ?_
   refine zh (some 51) (.slice (some ⟨b3,o3,none⟩) [ta,tb,tc].length c) _ _ rfl rfl rfl (by exact wA rfl) hs rfl ?_
   go_frame
   refine z8 (some 52) (.pointer (some ⟨b3,o3+3,none⟩)) _ rfl rfl (by exact wA rfl) hs (fun z hz=>by go_simp) ?_
   go_frame
   refine z8 (some 53) (.agg ⟨[.int .i64 x1,X1,Y1]⟩) _ rfl rfl (by exact wA rfl) hs (fun z hz=>zt 41 rfl (b3) (o3+3) ([.int .i64 x1,X1,Y1]) _ rfl (HR1.o z hz.1) Tryz.underlying41 rfl (by rw[HL1.o];kernel_rfl)) ?_
   go_frame
   refine zh (some 54) (.slice (some ⟨b3,o3,none⟩) [ta,tb,tc].length c) _ _ rfl rfl rfl (by exact wA rfl) hs rfl ?_
   go_frame
   refine z8 (some 55) (.pointer (some ⟨b3,o3+6,none⟩)) _ rfl rfl (by exact wA rfl) hs (fun z hz=>by go_simp) ?_
   go_frame
   refine z8 (some 56) (.agg ⟨[.int .i64 x2,X2,Y2]⟩) _ rfl rfl (by exact wA rfl) hs (fun z hz=>zt 41 rfl (b3) (o3+6) ([.int .i64 x2,X2,Y2]) _ rfl (HR2.o z hz.1) Tryz.underlying41 rfl (by rw[HL2.o];kernel_rfl)) ?_
   go_frame
   refine z4o (some 57) 112 Tryz.func112 (by kernel_rfl) (by kernel_rfl) [.agg ⟨[.int .i64 x1,X1,Y1]⟩,.agg ⟨[.int .i64 x2,X2,Y2]⟩] _ _ _ rfl rfl rfl (by exact wA rfl) rfl ?_
   refine(HJC.o _ hs.1).mono ?_
   rintro e u6 (⟨tn,cn,htn,rfl,hkn,hbn⟩|⟨htn,rfl,hbn⟩)
   case inr=>
    have HF:=HFN.o htn
    refine .inr ⟨_,rfl,rfl,TQ.no HF (by decide) ((HCW.o _ HWZ.o).drew.trans (hbn.mono (HCW.o _ HWZ.o).size))⟩
   have HF:=I (HFY.o tn htn)
   clear htn
   have HKN:=I hkn
   have HLN:=I (zk hkn.typ).1
   have HON:=I (zk hkn.typ).2
   have HZU:Hid (Below W.heap.size W u6):=I ((HWZ.o.trans ((Below.refl _ _).drew.mono HWZ.o.size)).trans (hbn.mono (Nat.le_trans HWZ.o.size (Nat.le_refl _))))
   clear hkn hbn
   refine .inl ⟨_,rfl,⟨HCW.o _ HZU.o,HPT.o _ HZU.o⟩,?_⟩
   go_frame
   refine z1C none 41 _ _ _ rfl rfl rfl (by exact wA rfl) (w.heap.size+1) zT3 cn (HRK.o _ HZU.o) (by rw[HLN.o];rfl) rfl rfl (by rw[HLN.o];kernel_rfl) HON.o ?_
   intro wf hwf hbf
   have HBF:Hid (Below w.heap.size w wf):=I ((HCW.o _ HZU.o).trans (hbf.below (HCW.o _ HZU.o).size (by omega) (by omega)))
   have HZZ:=I hwf
   have HPF:Hid (wf.cell? ⟨w.heap.size,0,none⟩= some (.pointer (some ⟨b,o,none⟩))):=I ((World.cell?_of_block (a:=⟨w.heap.size,0,none⟩) (hbf.block w.heap.size (Nat.lt_of_lt_of_le HXB.o.lt HZU.o.size) (by omega) (by omega))).trans (HPT.o _ HZU.o))
   have HKF:Hid (KeptT (fun b=>p b\/w.heap.size<=b) wf cn tn):=I (HKN.o.to (fun b h1 h2=>⟨h1.imp id fun h=>Nat.le_trans (HCW.o _ HWZ.o).size h,hbf.block b h2 (fun e=>by
    rcases h1 with h|h
    ·have:=HAR.o.lo b h;omega
    ·have h3:=HRL.o;have h4:=HWZ.o.size;have h5:z0.heap.size<=b:=h;omega) (fun e=>by
    rcases h1 with h|h
    ·have:=HAR.o.lo b h;omega
    ·have h3:=HRL.o;have h4:=HWZ.o.size;have h5:z0.heap.size<=b:=h;omega)⟩) hbf.size)
   clear hwf hbf
   refine⟨⟨HBF.o,HPF.o⟩,?_⟩
   go_frame
   refine zF ?_
   go_wp2
   (try simp only[Exit.inBlock,Exit.then])
   refine bodyPost_ret (zK rfl _ _ (w.heap.size+1) (cn) HLN.o rfl HZZ.o) rfl ?_
   exact TQ.ok HF.o HKF.o HBF.o
  ·have q1:(x0 ==1)= false:=by rw[beq_eq_false_iff_ne];exact k1
   have HF:Hid (ownT E 15 s v ns [ta,tb,tc]= .error 6):=I (by
    rw[HD15.o]
    cases joinT tb tc with
    |none=>rfl
    |some t=>exact if_neg (fun h=>k1 (HE0.o.symm.trans h)))
   have HU0:Hid (W.rangeAt b3 o3 [.int .i64 x0,X0,Y0]):=I (HR0.o W HBL.o)
   go_wp2_with (first|((with_reducible refine za 41 _ rfl ?_ (b3) (o3) ([.int .i64 x0,X0,Y0]) _ rfl HU0.o Tryz.underlying41 rfl ?_ ?_);(exact wA rfl);rw[HL0.o];kernel_rfl)|(go_at_call 149;refine(tone1 x0 1 X0 Y0 W HOX0.o.1 HOX0.o.2).mono ?_;rintro e z0 ⟨rfl,hb⟩;have HBz0:=I hb;clear hb)|(go_at_call 109;refine(z02 6 _).mono ?_;rintro e z9 ⟨rfl,hzw⟩;rw[hzw];clear hzw z9))
   exact⟨rfl,TQ.no HF.o (by decide) (HCW.o _ HBz0.o)⟩
 ·rcases hk with rfl|rfl
  ·obtain⟨A,c,rfl,h2⟩:=HAR.o.row.inv
   have hll:l.length<=1000:=HAR.o.llen
   have HIA:=I h2
   clear h2
   obtain⟨jt,hi,hy0,hy1,hy2⟩:=zX z1L
   have HT0:=I hi
   have HT1:=I hy0
   have HT2:=I hy1
   clear hi hy0 hy1 hy2
   go_upto_region 13 with (first|(go_at_call 146;refine(z1d 7 (zx 7 (by decide +kernel)) _).mono ?_;rintro e Y ⟨rfl,hb⟩;have HY:=I hb;clear hb)|((with_reducible refine zf 41 _ _ rfl rfl ?_ (Y.heap.size) zT3 (tyC 7 (.slice none 0 0) (.slice none 0 0)) ?_ ?_ ?_ ?_ ?_ ?_ ?_);(exact wA rfl);exact Whole.new Y zT3 41;rfl;rfl;rfl;kernel_rfl;exact zI _ _ _ _ _ _ _;intro X hz hb;have HWX:=I hz;have HXX:=I hb;clear hz hb))
   clear e0 e1
   have HXY:Hid (Below Y.heap.size Y X):=I ((zd Y (.cells zT3.toArray 41)).trans (HXX.o.below (zd Y (.cells zT3.toArray 41)).size (Nat.le_refl _) (Nat.le_refl _)))
   obtain⟨q,hq⟩:∃ q,Y.heap.size= q:=⟨_,rfl⟩
   have HQ:=I hq
   rw[hq] at HWX
   rw[hq]
   clear hq
   go_wp2
   go_loopg [63] l.length (fun g i u=>∃ (j:Nat) (cs:List Value) (t:TT),j+g= l.length/\i= .int .i64 j/\Whole 41 u q cs/\cs.length= 3/\(∀ x∈cs,x.oneCell'= true)/\KeptT (fun b=>(p b\/Y.heap.size<=b)/\b≠q) u cs t/\foldT (pT 7) (l.take j)= some t/\stT t= true/\Below Y.heap.size Y u)
   case atStart=>exact⟨0,_,pT 7,by omega,rfl,HWX.o,rfl,zI _ _ _ _ _ _ _,z0y (zx 7 (by decide +kernel)),by rw[List.take_zero,foldT],rfl,HXY.o⟩
   case round=>
    obtain⟨j,cs,t,hj,rfl,hw,hl,ho,hk,hf,hstt,hb⟩:=hrel
    have HWQ:=I hw
    have HCS:=I hl
    have HCO:=I ho
    have HKC:=I hk
    have HFO:=I hf
    have HSTT:=I hstt
    have HYV:=I hb
    clear hw hl ho hk hf hb hstt
    obtain⟨V,hV⟩:∃ z,z= wr:=⟨_,rfl⟩
    subst hV
    have HWV:Hid (Below W.heap.size W V):=I (HY.o.trans (HYV.o.mono HY.o.size))
    have HBW:Hid (Below w.heap.size w V):=I (HCW.o V HWV.o)
    have HRV:Hid (Whole 41 V (w.heap.size+1) zT3):=I (HRK.o V HWV.o)
    cases gk with
    |zero=>
     obtain rfl:j= l.length:=by omega
     have hge: ¬ ((l.length:Int) <(l.length:Int)):=by omega
     have HFF:Hid (foldT (pT 7) l= some t):=I (by have h:=HFO.o;rwa [List.take_length] at h)
     have HF:Hid (ownT E 16 s v ns l= .ok (.mk 5 [] [t])):=I (by show(match foldT (pT 7) l with|some t=>Except.ok (TT.mk 5 [] [t])|none=>(Except.error 6:Except Int TT))= _;rw[HFF.o])
     have HBV:=I (zd V (.cells ⟨cs⟩ 41))
     have HRB:Hid (Whole 41 (V.alloc (.cells ⟨cs⟩ 41)) (w.heap.size+1) zT3):=I (HRV.o.keep (HBV.o.block _ HRV.o.lt))
     have HWN:Hid (Whole 41 (V.alloc (.cells ⟨cs⟩ 41)) V.heap.size cs):=I (Whole.new V cs 41)
     have HLL:Hid (w.heap.size+1 < V.heap.size):=I HRV.o.lt
     have HGY:Hid (w.heap.size+1 < Y.heap.size/\w.heap.size<=V.heap.size):=I ⟨Nat.lt_of_lt_of_le HRL.o HY.o.size,HBW.o.size⟩
     go_wp2_with (first|((with_reducible refine za 41 _ rfl ?_ (q) (0) (cs) _ rfl HWQ.o.range Tryz.underlying41 rfl ?_ ?_);(exact wA rfl);rw[HCS.o];kernel_rfl)|((with_reducible refine z1u 39 _ rfl ?_ 41 jt _ cs ?_ Tryz.underlying39 HT0.o HT1.o ?_ ?_ ?_ ?_);(exact wA rfl);rfl;rw[HCS.o];exact HT2.o;rw[HCS.o];decide;rw[HCS.o];decide)|((with_reducible refine zf 41 _ _ rfl rfl ?_ (w.heap.size+1) (zT3) (tyC 5 (.slice none 0 0) (.slice (some ⟨V.heap.size,0,none⟩) 1 1)) HRB.o ?_ ?_ ?_ ?_ ?_ ?_);(exact wA rfl);rfl;rfl;rfl;kernel_rfl;exact(zI _ _ _ _ _ _ _);intro Z hz hb;have HZZ:=I hz;have HBZ:=I hb;clear hz hb))
     (try simp only[Exit.inBlock,Exit.then])
     refine bodyPost_ret (zK rfl _ _ (w.heap.size+1) (tyC 5 (.slice none 0 0) (.slice (some ⟨V.heap.size,0,none⟩) 1 1)) rfl rfl HZZ.o) rfl ?_
     refine TQ.ok HF.o ?_ ((HBW.o.trans (HBV.o.mono HBW.o.size)).trans (HBZ.o.below (Nat.le_trans HBW.o.size HBV.o.size) (by omega) (by omega)))
     refine zbN (q:=fun b=>p b\/w.heap.size<=b) (t:=t) ?_ (HWN.o.keep (HBZ.o.block _ HWN.o.lt (by have:=HLL.o;omega) (by have:=HLL.o;omega))) (.inr HGY.o.2)
     refine HKC.o.to (fun b h1 h2=>⟨h1.1.imp id fun h=>by have:=HGY.o;omega,?_⟩) (Nat.le_trans HBV.o.size HBZ.o.size)
     have hne:b≠w.heap.size+1:=fun e=>by
      have:=HGY.o
      rcases h1.1 with h|h
      ·have:=HAR.o.lo b h;omega
      ·omega
     exact(HBZ.o.block b (Nat.lt_of_lt_of_le h2 HBV.o.size) hne hne).trans (HBV.o.block b h2)
    |succ g=>
     have hlt:(j:Int) <(l.length:Int):=by omega
     have ilt:j < l.length:=by omega
     obtain⟨x,hx⟩:∃ x,l[j]?= some x:=⟨_,List.getElem?_eq_getElem ilt⟩
     obtain⟨b3,o3,rfl,hbb,hc⟩:=HIA.o (by omega)
     obtain⟨kx,hlx,hrx,hkx⟩:=hc j x hx
     have HX:=I hx
     have HLX:=I hlx
     have HOX:=I (zk hkx.typ).2
     have HKX:=I hkx
     have HRX:=I (zc hrx HBW.o hbb)
     clear hx hlx hrx hkx hc hbb
     go_upto_region 16 with (first|((with_reducible refine za 41 _ rfl ?_ (b3) (o3+j*3) (kx) _ rfl HRX.o Tryz.underlying41 rfl ?_ ?_);(exact wA rfl);rw[HLX.o];kernel_rfl)|((with_reducible refine zJ 41 _ _ rfl ?hwx22 V ?zz22 (kx) ?hwld22 ?hz22 ?hx22 ?hy22 ?hi22 ?h122 ?_);(case hwld22=>rfl);(case hx22=>rfl);(case hy22=>rfl);(case hwx22=>(exact wA rfl));(case hz22=>rw[HLX.o];rfl);(case hi22=>rw[HLX.o];kernel_rfl);(case h122=>exact HOX.o);intro Z1 hZ;have HX1:=I hZ;clear hZ))
     have HVZ:Hid (Below V.heap.size V Z1):=I HX1.o.below
     have HWZ1:=I (HWQ.o.keep (HVZ.o.block _ HWQ.o.lt))
     obtain⟨pp,hpp⟩:∃ pp:Nat->Prop,pp= fun b=>((p b\/Y.heap.size<=b)/\b≠q)/\b < Z1.heap.size:=⟨_,rfl⟩
     have HPP:Hid (∀ b,pp b->((p b\/Y.heap.size<=b)/\b≠q)/\b < Z1.heap.size):=I fun b hb=>by rw[hpp] at hb;exact hb
     have hk1:KeptT pp Z1 cs t:=HKC.o.to (fun b h1 h2=>⟨by rw[hpp];exact⟨h1,Nat.lt_of_lt_of_le h2 HVZ.o.size⟩,HVZ.o.block b h2⟩) HVZ.o.size
     have hk2:KeptT pp Z1 kx x:=(HKX.o.next (HBW.o.trans (HVZ.o.mono HBW.o.size))).to (fun b h1 h2=>⟨by rw[hpp];exact⟨⟨.inl h1,fun e=>by have:=HAR.o.lo b h1;have:=(HCW.o Y HY.o).size;have:=HQ.o;omega⟩,h2⟩,rfl⟩) (Nat.le_refl _)
     have hjt:jok t= true:=z6u (l:=l.take j) (t:=pT 7) rfl (fun y hy=>(HAR.o.oks y (List.mem_of_mem_take hy)).1) HFO.o
     have HJC:Hid (Calls Tryz.prog 112 #[.agg ⟨cs⟩,.agg ⟨kx⟩] Z1 (JPost pp (joinT t x) Z1)):=I (z2I t x hjt (HAR.o.oks x (List.mem_of_getElem? HX.o)).1 HSTT.o (HST.o x (List.mem_of_getElem? HX.o)) pp cs kx Z1 (fun b hb=>(HPP.o b hb).2) hk1 hk2)
     clear hk1 hk2 hjt hpp
     cases hj:joinT t x with
     |none=>
      have HFF:Hid (foldT (pT 7) l= none):=I (by
       have h:=z3c HFO.o HX.o
       rw[hj] at h
       exact z5Q h)
      have HF:Hid (ownT E 16 s v ns l= .error 6):=I (by show(match foldT (pT 7) l with|some t=>Except.ok (TT.mk 5 [] [t])|none=>(Except.error 6:Except Int TT))= _;rw[HFF.o])
      go_wp2_with (first|((with_reducible refine za 41 _ rfl ?_ (q) (0) (cs) _ rfl HWZ1.o.range Tryz.underlying41 rfl ?_ ?_);(exact wA rfl);rw[HCS.o];kernel_rfl)|((with_reducible refine za 41 _ rfl ?_ (V.heap.size) (0) (kx) _ rfl HX1.o.range Tryz.underlying41 rfl ?_ ?_);(exact wA rfl);rw[HLX.o];kernel_rfl)|(go_at_call 112;refine HJC.o.mono ?_;rintro e z he;obtain⟨rfl,hb⟩:=he.no hj;have HBJ:=I hb;clear hb he))
      exact⟨rfl,TQ.no HF.o (by decide) (HBW.o.trans ((HVZ.o.trans (HBJ.o.mono HVZ.o.size)).mono HBW.o.size))⟩
     |some tn=>
      have HFN:Hid (foldT (pT 7) (l.take (j+1))= some tn):=I (by rw[z3c HFO.o HX.o,hj])
      have HSN:Hid (stT tn= true):=I (zec t x tn HSTT.o (HST.o x (List.mem_of_getElem? HX.o)) hj)
      go_wp2_with (first|((with_reducible refine za 41 _ rfl ?_ (q) (0) (cs) _ rfl HWZ1.o.range Tryz.underlying41 rfl ?_ ?_);(exact wA rfl);rw[HCS.o];kernel_rfl)|((with_reducible refine za 41 _ rfl ?_ (V.heap.size) (0) (kx) _ rfl HX1.o.range Tryz.underlying41 rfl ?_ ?_);(exact wA rfl);rw[HLX.o];kernel_rfl)|(go_at_call 112;refine HJC.o.mono ?_;rintro e z he;obtain⟨cn,rfl,hkn,hb⟩:=he.yes hj;have HBJ:=I hb;have HKN:=I hkn;have HLN:=I (zk hkn.typ).1;have HON:=I (zk hkn.typ).2;have HWZ2:=I (HWZ1.o.keep (hb.block _ HWZ1.o.lt));clear hb he hkn)|((with_reducible refine zf 41 _ _ rfl rfl ?_ (q) (cs) (cn) HWZ2.o ?_ ?_ ?_ ?_ ?_ ?_);(exact wA rfl);rw[HLN.o,HCS.o];rfl;rfl;rw[HLN.o];kernel_rfl;exact HON.o;intro Z hz hb;have HZZ:=I hz;have HBZ:=I hb;clear hz hb))
      have HQV:Hid (q < Z1.heap.size):=I HWZ1.o.lt
      go_roundg g
      case measure=>omega
      case rel=>
       refine⟨j+1,cn,tn,by omega,by go_num,HZZ.o,HLN.o,HON.o,?_,HFN.o,HSN.o,(HYV.o.trans ((HVZ.o.trans (HBJ.o.mono HVZ.o.size)).mono HYV.o.size)).trans (HBZ.o.below (Nat.le_trans HYV.o.size (Nat.le_trans HVZ.o.size HBJ.o.size)) (Nat.le_of_eq HQ.o) (Nat.le_of_eq HQ.o))⟩
       refine HKN.o.to (fun b h1 h2=> ?_) HBZ.o.size
       have hne:b≠q:=by
        rcases h1 with h|h
        ·exact(HPP.o b h).1.2
        ·have:=HQV.o;omega
       refine⟨⟨?_,hne⟩,HBZ.o.block b h2 hne hne⟩
       rcases h1 with h|h
       ·exact(HPP.o b h).1.1
       ·exact .inr (Nat.le_trans (Nat.le_trans HYV.o.size HVZ.o.size) h)
  ·obtain⟨vn,hn8,hns⟩:∃ vn,ce[8]?= some vn/\SlAt (only w p) w.heap.size 1 StrR vn ns:=HC.o.2.2.2.2.2
   obtain⟨A,c,rfl,_⟩:=HAR.o.row.inv
   obtain⟨_,NA,nc,rfl,_⟩:=id hns
   have HNS:=I hns
   have e8:W.cell? ⟨b,o+8,none⟩= some (.slice NA ns.length nc):=HCE.o W HBL.o 8 _ hn8
   have HNL:Hid (ns.length<=1000):=I (HNM.o rfl)
   have HF:Hid (ownT E 17 s v ns l= .ok (.mk 6 ns l)):=I rfl
   have HCN:=I (z1l W (.slice NA ns.length nc) ns ((SlAt.cells HNS.o (fun a v hv=>(zp.1 hv).2) fun _ _ _ h=>h).below HBL.o (fun _ _ _ h=>h)|>.more HBL.o.size) (by have h1:=HNL.o;have h2:reachBytes= 140737488351232:=rfl;omega))
   have HRA:Hid (RowA p w (.slice A l.length c) l):=I HAR.o.row
   have HLL:=I HAR.o.llen
   clear hns hn8
   go_wp2_with (first|(go_at_call 130;refine(HCN.o).mono ?_;rintro e z ⟨nv,rfl,hb,hk⟩;have HBC:=I hb;obtain⟨-,Av,cv,rfl, -⟩:=id hk;have HKN:=I hk;have HRP:=I (HRK.o z hb);clear hb hk)|((with_reducible refine zf 41 _ _ rfl rfl ?_ (w.heap.size+1) (zT3) (tyC 6 (.slice Av ns.length cv) (.slice A l.length c)) HRP.o ?_ ?_ ?_ ?_ ?_ ?_);(exact wA rfl);rfl;rfl;rfl;kernel_rfl;exact(zI _ _ _ _ _ _ _);intro Z hz hb;have HZZ:=I hz;have HBZ:=I hb;clear hz hb))
   (try simp only[Exit.inBlock,Exit.then])
   refine bodyPost_ret (zK rfl _ _ (w.heap.size+1) (tyC 6 (.slice Av ns.length cv) (.slice A l.length c)) rfl rfl HZZ.o) rfl ?_
   have hbc:=HCW.o z HBC.o
   have hrl:=HRL.o
   refine TQ.ok HF.o (z2y (zx 6 (by decide +kernel)) (HKN.o.to (fun b h1 h2=>⟨.inr (Nat.le_trans HBL.o.size h1),HBZ.o.block b h2 (by omega) (by omega)⟩) HBZ.o.size) (Nat.le_trans HLL.o (by unfold maxLen;omega)) ?_) (hbc.trans (HBZ.o.below hbc.size (by omega) (by omega)))
   exact HRA.o.to (fun b h1 h2=>⟨.inl h1,(HBZ.o.block b (Nat.lt_of_lt_of_le h2 hbc.size) (by have:=HAR.o.lo b h1;omega) (by have:=HAR.o.lo b h1;omega)).trans (hbc.block b h2)⟩) (Nat.le_trans hbc.size HBZ.o.size)
end
end Go.Proofs.YtdjfpcmlffekkaaGreatDoor
