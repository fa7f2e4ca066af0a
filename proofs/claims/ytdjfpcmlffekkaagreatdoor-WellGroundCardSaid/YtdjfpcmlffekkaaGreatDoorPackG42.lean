/- Parts of a proof: TUn, TCo. -/
import Derived.Deep.CutBlock
import Derived.Test.YtdjfpcmlffekkaaGreatDoorPackG27
import Derived.Test.YtdjfpcmlffekkaaGreatDoorPackG31
import Derived.Test.YtdjfpcmlffekkaaGreatDoorPackG34
import Derived.Test.YtdjfpcmlffekkaaGreatDoorPackG40
set_option maxHeartbeats 8000000
set_option maxRecDepth 100000
set_option linter.unusedVariables false
set_option linter.unusedSimpArgs false
theorem Go.Calls.k42 {P:Go.Program} {f:Go.FuncId} {args:Array Go.Value} {w:Go.World} {v:Go.Ending} {R:Go.World->Prop} {Q:Go.Ending->Go.World->Prop} (h:Go.Calls P f args w fun e w'=>e= v/\R w') (k:∀ w',Go.RowKit.Hid (R w')->Q v w'):Go.Calls P f args w Q:=Go.Proofs.YtdjfpcmlffekkaaGreatDoor.zi h k
theorem Go.Calls.e42 {P:Go.Program} {f:Go.FuncId} {args:Array Go.Value} {w:Go.World} {v:Go.Ending} {Q:Go.Ending->Go.World->Prop} (h:Go.Calls P f args w fun e w'=>e= v/\w'= w) (k:Q v w):Go.Calls P f args w Q:=Go.Proofs.YtdjfpcmlffekkaaGreatDoor.zd h k
namespace Go.Proofs.YtdjfpcmlffekkaaGreatDoor
section
open Go Go.RowKit
def TQ (p:Nat->Prop) (r:Except Int TT) (w:World) (e:Ending) (w':World):Prop:=
 (∃ t cs,r= .ok t/\e= .returned (.agg ⟨cs⟩)/\KeptT (fun b=>p b\/w.heap.size<=b) w' cs t/\Below w.heap.size w w')\/(∃ m n,r= .error m/\n≠0/\e= panE n/\Below w.heap.size w w')
theorem TQ.from {p:Nat->Prop} {r:Except Int TT} {w w1:World} {e:Ending} {w':World} (hb:Below w.heap.size w w1) (h:TQ p r w1 e w'):TQ p r w e w':=by
 rcases h with ⟨t,cs,C,A,F,g⟩|⟨m,n,C,G,A,g⟩
 ·exact .inl ⟨t,cs,C,A,F.to (fun b h1 h2=>⟨h1.imp id fun h=>Nat.le_trans hb.size h,rfl⟩) (Nat.le_refl _),(beT hb g)⟩
 ·exact .inr ⟨m,n,C,G,A,(beT hb g)⟩
def unW (k:Int):List Int:=if k= 3 then[2,3] else if k= 20 then[5,4] else if k= 21 then[2] else if k= 22 then[3] else if k= 23 then[1,2,3,4] else[1]
def unO (k:Int) (t:TT):TT:=if k= 20 then pT 2 else if k= 21 then pT 3 else if k= 22 then pT 2 else if k= 23 then pT 4 else t
theorem zf3 {E:List VarT} {k:Int} {s:ByteArray} {v:VT} {ns:List ByteArray} {t:TT} (hk:k= 3\/k= 4\/k= 20\/k= 21\/k= 22\/k= 23):
  ownT E k s v ns [t]= if(unW k).contains (kT t)= true then .ok (unO k t) else .error 6:=by
 rcases hk with rfl|rfl|rfl|rfl|rfl|rfl<;>simp[ownT,unW,unO]
theorem z9r {ta tb t:TT} (h:joinT ta tb= some t) (h1:kT ta≠7) (h2:kT tb≠7):kT ta= kT tb:=by
 cases ta
 cases tb
 rw[joinT] at h;simp only[kT] at*;rw[if_neg h1,if_neg h2] at h;apply Classical.byContradiction;intro hne;rw[if_pos (.inl hne)] at h;cases h
def biW (k:Int):List Int:=if k= 5 then[2,3,4,5] else if k= 6\/k= 7\/k= 8 then[2,3] else if k= 9 then[2] else if k= 11\/k= 12 then[2,3,4] else[1]
theorem zdJ {k:Int} {ta tb:TT} (ha:lf ta) (hb:lf tb) (hj:joinT ta tb= none) (hk:5<=k/\k<=14):∃ m,pairT k ta tb= .error m:=by
 have g:∀ m,(m= 1\/m= 2\/m= 3\/m= 4)->¬ (kT ta= m/\kT tb= m):=fun m hm h=>by rw[z8O ha hb h.1 h.2 hm] at hj;cases hj
 have n1:=g 1 (by simp);have n2:=g 2 (by simp);have n3:=g 3 (by simp);have n4:=g 4 (by simp);refine⟨6,?_⟩;unfold pairT;simp only[hj];by_cases k5:k= 5
 ·rw[if_pos k5]
 rw[if_neg k5];by_cases k6:k= 6\/k= 7\/k= 8
 ·rw[if_pos k6,if_neg (fun h=>h.elim n2 n3)]
 rw[if_neg k6];by_cases k9:k= 9
 ·rw[if_pos k9,if_neg n2]
 rw[if_neg k9];by_cases k10:k= 10
 ·rw[if_pos k10,if_neg (by simp)]
 rw[if_neg k10];by_cases k11:k= 11\/k= 12
 ·rw[if_pos k11,if_neg (fun h=>h.elim (fun h=>h.elim n2 n3) n4)]
 rw[if_neg k11];by_cases k13:k= 13\/k= 14
 ·rw[if_pos k13,if_neg n1]
 rw[if_neg k13]
theorem zdK {k:Int} {ta tb t:TT} (ha:lf ta) (hb:lf tb) (hj:joinT ta tb= some t) (hk:5<=k/\k<=14) (h10:k≠10):
  pairT k ta tb= if((biW k).contains (kT ta) && (biW k).contains (kT tb))= true then .ok (if k= 11\/k= 12 then pT 1 else t) else .error 6:=by
 have J:∀ m,(m= 1\/m= 2\/m= 3\/m= 4)->kT ta= m->kT tb= m->t= pT m:=fun m hm h1 h2=>by
  have:=z8O ha hb h1 h2 hm;rw[hj] at this;injection this
 have K:=z9r hj;have C:=J 1 (by simp);have F:=J 2 (by simp);have G:=J 3 (by simp);have N:=J 4 (by simp);clear J;have g:k= 5\/k= 6\/k= 7\/k= 8\/k= 9\/k= 11\/k= 12\/k= 13\/k= 14:=by omega
 unfold pairT;rw[hj];dsimp only;generalize kT ta= x at*;generalize kT tb= y at*;have A:∀ z:Int,z= 1\/z= 2\/z= 3\/z= 4\/z= 5\/(z≠1/\z≠2/\z≠3/\z≠4/\z≠5):=fun z=>by omega
 clear hj ha hb hk h10;rcases A x with rfl|rfl|rfl|rfl|rfl|⟨x1,x2,x3,x4,x5⟩;case inr.inr.inr.inr.inr=>rcases g with rfl|rfl|rfl|rfl|rfl|rfl|rfl|rfl|rfl<;>simp[biW,x1,x2,x3,x4,x5]
 all_goals
  rcases A y with rfl|rfl|rfl|rfl|rfl|⟨y1,y2,y3,y4,y5⟩;case inr.inr.inr.inr.inr=>rcases g with rfl|rfl|rfl|rfl|rfl|rfl|rfl|rfl|rfl<;>simp[biW,y1,y2,y3,y4,y5]
  all_goals
   first
    |(simp at K;done)
    |((try (have:=C rfl rfl;subst this));(try (have:=F rfl rfl;subst this));(try (have:=G rfl rfl;subst this));(try (have:=N rfl rfl;subst this));rcases g with rfl|rfl|rfl|rfl|rfl|rfl|rfl|rfl|rfl<;>simp[biW])
theorem zet (k:Int):(unW k).length<=10000:=by
 unfold unW
 repeat' split
 all_goals decide
theorem z05 {u:World} {b:Nat} {l:List Int} {T:TypeId} (h:Whole T u b (l.map (Value.int .i64))) (hl:l.length<=10000):IntsAt u u.heap.size (.slice (some ⟨b,0,none⟩) l.length l.length) l:=
 ⟨by omega,_,_,rfl,fun h0=>⟨b,0,rfl,h.lt,fun i x hx=>h.range i _ (by rw[List.getElem?_map,hx];rfl)⟩⟩
section
variable {P:Program} {o:Oper} {a:Act} {w:World}
theorem z6a (t:TypeId) (n:Int) (ho:o.op= .buildSlice t 1 #[(0,.const (.int .i64 n))]) (e:TypeId) (i:TypeInfo) (z:Value)
  (ht:P.underlying t= some (.slice e)) (hi:P.info? e= some i) (hz:i.zero= some z) (hsz:i.size= 1):(execOp a.eval o).run P w= .ok (.value (.slice (some ⟨w.heap.size,0,none⟩) 1 1)) (w.alloc (.cells ⟨[.int .i64 n]⟩ e)):=by
 have C:(Instr.buildSlice t 1 #[(0,.int .i64 n)]).run P w= .ok (.slice (some ⟨w.heap.size,0,none⟩) 1 1) (w.alloc (.cells ⟨[.int .i64 n]⟩ e)):=by
  have F:(sizeOf e).run P w= .ok 1 w:=by simp[sizeOf,typeInfo,hi,hsz]
  have g:(zeroValue e).run P w= .ok z w:=by simp[zeroValue,typeInfo,hi,hz]
  have A:∀ cells:Array Value,cells.size= 1->Instr.fill (fun i=>some (i*1,1)) cells [(0,.int .i64 n)]= some #[.int .i64 n]:=fun cells hc=>z7c 1 [.int .i64 n] cells rfl hc;unfold Instr.buildSlice;simp only[Sem.run_bind,run_underlying ht,Result.andThen_ok,F,Nat.one_mul];rw[if_neg (by omega),if_neg (by omega)];simp only[Sem.run_bind,Sem.run_pure,Result.andThen_ok,g];rw[A _ (by simp)];simp[newRow]
 unfold execOp;simp only[ho,List.map_toArray,List.map_cons,List.map_nil,Act.eval,Sem.run_bind,Sem.run_pure,Result.andThen_ok,C]
end
theorem zaI:(Tryz.prog.info? 3).map (fun i=>(i.zero,i.size,i.bytes))= some (some (.int .i64 0),1,8):=by kernel_rfl
theorem z9Q (p:Nat->Prop) (k:Int) (t:TT) (ct:List Value) (w:World) (E:List VarT) (s:ByteArray) (v:VT) (ns:List ByteArray) (hk:k= 3\/k= 4\/k= 20\/k= 21\/k= 22\/k= 23) (h:KeptT p w ct t) (hp:∀ b,p b->b < w.heap.size):
  Calls Tryz.prog 151 #[.int .i64 k,.agg ⟨ct⟩] w (TQ p (ownT E k s v ns [t]) w):=by
 have a7:=I (zf3 (E:=E) (s:=s) (v:=v) (ns:=ns) (t:=t) hk);generalize ownT E k s v ns [t]= res at a7 ⊢;cases t with
 |mk ka na ia=>
 have HK:=I h;have HP:=I hp;obtain⟨NA,nc,A,c,rfl,_⟩:=h.inv;clear h hp;go_enter Tryz.func151,Tryz.ntmps151;go_upto_region 1 with (fail);have f3:(#[Value.int IntKind.i64 0,Value.slice none 0 0,Value.slice none 0 0]:Array Value)= zT3.toArray:=rfl;rw[f3];clear f3;have g0:=zc w (.cells ⟨[.int .i64 ka,.slice NA na.length nc,.slice A ia.length c]⟩ 41);have h0:=Whole.new w ([.int .i64 ka,.slice NA na.length nc,.slice A ia.length c]:List Value) 41;have s0:(w.alloc (.cells ⟨[.int .i64 ka,.slice NA na.length nc,.slice A ia.length c]⟩ 41)).heap.size= w.heap.size+1:=by simp
 generalize w.alloc (.cells ⟨[.int .i64 ka,.slice NA na.length nc,.slice A ia.length c]⟩ 41)= W0 at*;have g1:=zc W0 (.cells zT3.toArray 41);have h1:=Whole.new W0 (zT3:List Value) 41;have s1:(W0.alloc (.cells zT3.toArray 41)).heap.size= w.heap.size+1+1:=by simp[s0]
 generalize W0.alloc (.cells zT3.toArray 41)= W1 at*;rw[s0] at h1
 (try rw[s0])
 have HX:=I (h0.keep (g1.block _ (by omega)));have c5:=I h1;have a6:=I (beT g0 g1);clear g0 g1 h0 h1 s0 s1;obtain⟨W,hW⟩:∃ z,z= W1:=⟨_,rfl⟩;subst hW;obtain⟨jt,hi,f2,g4,g5⟩:=zX z1F;have d7:=I hi;have d8:=I f2;obtain⟨ji,e2,f0,f1,g3⟩:=zX zaI;have d2:=I e2;have d3:=I f0;have d4:=I f1;clear hi f2 g4 g5 e2 f0 f1 g3;have c4:Hid (([.int .i64 ka,.slice NA na.length nc,.slice A ia.length c]:List Value).length= 3):=I rfl;have c7:Hid (∀ z,Below W.heap.size W z->z.rangeAt w.heap.size 0 [.int .i64 ka,.slice NA na.length nc,.slice A ia.length c]):=I fun z hz=>(HX.o.keep (hz.block _ HX.o.lt)).range;have G:Below W.heap.size W W.drew:=(Below.refl _ _).drew;go_cut [5,6] (fun v5 v6 z=>∃ q,v6= .pointer (some ⟨q,0,none⟩)/\IntsAt z z.heap.size v5 [1]/\W.heap.size<=q/\Whole 41 z q [.int .i64 ka,.slice NA na.length nc,.slice A ia.length c]/\Below W.heap.size W z);case first=>
  refine z1K (.take 1 (.two 0 2 (.act 2 (.take 3 (.act 4 .done))) (.act 0 (.take 3 (.act 4 .done))))) (fun z=>Below W.heap.size W z) (by kernel_rfl) (by kernel_rfl) (by kernel_rfl) rfl (by intro c a d v w h;cases d<;>exact h) ?_;refine zO 8 (.agg ⟨[.int .i64 ka,.slice NA na.length nc,.slice A ia.length c]⟩) rfl rfl rfl G (fun z hz=>zt 41 rfl (w.heap.size) (0) ([.int .i64 ka,.slice NA na.length nc,.slice A ia.length c]) _ rfl (c7.o z hz) Tryz.underlying41 rfl (by rw[c4.o];kernel_rfl)) ?_;go_frame;refine z3j ?_ ?_
  ·refine z0G (some 7) (.slice (some ⟨W.drew.heap.size,0,none⟩) 1 1) (W.drew.alloc (.cells ⟨[.int .i64 1]⟩ 3)) _ rfl rfl (by exact wA rfl) (z6a 47 1 rfl 3 ji _ Tryz.underlying47 d2.o d3.o d4.o) (G.trans ((zc W.drew _).mono G.size)) ?_
   go_frame;have a8:=zc W.drew (.cells ⟨[.int .i64 1]⟩ 3);have a5:Whole 3 (W.drew.alloc (.cells ⟨[.int .i64 1]⟩ 3)) W.drew.heap.size [.int .i64 1]:=Whole.new W.drew _ _;have G:Below W.heap.size W (W.drew.alloc (.cells ⟨[.int .i64 1]⟩ 3)):=(beT G a8);generalize W.drew.alloc (.cells ⟨[.int .i64 1]⟩ 3)= w1 at*;refine z0G (some 6) (.pointer (some ⟨w1.heap.size,0,none⟩)) (w1.alloc (.cells zT3.toArray 41)) _ rfl rfl (by exact wA rfl) (z16 41 rfl _ _ d7.o d8.o) (G.trans ((zc w1 _).mono G.size)) ?_;go_frame;have X:=zc w1 (.cells zT3.toArray 41);have b3:Whole 41 (w1.alloc (.cells zT3.toArray 41)) w1.heap.size zT3:=Whole.new w1 zT3 41;have b1:W.heap.size<=w1.heap.size:=G.size;have G:Below W.heap.size W (w1.alloc (.cells zT3.toArray 41)):=(beT G X);generalize w1.alloc (.cells zT3.toArray 41)= w2 at*;refine z1P (some 5) (.slice (some ⟨W.drew.heap.size,0,none⟩) 1 1) _ _ rfl rfl rfl (by exact wA rfl) G rfl ?_;go_frame;refine z0C none 41 _ _ _ rfl rfl rfl (by exact wA rfl) (w1.heap.size) zT3 ([.int .i64 ka,.slice NA na.length nc,.slice A ia.length c]) b3 rfl rfl rfl (by kernel_rfl) (zJ _ _ _ _ _ _ _) ?_;intro w3 b4 a1;have G:Below W.heap.size W w3:=G.trans (a1.below G.size b1 b1);refine⟨G,?_⟩;go_frame;have hd:W.drew.heap.size < w1.heap.size:=a5.lt;have c9:=(a5.keep (X.block _ a5.lt)).keep (a1.block _ (Nat.lt_of_lt_of_le a5.lt X.size) (by omega) (by omega));refine z1I ?_;go_wp2;go_meet;case rel=>exact⟨w1.heap.size,rfl,z05 (l:=[1]) (c9) (by decide),b1,b4,G⟩
  ·refine z0G (some 6) (.pointer (some ⟨W.drew.heap.size,0,none⟩)) (W.drew.alloc (.cells zT3.toArray 41)) _ rfl rfl (by exact wA rfl) (z16 41 rfl _ _ d7.o d8.o) (G.trans ((zc W.drew _).mono G.size)) ?_
   go_frame;have a8:=zc W.drew (.cells zT3.toArray 41);have b2:Whole 41 (W.drew.alloc (.cells zT3.toArray 41)) W.drew.heap.size zT3:=Whole.new W.drew zT3 41;have b0:W.heap.size<=W.drew.heap.size:=G.size;have G:Below W.heap.size W (W.drew.alloc (.cells zT3.toArray 41)):=(beT G a8);generalize W.drew.alloc (.cells zT3.toArray 41)= w1 at*;refine z0G (some 7) (.slice (some ⟨w1.heap.size,0,none⟩) 1 1) (w1.alloc (.cells ⟨[.int .i64 1]⟩ 3)) _ rfl rfl (by exact wA rfl) (z6a 47 1 rfl 3 ji _ Tryz.underlying47 d2.o d3.o d4.o) (G.trans ((zc w1 _).mono G.size)) ?_;go_frame;have X:=zc w1 (.cells ⟨[.int .i64 1]⟩ 3);have b8:Whole 3 (w1.alloc (.cells ⟨[.int .i64 1]⟩ 3)) w1.heap.size [.int .i64 1]:=Whole.new w1 _ _;have G:Below W.heap.size W (w1.alloc (.cells ⟨[.int .i64 1]⟩ 3)):=(beT G X);generalize w1.alloc (.cells ⟨[.int .i64 1]⟩ 3)= w2 at*;refine z1P (some 5) (.slice (some ⟨w1.heap.size,0,none⟩) 1 1) _ _ rfl rfl rfl (by exact wA rfl) G rfl ?_;go_frame;have hd:W.drew.heap.size < w1.heap.size:=b2.lt;have b3:=b2.keep (X.block _ b2.lt);refine z0C none 41 _ _ _ rfl rfl rfl (by exact wA rfl) (W.drew.heap.size) zT3 ([.int .i64 ka,.slice NA na.length nc,.slice A ia.length c]) b3 rfl rfl rfl (by kernel_rfl) (zJ _ _ _ _ _ _ _) ?_;intro w3 b4 a1;have G:Below W.heap.size W w3:=G.trans (a1.below G.size b0 b0);refine⟨G,?_⟩;go_frame;have c9:=b8.keep (a1.block _ b8.lt (by omega) (by omega));refine z1I ?_;go_wp2;go_meet;case rel=>exact⟨W.drew.heap.size,rfl,z05 (l:=[1]) (c9) (by decide),b0,b4,G⟩
 case rest=>
 obtain⟨q,rfl,b7,hq,e9,e1⟩:=hcut;obtain⟨U,hU⟩:∃ z,z= wc:=⟨_,rfl⟩;subst hU;have HQ:=I e9;have C:=I e1;have Y:=I hq;have f5:=I b7;clear b7 hq e9 e1;go_upto_block 0 with (fail);go_cut [5] (fun v5 z=>∃ co,Whole 41 z q co/\co.length= 3/\(∀ u∈co,u.oneCell'= true)/\KeptT (fun b=>(p b\/W.heap.size<=b)/\b≠q) z co (unO k (.mk ka na ia))/\IntsAt z z.heap.size v5 (unW k)/\Below W.heap.size W z);case first=>
  have d5:Hid (KeptT (fun b=>(p b\/W.heap.size<=b)/\b≠q) U [.int .i64 ka,.slice NA na.length nc,.slice A ia.length c] (.mk ka na ia)):=I (HK.o.to (fun b h1 h2=>⟨⟨.inl h1,fun e=>by have:=HP.o b h1;have:=Y.o;have:=a6.o.size;omega⟩,(C.o.block b (Nat.lt_of_lt_of_le h2 a6.o.size)).trans (a6.o.block b h2)⟩) (Nat.le_trans a6.o.size C.o.size));rcases hk with rfl|rfl|rfl|rfl|rfl|rfl
  ·go_wp2
   go_meet;case rel=>exact⟨_,HQ.o.keep ((zc U _).block _ HQ.o.lt),rfl,zJ _ _ _ _ _ _ _,d5.o.next (zc U _),z05 (l:=[2,3]) (Whole.new U [.int .i64 2,.int .i64 3] 3) (by decide),C.o.trans ((zc U _).mono C.o.size)⟩
  ·go_wp2
   go_meet;case rel=>exact⟨_,HQ.o,rfl,zJ _ _ _ _ _ _ _,d5.o,f5.o,C.o⟩
  ·go_wp2_with (first|(go_at_call 146;refine(z18 2 (zB 2 (by decide +kernel)) _).mono ?_;rintro e z1 ⟨rfl,O⟩;have g:=I O;have a4:=I (HQ.o.keep (((zc _ _).trans (O.mono (zc _ _).size)).block _ HQ.o.lt));clear O)|((with_reducible refine zg 41 _ _ rfl rfl ?_ a4.o (tyC 2 (.slice none 0 0) (.slice none 0 0)) ?_ ?_ ?_ ?_ ?_ ?_);exact wA rfl;rfl;rfl;rfl;kernel_rfl;exact(zJ _ _ _ _ _ _ _);intro Z a0 F))
   have K:Hid (Whole 3 (U.alloc (.cells ⟨[.int .i64 5,.int .i64 4]⟩ 3)) U.heap.size [.int .i64 5,.int .i64 4]):=I (Whole.new U _ _);have N:Hid (Whole 3 z1 U.heap.size [.int .i64 5,.int .i64 4]):=I (K.o.keep (g.o.block _ K.o.lt));have d0:=HQ.o.lt;go_meet;case rel=>exact⟨_,a0.o,rfl,zJ _ _ _ _ _ _ _,z0A (zB 2 (by decide +kernel)),z05 (l:=[5,4]) (N.o.keep (F.o.block _ N.o.lt (by omega) (by omega))) (by decide),(C.o.trans (((zc U _).trans (g.o.mono (zc U _).size)).mono C.o.size)).trans (F.o.below (Nat.le_trans C.o.size (Nat.le_trans (zc U _).size g.o.size)) Y.o Y.o)⟩
  ·go_wp2_with (first|(go_at_call 146;refine(z18 3 (zB 3 (by decide +kernel)) _).mono ?_;rintro e z1 ⟨rfl,O⟩;have g:=I O;have a4:=I (HQ.o.keep (((zc _ _).trans (O.mono (zc _ _).size)).block _ HQ.o.lt));clear O)|((with_reducible refine zg 41 _ _ rfl rfl ?_ a4.o (tyC 3 (.slice none 0 0) (.slice none 0 0)) ?_ ?_ ?_ ?_ ?_ ?_);exact wA rfl;rfl;rfl;rfl;kernel_rfl;exact(zJ _ _ _ _ _ _ _);intro Z a0 F))
   have K:Hid (Whole 3 (U.alloc (.cells ⟨[.int .i64 2]⟩ 3)) U.heap.size [.int .i64 2]):=I (Whole.new U _ _);have N:Hid (Whole 3 z1 U.heap.size [.int .i64 2]):=I (K.o.keep (g.o.block _ K.o.lt));have d0:=HQ.o.lt;go_meet;case rel=>exact⟨_,a0.o,rfl,zJ _ _ _ _ _ _ _,z0A (zB 3 (by decide +kernel)),z05 (l:=[2]) (N.o.keep (F.o.block _ N.o.lt (by omega) (by omega))) (by decide),(C.o.trans (((zc U _).trans (g.o.mono (zc U _).size)).mono C.o.size)).trans (F.o.below (Nat.le_trans C.o.size (Nat.le_trans (zc U _).size g.o.size)) Y.o Y.o)⟩
  ·go_wp2_with (first|(go_at_call 146;refine(z18 2 (zB 2 (by decide +kernel)) _).mono ?_;rintro e z1 ⟨rfl,O⟩;have g:=I O;have a4:=I (HQ.o.keep (((zc _ _).trans (O.mono (zc _ _).size)).block _ HQ.o.lt));clear O)|((with_reducible refine zg 41 _ _ rfl rfl ?_ a4.o (tyC 2 (.slice none 0 0) (.slice none 0 0)) ?_ ?_ ?_ ?_ ?_ ?_);exact wA rfl;rfl;rfl;rfl;kernel_rfl;exact(zJ _ _ _ _ _ _ _);intro Z a0 F))
   have K:Hid (Whole 3 (U.alloc (.cells ⟨[.int .i64 3]⟩ 3)) U.heap.size [.int .i64 3]):=I (Whole.new U _ _);have N:Hid (Whole 3 z1 U.heap.size [.int .i64 3]):=I (K.o.keep (g.o.block _ K.o.lt));have d0:=HQ.o.lt;go_meet;case rel=>exact⟨_,a0.o,rfl,zJ _ _ _ _ _ _ _,z0A (zB 2 (by decide +kernel)),z05 (l:=[3]) (N.o.keep (F.o.block _ N.o.lt (by omega) (by omega))) (by decide),(C.o.trans (((zc U _).trans (g.o.mono (zc U _).size)).mono C.o.size)).trans (F.o.below (Nat.le_trans C.o.size (Nat.le_trans (zc U _).size g.o.size)) Y.o Y.o)⟩
  ·go_wp2_with (first|(go_at_call 146;refine(z18 4 (zB 4 (by decide +kernel)) _).mono ?_;rintro e z1 ⟨rfl,O⟩;have g:=I O;have a4:=I (HQ.o.keep (((zc _ _).trans (O.mono (zc _ _).size)).block _ HQ.o.lt));clear O)|((with_reducible refine zg 41 _ _ rfl rfl ?_ a4.o (tyC 4 (.slice none 0 0) (.slice none 0 0)) ?_ ?_ ?_ ?_ ?_ ?_);exact wA rfl;rfl;rfl;rfl;kernel_rfl;exact(zJ _ _ _ _ _ _ _);intro Z a0 F))
   have K:Hid (Whole 3 (U.alloc (.cells ⟨[.int .i64 1,.int .i64 2,.int .i64 3,.int .i64 4]⟩ 3)) U.heap.size [.int .i64 1,.int .i64 2,.int .i64 3,.int .i64 4]):=I (Whole.new U _ _);have N:Hid (Whole 3 z1 U.heap.size [.int .i64 1,.int .i64 2,.int .i64 3,.int .i64 4]):=I (K.o.keep (g.o.block _ K.o.lt));have d0:=HQ.o.lt;go_meet;case rel=>exact⟨_,a0.o,rfl,zJ _ _ _ _ _ _ _,z0A (zB 4 (by decide +kernel)),z05 (l:=[1,2,3,4]) (N.o.keep (F.o.block _ N.o.lt (by omega) (by omega))) (by decide),(C.o.trans (((zc U _).trans (g.o.mono (zc U _).size)).mono C.o.size)).trans (F.o.below (Nat.le_trans C.o.size (Nat.le_trans (zc U _).size g.o.size)) Y.o Y.o)⟩
 case rest=>
 obtain⟨co,e8,e6,e7,e5,e3,a9⟩:=hcut;obtain⟨V,hV⟩:∃ z,z= wc:=⟨_,rfl⟩;subst hV;have d9:=I e8;have b5:=I e6;have f7:=I e7;have f6:=I e5;have h4:=I a9;have c6:=I (z3i ka (.slice NA na.length nc) (.slice A ia.length c) _ (unW k) V rfl rfl e3 (zet k));have e0:Hid (V.rangeAt w.heap.size 0 [.int .i64 ka,.slice NA na.length nc,.slice A ia.length c]):=I (c7.o V a9);have b9:Hid (Below w.heap.size w V):=I (beT a6.o a9);have d6:=I (c5.o.keep (a9.block _ c5.o.lt));have f8:Hid (w.heap.size+1 < W.heap.size):=I c5.o.lt;clear e8 e6 e7 e5 e3 a9 c7;obtain⟨cb,c8⟩:∃ b,(unW k).contains ka= b:=⟨_,rfl⟩;rw[c8] at c6;have d1:=I c8;clear c8;cases cb with
 |false=>
  have HF:Hid (res= .error 6):=I (by rw[a7.o];exact if_neg (by show ¬ (unW k).contains ka= true;rw[d1.o];decide));go_wp2_with (first|((with_reducible refine za tyK41 _ rfl ?_ e0.o rfl c4.o ?_);exact wA rfl)|(go_at_call 149;refine(c6.o).k42 ?_;intro z a2)|(go_at_call 109;refine(z06 6 _).e42 ?_));exact⟨rfl,.inr ⟨6,6,HF.o,by decide,rfl,(beT b9.o a2.o)⟩⟩
 |true=>
  have HF:Hid (res= .ok (unO k (.mk ka na ia))):=I (by rw[a7.o];exact if_pos d1.o);go_wp2_with (first|((with_reducible refine za tyK41 _ rfl ?_ e0.o rfl c4.o ?_);exact wA rfl)|(go_at_call 149;refine(c6.o).mono ?_;rintro e z ⟨rfl,O⟩;have a2:=I O;have g2:=I (d9.o.keep (O.block _ d9.o.lt));have f9:=I (d6.o.keep (O.block _ d6.o.lt));clear O)|(go_at_call 109;refine(z0q 6 _).e42 ?_)|((with_reducible refine za tyK41 _ rfl ?_ g2.o.range rfl b5.o ?_);exact wA rfl)|((with_reducible refine zg 41 _ _ rfl rfl ?_ f9.o (co) ?_ ?_ ?_ ?_ ?_ ?_);exact wA rfl;rw[b5.o];rfl;rfl;rfl;rw[b5.o];kernel_rfl;exact f7.o;intro Z a0 F))
  (try simp only[Exit.inBlock,Exit.then])
  refine bodyPost_ret (zK rfl _ _ (w.heap.size+1) co b5.o rfl a0.o) rfl ?_;refine .inl ⟨_,co,HF.o,rfl,f6.o.to (fun b h1 h2=>⟨h1.1.imp id fun h=>Nat.le_trans a6.o.size h,?_⟩) (Nat.le_trans a2.o.size F.o.size),(beT b9.o a2.o).trans (F.o.below (Nat.le_trans b9.o.size a2.o.size) (by omega) (by omega))⟩;have i0:=f8.o;have e4:b≠w.heap.size+1:=fun e=>by
   rcases h1.1 with h|h
   ·have:=HP.o b h;omega
   ·omega
  exact(F.o.block b (Nat.lt_of_lt_of_le h2 a2.o.size) e4 e4).trans (a2.o.block b h2)
theorem JPost.yes {p:Nat->Prop} {r:Option TT} {t:TT} (hr:r= some t) {w:World} {e:Ending} {w':World} (h:JPost p r w e w'):∃ cs,e= .returned (.agg ⟨cs⟩)/\KeptT (fun b=>p b\/w.heap.size<=b) w' cs t/\Below w.heap.size w w':=by
 rcases h with ⟨t',cs,h1,h2,h3,h4⟩|⟨h1,_⟩
 ·rw[hr] at h1;injection h1 with h1;subst h1;exact⟨cs,h2,h3,h4⟩
 ·rw[hr] at h1;cases h1
theorem JPost.no {p:Nat->Prop} {r:Option TT} (hr:r= none) {w:World} {e:Ending} {w':World} (h:JPost p r w e w'):e= panE 6/\Below w.heap.size w w':=by
 rcases h with ⟨t',cs,h1,h2,h3,h4⟩|⟨h1,h2⟩
 ·rw[hr] at h1;cases h1
 ·exact h2
theorem z8C (k:Int):(biW k).length<=10000:=by
 unfold biW
 repeat' split
 all_goals decide
theorem z8s (p:Nat->Prop) (k:Int) (ta tb:TT) (ca cb:List Value) (w:World) (hk:5<=k/\k<=14) (ha:KeptT p w ca ta) (hb:KeptT p w cb tb) (hp:∀ b,p b->b < w.heap.size) (hja:jok ta= true) (hjb:jok tb= true) (hsa:stT ta= true) (hsb:stT tb= true) (hla:lf ta) (hlb:lf tb):
  Calls Tryz.prog 152 #[.int .i64 k,.agg ⟨ca⟩,.agg ⟨cb⟩] w (TQ p (pairT k ta tb) w):=by
 have e0:=I (fun hj=>zdJ hla hlb hj hk);have c8:=I (fun t hj h10=>zdK (t:=t) hla hlb hj hk h10);have d8:Hid (k= 10->pairT k ta tb= if(joinT ta tb).isSome= true then .ok (pT 1) else .error 6):=I (fun h=>by subst h;rfl);have d9:=I (fun W (a2:Below w.heap.size w W)=>z2E ta tb hja hjb hsa hsb p ca cb W (fun b h=>Nat.lt_of_lt_of_le (hp b h) a2.size) (ha.next a2) (hb.next a2));cases ta with
 |mk ka na ia=>
 cases tb with
 |mk kb nb ib=>
 have HP:=I hp;obtain⟨NA,nc,A,c,rfl,_⟩:=ha.inv;obtain⟨NB,nd,B,d,rfl,_⟩:=hb.inv;generalize pairT k (.mk ka na ia) (.mk kb nb ib)= res at e0 c8 d8 ⊢;clear ha hb hp hja hjb hsa hsb hla hlb;go_enter Tryz.func152,Tryz.ntmps152;go_upto_region 1 with (fail);have e5:(#[Value.int IntKind.i64 0,Value.slice none 0 0,Value.slice none 0 0]:Array Value)= zT3.toArray:=rfl;rw[e5];clear e5;have g0:=zc w (.cells ⟨[.int .i64 ka,.slice NA na.length nc,.slice A ia.length c]⟩ 41);have h0:=Whole.new w ([.int .i64 ka,.slice NA na.length nc,.slice A ia.length c]:List Value) 41;have s0:(w.alloc (.cells ⟨[.int .i64 ka,.slice NA na.length nc,.slice A ia.length c]⟩ 41)).heap.size= w.heap.size+1:=by simp
 generalize w.alloc (.cells ⟨[.int .i64 ka,.slice NA na.length nc,.slice A ia.length c]⟩ 41)= W0 at*;have g1:=zc W0 (.cells ⟨[.int .i64 kb,.slice NB nb.length nd,.slice B ib.length d]⟩ 41);have h1:=Whole.new W0 ([.int .i64 kb,.slice NB nb.length nd,.slice B ib.length d]:List Value) 41;have s1:(W0.alloc (.cells ⟨[.int .i64 kb,.slice NB nb.length nd,.slice B ib.length d]⟩ 41)).heap.size= w.heap.size+1+1:=by simp[s0]
 generalize W0.alloc (.cells ⟨[.int .i64 kb,.slice NB nb.length nd,.slice B ib.length d]⟩ 41)= W1 at*;have g2:=zc W1 (.cells zT3.toArray 41);have h2:=Whole.new W1 (zT3:List Value) 41;have s2:(W1.alloc (.cells zT3.toArray 41)).heap.size= w.heap.size+1+1+1:=by simp[s1]
 generalize W1.alloc (.cells zT3.toArray 41)= W2 at*;rw[s0] at h1;rw[s1] at h2
 (try simp only[s0,s1])
 have e3:=(beT g0 g1);have b5:=I ((h0.keep (g1.block _ (by omega))).keep (g2.block _ (by omega)));have a6:=I (h1.keep (g2.block _ (by omega)));have b3:=I h2;have a4:=I (beT e3 g2);clear g0 g1 g2 h0 h1 h2 s0 s1 s2 e3;obtain⟨W,hW⟩:∃ z,z= W2:=⟨_,rfl⟩;subst hW;have HJ:=I (d9.o W a4.o);have a5:Hid (([.int .i64 ka,.slice NA na.length nc,.slice A ia.length c]:List Value).length= 3):=I rfl;have O:Hid (([.int .i64 kb,.slice NB nb.length nd,.slice B ib.length d]:List Value).length= 3):=I rfl;have f1:Hid (w.heap.size+1+1 < W.heap.size):=I b3.o.lt;clear d9;cases hj:joinT (.mk ka na ia) (.mk kb nb ib) with
 |none=>
  obtain⟨m,hm⟩:=e0.o hj;have HF:=I hm;clear hm;go_wp2_with (first|((with_reducible refine za tyK41 _ rfl ?_ b5.o.range rfl a5.o ?_);exact wA rfl)|((with_reducible refine za tyK41 _ rfl ?_ a6.o.range rfl O.o ?_);exact wA rfl)|(go_at_call 112;refine HJ.o.mono ?_;rintro e z he;obtain⟨rfl,hb⟩:=he.no hj;have N:=I hb;clear hb he));exact⟨rfl,.inr ⟨m,6,HF.o,by decide,rfl,(beT a4.o N.o)⟩⟩
 |some t=>
 have f4:=I (c8.o t hj);by_cases h10:k= 10
 ·subst h10
  have HF:Hid (res= .ok (pT 1)):=I (by rw[d8.o rfl,hj];rfl);go_wp2_with (first|((with_reducible refine za tyK41 _ rfl ?_ b5.o.range rfl a5.o ?_);exact wA rfl)|((with_reducible refine za tyK41 _ rfl ?_ a6.o.range rfl O.o ?_);exact wA rfl)|(go_at_call 112;refine HJ.o.mono ?_;rintro e z he;obtain⟨co,rfl,hk,hb⟩:=he.yes hj;have N:=I hb;have d0:=I hk;have a0:=I (zl hk.typ).1;have b9:=I (zl hk.typ).2;clear hk hb he)|((with_reducible refine zW tyK41 _ _ rfl ?_ z a0.o b9.o rfl ?_ ?_ ?_ ?_);exact wA rfl;rfl;rfl;rfl;intro Z1 Y)|(go_at_call 146;refine(z18 1 (zB 1 (by decide +kernel)) _).mono ?_;rintro e z1 ⟨rfl,hb⟩;have g:=I (N.o.trans ((beT Y.o.below hb).mono N.o.size));have b0:=I (b3.o.keep (g.o.block _ b3.o.lt));clear hb)|((with_reducible refine zg 41 _ _ rfl rfl ?_ b0.o (tyC 1 (.slice none 0 0) (.slice none 0 0)) ?_ ?_ ?_ ?_ ?_ ?_);exact wA rfl;rfl;rfl;rfl;kernel_rfl;exact(zJ _ _ _ _ _ _ _);intro Z a1 G))
  (try simp only[Exit.inBlock,Exit.then])
  refine bodyPost_ret (zK rfl _ _ (w.heap.size+1+1) (tyC 1 (.slice none 0 0) (.slice none 0 0)) rfl rfl a1.o) rfl ?_;exact .inl ⟨_,_,HF.o,rfl,z0A (zB 1 (by decide +kernel)),(beT a4.o g.o).trans (G.o.below (Nat.le_trans a4.o.size g.o.size) (by omega) (by omega))⟩
 have e10:(k ==10)= false:=by rw[beq_eq_false_iff_ne];exact h10
 have c7:=I (f4.o h10);go_upto_block 0 with (first|((with_reducible refine za tyK41 _ rfl ?_ b5.o.range rfl a5.o ?_);exact wA rfl)|((with_reducible refine za tyK41 _ rfl ?_ a6.o.range rfl O.o ?_);exact wA rfl)|(go_at_call 112;refine HJ.o.mono ?_;rintro e z he;obtain⟨co,rfl,hk,hb⟩:=he.yes hj;have N:=I hb;have d0:=I hk;have a0:=I (zl hk.typ).1;have b9:=I (zl hk.typ).2;clear hk hb he)|((with_reducible refine zW tyK41 _ _ rfl ?_ z a0.o b9.o rfl ?_ ?_ ?_ ?_);exact wA rfl;rfl;rfl;rfl;intro Z1 Y));have e7:Hid (Below W.heap.size W Z1):=I (beT N.o Y.o.below);have e2:=I Y.o.range;have d1:=I Y.o.size;obtain⟨q,hq⟩:∃ q,z.heap.size= q:=⟨_,rfl⟩;have f9:Hid (W.heap.size<=q):=I (hq▸N.o.size);have e9:Hid (KeptT (fun b=>(p b\/W.heap.size<=b)/\b≠q) Z1 co t):=I (d0.o.to (fun b h1 h2=>⟨⟨h1,by omega⟩,Y.o.below.block b h2⟩) Y.o.below.size);rw[hq] at e2 d1;rw[hq];clear hq hj Y d0 N;go_cut [8] (fun v8 z=>IntsAt z z.heap.size v8 (biW k)/\Below Z1.heap.size Z1 z);case first=>
  have f6:k= 5\/k= 6\/k= 7\/k= 8\/k= 9\/k= 11\/k= 12\/k= 13\/k= 14:=by omega
  clear hk h10 e10;rcases f6 with rfl|rfl|rfl|rfl|rfl|rfl|rfl|rfl|rfl
  ·go_wp2
   go_meet;case rel=>exact⟨z05 (l:=[2,3,4,5]) (Whole.new Z1 [.int .i64 2,.int .i64 3,.int .i64 4,.int .i64 5] 3) (by decide),zc Z1 _⟩
  ·go_wp2
   go_meet;case rel=>exact⟨z05 (l:=[2,3]) (Whole.new Z1 [.int .i64 2,.int .i64 3] 3) (by decide),zc Z1 _⟩
  ·go_wp2
   go_meet;case rel=>exact⟨z05 (l:=[2,3]) (Whole.new Z1 [.int .i64 2,.int .i64 3] 3) (by decide),zc Z1 _⟩
  ·go_wp2
   go_meet;case rel=>exact⟨z05 (l:=[2,3]) (Whole.new Z1 [.int .i64 2,.int .i64 3] 3) (by decide),zc Z1 _⟩
  ·go_wp2
   go_meet;case rel=>exact⟨z05 (l:=[2]) (Whole.new Z1 [.int .i64 2] 3) (by decide),zc Z1 _⟩
  ·go_wp2
   go_meet;case rel=>exact⟨z05 (l:=[2,3,4]) (Whole.new Z1 [.int .i64 2,.int .i64 3,.int .i64 4] 3) (by decide),zc Z1 _⟩
  ·go_wp2
   go_meet;case rel=>exact⟨z05 (l:=[2,3,4]) (Whole.new Z1 [.int .i64 2,.int .i64 3,.int .i64 4] 3) (by decide),zc Z1 _⟩
  ·go_wp2
   go_meet;case rel=>exact⟨z05 (l:=[1]) (Whole.new Z1 [.int .i64 1] 3) (by decide),zc Z1 _⟩
  ·go_wp2
   go_meet;case rel=>exact⟨z05 (l:=[1]) (Whole.new Z1 [.int .i64 1] 3) (by decide),zc Z1 _⟩
 case rest=>
 obtain⟨d5,a7⟩:=hcut;obtain⟨V,hV⟩:∃ z,z= wc:=⟨_,rfl⟩;subst hV;have a8:Hid (Below W.heap.size W V):=I (beT e7.o a7);have b7:Hid (Below w.heap.size w V):=I (beT a4.o a8.o);have c4:=I (show Calls Tryz.prog 149 #[.agg ⟨[.int .i64 ka,.slice NA na.length nc,.slice A ia.length c]⟩,_] V _ from z3i ka (.slice NA na.length nc) (.slice A ia.length c) _ (biW k) V rfl rfl d5 (z8C k));have a3:=I (fun y (hy:Below V.heap.size V y)=>show Calls Tryz.prog 149 #[.agg ⟨[.int .i64 kb,.slice NB nb.length nd,.slice B ib.length d]⟩,_] y _ from z3i kb (.slice NB nb.length nd) (.slice B ib.length d) _ (biW k) y rfl rfl ((d5.below hy).more hy.size) (z8C k));have d2:=I (b5.o.keep (a8.o.block _ b5.o.lt)).range;have b6:=I (fun y (hy:Below V.heap.size V y)=>(a6.o.keep ((hy.block _ (Nat.lt_of_lt_of_le a6.o.lt a8.o.size)).trans (a8.o.block _ a6.o.lt))).range);have f2:=I (zb e2.o a7 d1.o);have f5:=I a7.size;have e1:=I (b3.o.keep (a8.o.block _ b3.o.lt));have f0:Hid (KeptT (fun b=>(p b\/W.heap.size<=b)/\b≠q) V co t):=I (e9.o.to (fun b h1 h2=>⟨h1,a7.block b h2⟩) a7.size);clear d5 a7;obtain⟨b1,a2⟩:∃ b,(biW k).contains ka= b:=⟨_,rfl⟩;obtain⟨b2,d4⟩:∃ b,(biW k).contains kb= b:=⟨_,rfl⟩;have K:Hid (res= if(b1 && b2)= true then .ok (if k= 11\/k= 12 then pT 1 else t) else .error 6):=I (by rw[← a2,← d4];exact c7.o);rw[a2] at c4;rw[d4] at a3;clear a2 d4 c7;cases b1 with
 |false=>
  go_wp2_with (first|((with_reducible refine za tyK41 _ rfl ?_ d2.o rfl a5.o ?_);exact wA rfl)|(go_at_call 149;first|((with_reducible refine c4.o.mono ?_);rintro e y ⟨rfl,hb⟩;have a9:=I hb;have c5:=I (b6.o y hb);have b4:=I (a3.o y hb);clear hb)|((with_reducible refine(b4.o).k42 ?_);intro x b8))|(go_at_call 109;refine(z06 6 _).e42 ?_));exact⟨rfl,.inr ⟨6,6,K.o,by decide,rfl,(beT b7.o a9.o)⟩⟩
 |true=>
 cases b2 with
 |false=>
  go_wp2_with (first|((with_reducible refine za tyK41 _ rfl ?_ d2.o rfl a5.o ?_);exact wA rfl)|(go_at_call 149;first|((with_reducible refine c4.o.mono ?_);rintro e y ⟨rfl,hb⟩;have a9:=I hb;have c5:=I (b6.o y hb);have b4:=I (a3.o y hb);clear hb)|((with_reducible refine(b4.o).k42 ?_);intro x b8))|((with_reducible refine za tyK41 _ rfl ?_ c5.o rfl O.o ?_);exact wA rfl)|(go_at_call 109;refine(z06 6 _).e42 ?_));exact⟨rfl,.inr ⟨6,6,K.o,by decide,rfl,b7.o.trans ((beT a9.o b8.o).mono b7.o.size)⟩⟩
 |true=>
 go_upto_region 19 with (first|((with_reducible refine za tyK41 _ rfl ?_ d2.o rfl a5.o ?_);exact wA rfl)|(go_at_call 149;first|((with_reducible refine c4.o.mono ?_);rintro e y ⟨rfl,hb⟩;have a9:=I hb;have c5:=I (b6.o y hb);have b4:=I (a3.o y hb);clear hb)|((with_reducible refine(b4.o).k42 ?_);intro x b8))|((with_reducible refine za tyK41 _ rfl ?_ c5.o rfl O.o ?_);exact wA rfl)|(go_at_call 109;refine(z0q 6 _).e42 ?_));have F:Hid (Below V.heap.size V x):=I (beT a9.o b8.o);have C:Hid (Below w.heap.size w x):=I (beT b7.o F.o);have f3:=I (zb f2.o F.o (Nat.lt_of_lt_of_le d1.o f5.o));have X:=I (e1.o.keep (F.o.block _ e1.o.lt));by_cases h11:k= 11\/k= 12
 ·have HF:Hid (res= .ok (pT 1)):=I (by rw[K.o,Bool.and_self,if_pos (rfl:true= true),if_pos h11])
  have g6:∀ x:Bool,True:=fun _=>trivial;rcases h11 with rfl|rfl
  ·go_wp2_with (first|(go_at_call 146;refine(z18 1 (zB 1 (by decide +kernel)) _).mono ?_;rintro e z1 ⟨rfl,hb⟩;have g:=I hb;have b0:=I (X.o.keep (hb.block _ X.o.lt));clear hb)|((with_reducible refine zg 41 _ _ rfl rfl ?_ b0.o (tyC 1 (.slice none 0 0) (.slice none 0 0)) ?_ ?_ ?_ ?_ ?_ ?_);exact wA rfl;rfl;rfl;rfl;kernel_rfl;exact(zJ _ _ _ _ _ _ _);intro Z a1 G))
   (try simp only[Exit.inBlock,Exit.then])
   refine bodyPost_ret (zK rfl _ _ (w.heap.size+1+1) (tyC 1 (.slice none 0 0) (.slice none 0 0)) rfl rfl a1.o) rfl ?_;exact .inl ⟨_,_,HF.o,rfl,z0A (zB 1 (by decide +kernel)),(beT C.o g.o).trans (G.o.below (Nat.le_trans C.o.size g.o.size) (by omega) (by omega))⟩
  ·go_wp2_with (first|(go_at_call 146;refine(z18 1 (zB 1 (by decide +kernel)) _).mono ?_;rintro e z1 ⟨rfl,hb⟩;have g:=I hb;have b0:=I (X.o.keep (hb.block _ X.o.lt));clear hb)|((with_reducible refine zg 41 _ _ rfl rfl ?_ b0.o (tyC 1 (.slice none 0 0) (.slice none 0 0)) ?_ ?_ ?_ ?_ ?_ ?_);exact wA rfl;rfl;rfl;rfl;kernel_rfl;exact(zJ _ _ _ _ _ _ _);intro Z a1 G))
   (try simp only[Exit.inBlock,Exit.then])
   refine bodyPost_ret (zK rfl _ _ (w.heap.size+1+1) (tyC 1 (.slice none 0 0) (.slice none 0 0)) rfl rfl a1.o) rfl ?_;exact .inl ⟨_,_,HF.o,rfl,z0A (zB 1 (by decide +kernel)),(beT C.o g.o).trans (G.o.below (Nat.le_trans C.o.size g.o.size) (by omega) (by omega))⟩
 ·have HF:Hid (res= .ok t):=I (by rw[K.o,Bool.and_self,if_pos (rfl:true= true),if_neg h11])
  have e11:(k ==11)= false:=by rw[beq_eq_false_iff_ne];exact fun h=>h11 (.inl h)
  have e12:(k ==12)= false:=by rw[beq_eq_false_iff_ne];exact fun h=>h11 (.inr h)
  go_wp2_with (first|((with_reducible refine za tyK41 _ rfl ?_ f3.o rfl a0.o ?_);exact wA rfl)|((with_reducible refine zg 41 _ _ rfl rfl ?_ X.o (co) ?_ ?_ ?_ ?_ ?_ ?_);exact wA rfl;rw[a0.o];rfl;rfl;rfl;rw[a0.o];kernel_rfl;exact b9.o;intro Z a1 G))
  (try simp only[Exit.inBlock,Exit.then])
  refine bodyPost_ret (zK rfl _ _ (w.heap.size+1+1) co a0.o rfl a1.o) rfl ?_;refine .inl ⟨_,co,HF.o,rfl,f0.o.to (fun b h1 h2=>⟨h1.1.imp id fun h=>Nat.le_trans a4.o.size h,?_⟩) (Nat.le_trans F.o.size G.o.size),C.o.trans (G.o.below C.o.size (by omega) (by omega))⟩;have g5:=f1.o;have e4:b≠w.heap.size+1+1:=fun e=>by
   rcases h1.1 with h|h
   ·have:=HP.o b h;omega
   ·omega
  exact(G.o.block b (Nat.lt_of_lt_of_le h2 F.o.size) e4 e4).trans (F.o.block b h2)
end
section
open Go Go.RowKit
theorem KeptT.form {p:Nat->Prop} {w:World} {cs:List Value} {t:TT} {k:Int} (h:KeptT p w cs t) (hk:kT t= k):∃ X Y,cs=[.int .i64 k,X,Y]/\X.oneCell'= true/\Y.oneCell'= true:=by
 cases t with
 |mk k' ns its=>
  obtain⟨NA,nc,A,c,rfl,_⟩:=h.inv;have hk:k'= k:=hk;subst hk;exact⟨_,_,rfl,rfl,rfl⟩
theorem tone1 (k m:Int) (x y:Value) (w:World) (hx:x.oneCell'= true) (hy:y.oneCell'= true):
  Calls Tryz.prog 149 #[.agg ⟨[.int .i64 k,x,y]⟩,.slice (some ⟨w.heap.size,0,none⟩) 1 1] (w.alloc (.cells ⟨[.int .i64 m]⟩ 3)) fun e w'=>e= .returned (.bool (k ==m))/\Below w.heap.size w w':=
 (z3i k x y _ [m] _ hx hy (z05 (l:=[m]) (Whole.new w [.int .i64 m] 3) (by simp)) (by simp)).mono fun e w' ⟨he,hb⟩=>by
  refine⟨?_,(zc w _).trans (hb.mono (zc w _).size)⟩
  rw[he]
  congr 2
  simp
  by_cases h:k= m<;>simp[h]
theorem TQ.ok {p:Nat->Prop} {r:Except Int TT} {t:TT} {w:World} {cs:List Value} {w':World} (hr:r= .ok t) (hk:KeptT (fun b=>p b\/w.heap.size<=b) w' cs t) (hb:Below w.heap.size w w'):TQ p r w (.returned (.agg ⟨cs⟩)) w':= .inl ⟨t,cs,hr,rfl,hk,hb⟩
theorem TQ.no {p:Nat->Prop} {r:Except Int TT} {m n:Int} {w:World} {w':World} (hr:r= .error m) (hn:n≠0) (hb:Below w.heap.size w w'):TQ p r w (panE n) w':= .inr ⟨m,n,hr,hn,rfl,hb⟩
theorem zbQ (nm s:ByteArray) (lb:Int) (a b c d e f g i j:Value) (pb xb xo:Nat) (w:World) (hp:w.cell? ⟨pb,0,none⟩= some (.pointer (some ⟨xb,xo,none⟩))) (hs:w.cell? ⟨xb,xo+1,none⟩= some (.string s)) (hlp:pb < w.heap.size) (hlx:xb < w.heap.size):
  Calls Tryz.prog 148 #[.agg #[.string nm,.int .i64 lb,a,b,c,d,e,f,g,i,j],.pointer (some ⟨pb,0,none⟩)] w fun r w'=>r= .returned (.bool (nm.toList ==s.toList))/\Below w.heap.size w w':=by
 have A:=I (zc w (.cells #[.string nm,.int .i64 lb,a,b,c,d,e,f,g,i,j] 62));have G:=I hp;have K:=I hs;have F:=I hlp;have C:=I hlx;have d0:=zH w #[.string nm,.int .i64 lb,a,b,c,d,e,f,g,i,j] 62 0;simp only[List.getElem?_toArray,List.getElem?_cons_zero] at d0;clear hp hlp hs hlx;go_enter Tryz.func148,Tryz.ntmps148;go_upto_region 1 with (fail);have d2:=(A.o.cell (p:=⟨pb,0,none⟩) F.o).trans G.o;have d3:=(A.o.cell (p:=⟨xb,xo+1,none⟩) C.o).trans K.o;generalize w.alloc (.cells #[.string nm,.int .i64 lb,a,b,c,d,e,f,g,i,j] 62)= W at*;go_quiet (fail);go_wp2;go_ret;exact⟨rfl,zj A.o _⟩
theorem z9O (E:List VarT) (s:ByteArray) (v:Value) (pb xb xo:Nat) (w:World) (hv:SlAt w w.heap.size 11 (VarAt w w.heap.size) v E) (hE:E.length<=10000) (hp:w.cell? ⟨pb,0,none⟩= some (.pointer (some ⟨xb,xo,none⟩))) (hs:w.cell? ⟨xb,xo+1,none⟩= some (.string s)) (hlp:pb < w.heap.size) (hlx:xb < w.heap.size):
  Calls Tryz.prog 147 #[v,.func (.func 148) #[] #[.pointer (some ⟨pb,0,none⟩)]] w fun e w'=>e= .returned (.int .i64 (findV E s))/\Below w.heap.size w w':=by
 obtain⟨a8,EA,ec,rfl,Y⟩:=hv;have a3:=I Y;have a5:=I (fun nm lb a b c d e f g i j u (hu:Below w.heap.size w u)=>zbQ nm s lb a b c d e f g i j pb xb xo u ((hu.cell (p:=⟨pb,0,none⟩) hlp).trans hp) ((hu.cell (p:=⟨xb,xo+1,none⟩) hlx).trans hs) (Nat.lt_of_lt_of_le hlp hu.size) (Nat.lt_of_lt_of_le hlx hu.size));clear hp hlp hs hlx;have b3:(E.length:Int)<=10000:=by omega
 clear Y a8;go_enter Tryz.func147,Tryz.ntmps147;go_wp2;go_loopg [8] E.length (fun q x u=>∃ j:Nat,j+q= E.length/\x= .int .i64 j/\Below w.heap.size w u/\∀ k,k < j->∀ e,E[k]?= some e->z1T s e= false);case atStart=>exact⟨0,by omega,rfl,Below.refl _ _,fun k hk=>absurd hk (Nat.not_lt_zero k)⟩
 case round=>
  obtain⟨jj,hj,rfl,hb,a1⟩:=hrel;have A:=I hb;have K:=I a1;clear hb a1;cases gk with
  |zero=>
   obtain rfl:jj= E.length:=by omega
   have b5: ¬ ((E.length:Int) <(E.length:Int)):=by omega
   have HR:Hid (findV E s= -1):=I (z4B fun k e N=>K.o k (List.getElem?_eq_some_iff.1 N).1 e N);go_wp2;go_ret;exact⟨by rw[HR.o];try rfl,A.o⟩
  |succ q=>
   have b4:(jj:Int) <(E.length:Int):=by omega
   obtain⟨x,N⟩:∃ e,E[jj]?= some e:=⟨_,List.getElem?_eq_getElem (by omega)⟩;obtain⟨bb,o,rfl,a7,hc⟩:=a3.o (by omega);obtain⟨ks,a9,a0,a2⟩:=hc jj x N;obtain⟨a,b,c,d,e,f,g,i,j,rfl⟩:=z7Z a2;have O:=I (zb a0 A.o a7);have HE:=I N;have F:=I (a5.o x.name x.label a b c d e f g i j wr A.o);clear hc N a0 a2 a9;cases ho:(x.name.toList ==s.toList) with
   |true=>
    have HR:Hid (findV E s= jj):=I (z3C jj x HE.o ho fun k hk X he'=>K.o k hk X he');rw[ho] at F;clear ho;go_wp2_with (first|((with_reducible refine za tyK62 _ rfl ?_ O.o rfl ?_ ?_);exact wA rfl;rfl)|(go_at_call 148;refine F.o.mono ?_;rintro X w4 ⟨rfl,C⟩;have G:=I C;clear C));go_ret;exact⟨by rw[HR.o];try rfl,(beT A.o G.o)⟩
   |false=>
    have a4:Hid (∀ k,k < jj+1->∀ e,E[k]?= some e->z1T s e= false):=I fun k hk X he'=>by
     by_cases ek:k= jj
     ·subst ek
      have:=HE.o;rw[he'] at this;injection this with this;rw[this];exact ho
     ·exact K.o k (by omega) X he'
    rw[ho] at F;clear ho;go_wp2_with (first|((with_reducible refine za tyK62 _ rfl ?_ O.o rfl ?_ ?_);exact wA rfl;rfl)|(go_at_call 148;refine F.o.mono ?_;rintro X w4 ⟨rfl,C⟩;have G:=I C;clear C));go_roundg q;case measure=>omega
    case rel=>exact⟨jj+1,by omega,by go_num,(beT A.o G.o),a4.o⟩
theorem zbt {p:Nat->Prop} {w:World} {ce:List Value} {vr va:Value} {E:List VarT} {s:ByteArray} {v:VT} {ns:List ByteArray} {k:Int} {l:List TT} {cb b o:Nat} (h:OwnArgs p w ce vr va E k s v ns l) (hr:w.rangeAt b o ce) (hb:b < w.heap.size) (hc:w.cell? ⟨cb,0,none⟩= some va) (hcl:cb < w.heap.size) (hk:kidsB (z0H k) l.length= true) (hst:∀ t∈l,stT t= true) (hnm:k= 17->ns.length<=1000):
  Calls Tryz.prog 131 #[.pointer (some ⟨cb,0,none⟩),.pointer (some ⟨b,o,none⟩),vr] w (TQ p (ownT E k s v ns l) w):=by
 obtain⟨-,VA,vc,rfl, -⟩:=id h.vars;have HC:=I h.cells;have G:=I h;have j1:=I hst;have y5:=I hnm;have y2:=I hb;have h8:Hid (∀ z,Below w.heap.size w z->∀ j v,ce[j]?= some v->z.cell? ⟨b,o+j,none⟩= some v):=I fun z F j v hv=>(F.cell (p:=⟨b,o+j,none⟩) hb).trans (hr j v hv);have p3:Hid (∀ z,Below w.heap.size w z->z.cell? ⟨cb,0,none⟩= some (.slice VA E.length vc)):=I fun z F=>(F.cell (p:=⟨cb,0,none⟩) hcl).trans hc;have C0:=zd3 hk;clear h hk hst hnm hr hb hc hcl;go_enter Tryz.func131,Tryz.ntmps131;go_upto_region 1 with (fail);have v7:(#[Value.int IntKind.i64 0,Value.slice none 0 0,Value.slice none 0 0]:Array Value)= zT3.toArray:=rfl;rw[v7];clear v7;have g1:=zc w (.cells #[.pointer (some ⟨b,o,none⟩)] 117);have h1:=Whole.new w [.pointer (some ⟨b,o,none⟩)] 117;have s1:(w.alloc (.cells #[.pointer (some ⟨b,o,none⟩)] 117)).heap.size= w.heap.size+1:=by simp
 generalize w.alloc (.cells #[.pointer (some ⟨b,o,none⟩)] 117)= W1 at*;have g2:=zc W1 (.cells zT3.toArray 41);have h2:=Whole.new W1 zT3 41;generalize W1.alloc (.cells zT3.toArray 41)= W at*;rw[s1] at h2
 (try rw[s1])
 have j2:=I (h1.keep (g2.block _ (by omega)));have r8:=I h2;have a8:=I (beT g1 g2);have g0:Hid (w.heap.size+1 < W.heap.size):=I h2.lt;have d9:Hid (∀ z,Below W.heap.size W z->z.cell? ⟨w.heap.size,0,none⟩= some (.pointer (some ⟨b,o,none⟩))):=I fun z F=>(F.cell (p:=⟨w.heap.size,0,none⟩) j2.o.lt).trans (j2.o.range 0 _ rfl);have C:Hid (∀ z,Below W.heap.size W z->Below w.heap.size w z):=I fun z F=>a8.o.trans (F.mono a8.o.size);have f0:Hid (∀ z,Below W.heap.size W z->Whole 41 z (w.heap.size+1) zT3):=I fun z F=>r8.o.keep (F.block _ r8.o.lt);have t2:Below W.heap.size W W:=Below.refl _ _;have p5:=I t2;clear g1 g2 h1 h2 s1 t2;have e0:W.cell? ⟨w.heap.size,0,none⟩= some (.pointer (some ⟨b,o,none⟩)):=d9.o W p5.o;have e1:W.cell? ⟨b,o,none⟩= some (.int .i64 k):=h8.o W a8.o 0 _ HC.o.1;rcases C0 with ⟨hk,_⟩|⟨hk,hn⟩|⟨hk,hn⟩|⟨rfl,hn⟩|hk
 ·rcases hk with rfl|rfl
  ·have j3:=HC.o.2.2.2.1
   have e2:W.cell? ⟨b,o+2,none⟩= some (.int .i64 (kV v)):=h8.o W a8.o 2 _ HC.o.2.2.1;have HF:Hid (ownT E 1 s v ns l= .ok (pT (kV v))):=I rfl;go_wp2_with (first|(go_at_call 146;refine(z18 (kV v) j3 _).mono ?_;rintro e z ⟨rfl,hb⟩;have g3:=I (f0.o z hb);have c6:=I (C.o z hb);clear hb)|((with_reducible refine zg 41 _ _ rfl rfl ?_ g3.o (tyC (kV v) (.slice none 0 0) (.slice none 0 0)) ?_ ?_ ?_ ?_ ?_ ?_);exact wA rfl;rfl;rfl;rfl;kernel_rfl;exact(zJ _ _ _ _ _ _ _);intro Z b0 a0))
   (try simp only[Exit.inBlock,Exit.then])
   refine bodyPost_ret (zK rfl _ _ (w.heap.size+1) (tyC (kV v) (.slice none 0 0) (.slice none 0 0)) rfl rfl b0.o) rfl ?_;exact TQ.ok HF.o (z0A j3) (c6.o.trans (a0.o.below c6.o.size (by omega) (by omega)))
  ·have v0:W.cell? ⟨cb,0,none⟩= some (.slice VA E.length vc):=p3.o W a8.o
   have B2:=I (z3S G.o.vars a8.o);have F9:∀ (fn:Fn) (first cap:Array Value) (w:World),(Instr.makeFunc fn first cap).run Tryz.prog w= .ok (.func fn first cap) w:=fun _ _ _ _=>rfl;have n6:=I (z9O E s (.slice VA E.length vc) w.heap.size b o W (zdx B2.o) G.o.elen e0 (h8.o W a8.o 1 _ HC.o.2.1) j2.o.lt (Nat.lt_of_lt_of_le y2.o a8.o.size));have t7:=z6g E s;obtain⟨ix,g7⟩:∃ ix,findV E s= ix:=⟨_,rfl⟩;have j8:Hid (Calls Tryz.prog 147 #[.slice VA E.length vc,.func (.func 148) #[] #[.pointer (some ⟨w.heap.size,0,none⟩)]] W fun e w'=>e= .returned (.int .i64 ix)/\Below W.heap.size W w'):=I (g7▸n6.o);clear n6;have i9:=I g7;rw[g7] at t7;clear g7;rcases t7 with rfl|⟨p9,q0⟩
   ·have HF:Hid (ownT E 2 s v ns l= .error 11):=I (by show(if findV E s= -1 then(Except.error 11:Except Int TT) else _)= _;rw[if_pos i9.o])
    go_wp2_with (first|(go_at_call 147;refine(j8.o).mono ?_;rintro e z ⟨rfl,hb⟩;have j5:=I hb;have C9:z.cell? ⟨cb,0,none⟩= some (.slice (VA) E.length vc):=p3.o z (C.o z hb);clear hb)|(go_at_call 109;refine(z06 11 _).e42 ?_));exact⟨rfl,TQ.no HF.o (by decide) (C.o z j5.o)⟩
   ·obtain⟨j,rfl⟩:∃ j:Nat,ix=(j:Int):=⟨ix.toNat,by omega⟩
    have hj:j < E.length:=by omega
    obtain⟨x,hx⟩:∃ x,E[j]?= some x:=⟨_,List.getElem?_eq_getElem hj⟩;have HF:Hid (ownT E 2 s v ns l= .ok x.type):=I (by
     show(if findV E s= -1 then(Except.error 11:Except Int TT) else _)= _;rw[if_neg (by rw[i9.o];omega)];have:(findV E s).toNat= j:=by rw[i9.o];rfl
     rw[this,hx])
    obtain⟨_,E4,G2,e',t1⟩:=G.o.vars;injection e' with e1' e2' e3';subst e1' e3';obtain⟨vb,vo,rfl,v4,hc⟩:=t1 (by omega);obtain⟨ks,n2,u3,C3⟩:=hc j x hx;obtain⟨⟨ct,ci,rfl,t8,B8,q8,_⟩,_,_⟩:=C3;have w9:Hid (∀ z,Below w.heap.size w z->z.rangeAt vb (vo+j*11+2) ct):=I (fun z F=>zb (fun i u hu=>by
     have:=u3 (2+i) u (by rw[List.append_assoc];show([Value.string x.name,Value.int .i64 x.label] ++ (ct ++ ci))[2+i]?= _;rw[List.getElem?_append_right (by simp)];simp only[List.length_cons,List.length_nil];rw[show 2+i - (0+1+1)= i by omega,List.getElem?_append_left (List.getElem?_eq_some_iff.1 hu).1];exact hu);have h2:=(zu.1 this).2;rwa [show vo+j*11+ (2+i)= vo+j*11+2+i by omega] at h2) F v4)
    have m6:=I t8;have x8:Hid (KeptT p w ct x.type):=I q8;have y8:=I (zl q8).2;have F5:(j:Int) <(E.length:Int):=by omega
    have F6: ¬ (j:Int) < 0:=by omega
    have F4:(0:Int)<=(j:Int):=by omega
    clear hc u3 t8 B8 q8 t1 n2 hx v4 q0 p9 e2';go_wp2_with (first|(go_at_call 147;refine(j8.o).mono ?_;rintro e z ⟨rfl,hb⟩;have j5:=I hb;have C9:z.cell? ⟨cb,0,none⟩= some (.slice (some ⟨vb,vo,none⟩) E.length vc):=p3.o z (C.o z hb);clear hb;have g3:=I (f0.o z j5.o);have x3:=I (w9.o z (C.o z j5.o));have c6:=I (C.o z j5.o))|(go_at_call 109;refine(z0q 11 _).e42 ?_)|((with_reducible refine za tyK41 _ rfl ?_ x3.o rfl m6.o ?_);exact wA rfl)|((with_reducible refine zg 41 _ _ rfl rfl ?_ g3.o (ct) ?_ ?_ ?_ ?_ ?_ ?_);exact wA rfl;rw[m6.o];rfl;rfl;rfl;rw[m6.o];kernel_rfl;exact y8.o;intro Z b0 a0))
    (try simp only[Exit.inBlock,Exit.then])
    refine bodyPost_ret (zK rfl _ _ (w.heap.size+1) (ct) m6.o rfl b0.o) rfl ?_;exact TQ.ok HF.o (x8.o.to (fun b hb hl=>⟨.inl hb,(a0.o.block b (Nat.lt_of_lt_of_le hl c6.o.size) (by have:=G.o.lo b hb;omega) (by have:=G.o.lo b hb;omega)).trans (c6.o.block b hl)⟩) (Nat.le_trans c6.o.size a0.o.size)) (c6.o.trans (a0.o.below c6.o.size (by omega) (by omega)))
 ·obtain⟨ta,rfl⟩:=len1 hn
  clear hn;by_cases h18:k= 18
  ·subst h18
   obtain⟨A,c,rfl,h2⟩:=G.o.row.inv;obtain⟨b3,o3,rfl,a1,hc⟩:=h2 (by simp);have l7:=I a1;obtain⟨m9,d1,a4,N⟩:=hc 0 ta rfl;obtain⟨x0,b2⟩:∃ x,kT ta= x:=⟨_,rfl⟩;obtain⟨X0,Y0,rfl,c9,d0⟩:=N.form b2;have a5:w.rangeAt b3 (o3) [.int .i64 x0,X0,Y0]:=by simpa using a4
   have d8:Hid (([.int .i64 x0,X0,Y0]:List Value).length= 3):=I rfl;have f9:=I N;have d7:=I b2;have O:=I (And.intro c9 d0);have m8:=I (zl N.typ).2;have a9:=I (fun z (F:Below w.heap.size w z)=>zb a5 F a1);clear d1 a4 N a5 c9 d0 b2;clear hc h2 a1;have j8:Hid (ownT E 18 s v ns [ta]= z7b s ta):=I rfl;by_cases k6:x0= 6
   ·subst k6
    have l2:=(G.o.oks ta (by simp)).1;cases ta with
    |mk k0 na ia=>
    obtain rfl:k0= 6:=d7.o;obtain⟨hJ,_⟩:=z1n.1 l2;obtain⟨NA,nc,A4,c4,e4,_,h1,h2,h3⟩:=f9.o.inv;simp only[List.cons.injEq,and_true,true_and] at e4;obtain⟨rfl,rfl⟩:=e4;have y3:=I h1;have o9:=I h3;have r5:=I hJ;clear h1 h2 h3 l2 hJ;have m1:Hid (ownT E 18 s v ns [.mk 6 na ia]= if Lib.idxOfS na s= -1 then .error 10 else .ok (ia.getD (Lib.idxOfS na s).toNat (pT 0))):=I (by rw[j8.o,z7b,if_neg (by decide)]);have i9:Hid (∀ z:World,Below w.heap.size w z->Calls Tryz.prog 150 #[.slice NA na.length nc,.string s] z fun e z'=>e= .returned (.int .i64 (Lib.idxOfS na s))/\z'= z):=I fun z F=>by
     rcases Nat.eq_zero_or_pos na.length with h0|h0
     ·obtain rfl:na=[]:=List.eq_nil_of_length_eq_zero h0
      exact Tryz.slices_Index_string_empty NA nc s z
     ·obtain⟨bn,on,rfl,c5,B9⟩:=y3.o h0
      have:=Tryz.slices_Index_string bn on na.length nc na s z (Nat.le_refl _) (by have:=r5.o.1;omega) fun j hj=>by
       rw[List.getD_eq_getElem?_getD,List.getElem?_eq_getElem hj];exact(F.cell (p:=⟨bn,on+j,none⟩) c5).trans (B9 j _ (List.getElem?_eq_getElem hj))
      rw[List.take_length] at this;exact this
    have c8:Hid (W.rangeAt b3 o3 [.int .i64 6,.slice NA na.length nc,.slice A4 ia.length c4]):=I (a9.o W a8.o);go_upto_region 23 with (first|((with_reducible refine za tyK41 _ rfl ?_ c8.o rfl d8.o ?_);exact wA rfl)|(go_at_call 149;refine(tone1 6 6 _ _ W O.o.1 O.o.2).k42 ?_;intro z0 K)|(go_at_call 109;refine(z0q 6 _).e42 ?_));clear e0 e1;have hs:Below w.heap.size w z0.drew/\z0.drew.cell? ⟨w.heap.size,0,none⟩= some (.pointer (some ⟨b,o,none⟩)):=⟨(C.o _ K.o).drew,d9.o _ K.o.drew⟩;refine zr [(0,true),(1,true),(2,true),(3,true),(4,true),(5,true),(6,true),(7,true),(8,false),(9,true)] (fun z=>Below w.heap.size w z/\z.cell? ⟨w.heap.size,0,none⟩= some (.pointer (some ⟨b,o,none⟩))) (by kernel_rfl) (by intro c a d v w h;cases d<;>exact h) ?_;refine zf 91 (.slice (some ⟨b3,o3,none⟩) [TT.mk 6 na ia].length c) rfl rfl rfl rfl hs rfl ?_;go_frame;refine z7 92 (.pointer (some ⟨b3,o3,none⟩)) rfl rfl rfl hs (fun z F=>by go_simp) ?_;go_frame;refine z7 93 (.pointer (some ⟨b3,o3+1,none⟩)) rfl rfl rfl hs (fun z F=>by go_simp) ?_;go_frame;refine z7 94 (.slice NA na.length nc) rfl rfl rfl hs (fun z F=>by have e3:=a9.o z F.1 1 _ rfl;clear F;go_simp) ?_;go_frame;refine z7 95 (.pointer (some ⟨b,o,none⟩)) rfl rfl rfl hs (fun z F=>by have e3:=F.2;clear F;go_simp) ?_;go_frame;refine z7 96 (.pointer (some ⟨b,o,none⟩)) rfl rfl rfl hs (fun z F=>by go_simp) ?_;go_frame;refine z7 97 (.pointer (some ⟨b,o+1,none⟩)) rfl rfl rfl hs (fun z F=>by go_simp) ?_;go_frame;refine z7 98 (.string s) rfl rfl rfl hs (fun z F=>by have e3:=h8.o z F.1 1 _ HC.o.2.1;clear F;go_simp) ?_;go_frame;refine zv 99 150 Tryz.func150 (by kernel_rfl) [.slice NA na.length nc,.string s] rfl rfl rfl rfl rfl ?_;refine(i9.o _ hs.1).e42 ?_;refine⟨_,rfl,hs,?_⟩;go_frame;refine zI 11 (.int .i64 (Lib.idxOfS na s)) rfl rfl rfl rfl hs rfl ?_;go_frame;refine zF ?_;have s7:Hid (Below W.heap.size W z0.drew):=I K.o.drew;clear hs K i9;generalize z0.drew= Y at*;have r4:=z3F na s;obtain⟨ix,g7⟩:∃ ix,Lib.idxOfS na s= ix:=⟨_,rfl⟩;rw[g7] at r4 m1;rw[g7];clear g7;have f7:=I (C.o Y s7.o);rcases r4 with rfl|⟨p9,q0⟩
    ·go_wp2_with (first|(go_at_call 109;refine(z06 10 _).e42 ?_))
     exact⟨rfl,TQ.no m1.o (by decide) f7.o⟩
    ·have f5: ¬ ix= -1:=by omega
     rw[if_neg f5] at m1;obtain⟨j,rfl⟩:∃ j:Nat,ix=(j:Int):=⟨ix.toNat,by omega⟩;have u5:=r5.o.2.2 (by first|trivial|rfl);have hj:j < ia.length:=by omega
     have F3:(j:Int) <(ia.length:Int):=by omega
     have F2:(0:Int)<=(j:Int):=by omega
     obtain⟨b4,o4,rfl,n0,l1⟩:=o9.o (by omega);obtain⟨ks,n2,u2,j3⟩:=l1 j _ (List.getElem?_eq_getElem hj);have x9:=I j3;have m4:=I n2;have x7:Hid (Y.rangeAt b4 (o4+j*3) ks):=I (zb u2 f7.o n0);have e9:=I (zl j3.typ).2;have HF:Hid (ownT E 18 s v ns [.mk 6 na ia]= .ok ia[j]):=I (by rw[m1.o];simp[List.getD,List.getElem?_eq_getElem hj]);have A6:=I (f0.o Y s7.o);have d5:Y.cell? ⟨b3,o3+2,none⟩= some (.slice (some ⟨b4,o4,none⟩) ia.length c4):=a9.o Y f7.o 2 _ rfl;clear l1 n2 u2 j3 p9 q0 f5 u5;go_wp2_with (first|(go_at_call 109;refine(z0q 10 _).e42 ?_)|((with_reducible refine za tyK41 _ rfl ?_ x7.o rfl m4.o ?_);exact wA rfl)|((with_reducible refine zg 41 _ _ rfl rfl ?_ A6.o (ks) ?_ ?_ ?_ ?_ ?_ ?_);exact wA rfl;rw[m4.o];rfl;rfl;rfl;rw[m4.o];kernel_rfl;exact e9.o;intro Z b0 a0))
     (try simp only[Exit.inBlock,Exit.then])
     refine bodyPost_ret (zK rfl _ _ (w.heap.size+1) (ks) m4.o rfl b0.o) rfl ?_;exact TQ.ok HF.o (x9.o.to (fun b hb hl=>⟨.inl hb,(a0.o.block b (Nat.lt_of_lt_of_le hl f7.o.size) (by have:=G.o.lo b hb;omega) (by have:=G.o.lo b hb;omega)).trans (f7.o.block b hl)⟩) (Nat.le_trans f7.o.size a0.o.size)) (f7.o.trans (a0.o.below f7.o.size (by omega) (by omega)))
   ·have q6:(x0 ==6)= false:=by rw[beq_eq_false_iff_ne];exact k6
    have HF:Hid (ownT E 18 s v ns [ta]= .error 6):=I (by
     rw[j8.o];cases ta with
     |mk k0 na ia=>exact if_pos (fun h=>k6 (d7.o.symm.trans h)))
    have c8:Hid (W.rangeAt b3 o3 [.int .i64 x0,X0,Y0]):=I (a9.o W a8.o);go_wp2_with (first|((with_reducible refine za tyK41 _ rfl ?_ c8.o rfl d8.o ?_);exact wA rfl)|(go_at_call 149;refine(tone1 x0 6 X0 Y0 W O.o.1 O.o.2).k42 ?_;intro z0 b5)|(go_at_call 109;refine(z06 6 _).e42 ?_));exact⟨rfl,TQ.no HF.o (by decide) (C.o _ b5.o)⟩
  ·have C1:k= 3\/k= 4\/k= 20\/k= 21\/k= 22\/k= 23:=by omega
   obtain⟨A,c,rfl,h2⟩:=G.o.row.inv;obtain⟨b3,o3,rfl,a1,hc⟩:=h2 (by simp);have l7:=I a1;obtain⟨m9,d1,a4,N⟩:=hc 0 ta rfl;obtain⟨x0,b2⟩:∃ x,kT ta= x:=⟨_,rfl⟩;obtain⟨X0,Y0,rfl,c9,d0⟩:=N.form b2;have a5:w.rangeAt b3 (o3) [.int .i64 x0,X0,Y0]:=by simpa using a4
   have d8:Hid (([.int .i64 x0,X0,Y0]:List Value).length= 3):=I rfl;have f9:=I N;have d7:=I b2;have O:=I (And.intro c9 d0);have m8:=I (zl N.typ).2;have a9:=I (fun z (F:Below w.heap.size w z)=>zb a5 F a1);clear d1 a4 N a5 c9 d0 b2;clear hc h2 a1;have C7:(k ==1)= false:=by rw[beq_eq_false_iff_ne];omega
   have C8:(k ==2)= false:=by rw[beq_eq_false_iff_ne];omega
   have v8:(k ==15)= false:=by rw[beq_eq_false_iff_ne];omega
   have v9:(k ==16)= false:=by rw[beq_eq_false_iff_ne];omega
   have w2:(k ==17)= false:=by rw[beq_eq_false_iff_ne];omega
   have w3:(k ==18)= false:=by rw[beq_eq_false_iff_ne];omega
   have w4:(k ==19)= false:=by rw[beq_eq_false_iff_ne];omega
   have B1:Hid (∀ z,Below w.heap.size w z->Calls Tryz.prog 151 #[.int .i64 k,.agg ⟨[.int .i64 x0,X0,Y0]⟩] z (TQ p (ownT E k s v ns [ta]) z)):=I fun z F=>z9Q p k ta [.int .i64 x0,X0,Y0] z E s v ns C1 (f9.o.next F) (fun b hb=>Nat.lt_of_lt_of_le (G.o.lo b hb) F.size);go_upto_region 30 with (fail);clear e0 e1;have K:=p5;have hs:Below w.heap.size w W.drew/\W.drew.cell? ⟨w.heap.size,0,none⟩= some (.pointer (some ⟨b,o,none⟩)):=⟨(C.o _ K.o).drew,d9.o _ K.o.drew⟩;refine zr [(0,true),(1,true),(2,true),(3,true),(4,true),(5,true),(6,true),(7,false),(8,false)] (fun z=>Below w.heap.size w z/\z.cell? ⟨w.heap.size,0,none⟩= some (.pointer (some ⟨b,o,none⟩))) (by kernel_rfl) (by intro c a d v w h;cases d<;>exact h) ?_;refine z7 145 (.pointer (some ⟨b,o,none⟩)) rfl rfl rfl hs (fun z F=>by have e3:=F.2;clear F;go_simp) ?_;go_frame;refine z7 146 (.pointer (some ⟨b,o,none⟩)) rfl rfl rfl hs (fun z F=>by go_simp) ?_;go_frame;refine z7 147 (.pointer (some ⟨b,o,none⟩)) rfl rfl rfl hs (fun z F=>by go_simp) ?_;go_frame;refine z7 148 (.int .i64 k) rfl rfl rfl hs (fun z F=>by have e3:=h8.o z F.1 0 _ HC.o.1;clear F;rw[Nat.add_zero] at e3;go_simp) ?_;go_frame;refine zf 149 (.slice (some ⟨b3,o3,none⟩) [ta].length c) rfl rfl rfl rfl hs rfl ?_;go_frame;refine z7 150 (.pointer (some ⟨b3,o3,none⟩)) rfl rfl rfl hs (fun z F=>by go_simp) ?_;go_frame;refine z7 151 (.agg ⟨[.int .i64 x0,X0,Y0]⟩) rfl rfl rfl hs (fun z F=>zt 41 rfl (b3) (o3) ([.int .i64 x0,X0,Y0]) _ rfl (a9.o z F.1) Tryz.underlying41 rfl (by rw[d8.o];kernel_rfl)) ?_;go_frame;refine z45 (some 152) 151 Tryz.func151 (by kernel_rfl) (by kernel_rfl) [.int .i64 k,.agg ⟨[.int .i64 x0,X0,Y0]⟩] _ _ _ rfl rfl rfl (by exact wA rfl) rfl ?_;refine(B1.o _ hs.1).mono ?_;rintro e u6 (⟨tn,cn,d2,rfl,b1,c5⟩|⟨m,n,d2,hn,rfl,c5⟩);case inr=>exact .inr ⟨_,rfl,rfl,TQ.no d2 hn ((C.o _ K.o).drew.trans (c5.mono (C.o _ K.o).size))⟩
   have HF:=I d2;clear d2;have f2:=I b1;have c7:=I (zl b1.typ).1;have e9:=I (zl b1.typ).2;have a2:Hid (Below W.heap.size W u6):=I ((K.o.trans ((Below.refl _ _).drew.mono K.o.size)).trans (c5.mono (Nat.le_trans K.o.size (Nat.le_refl _))));clear b1 c5;refine .inl ⟨_,rfl,⟨C.o _ a2.o,d9.o _ a2.o⟩,?_⟩;go_frame;refine z1y none 41 _ _ _ rfl rfl rfl (by exact wA rfl) (w.heap.size+1) zT3 cn (f0.o _ a2.o) (by rw[c7.o];rfl) rfl rfl (by rw[c7.o];kernel_rfl) e9.o ?_;intro wf g9 b8;have f6:Hid (Below w.heap.size w wf):=I ((C.o _ a2.o).trans (b8.below (C.o _ a2.o).size (by omega) (by omega)));have b0:=I g9;have k4:Hid (wf.cell? ⟨w.heap.size,0,none⟩= some (.pointer (some ⟨b,o,none⟩))):=I ((World.cell?_of_block (a:=⟨w.heap.size,0,none⟩) (b8.block w.heap.size (Nat.lt_of_lt_of_le j2.o.lt a2.o.size) (by omega) (by omega))).trans (d9.o _ a2.o));have j9:Hid (KeptT (fun b=>p b\/w.heap.size<=b) wf cn tn):=I (f2.o.to (fun b h1 h2=>⟨h1.imp id fun h=>Nat.le_trans (C.o _ K.o).size h,b8.block b h2 (fun e=>by
    rcases h1 with h|h
    ·have:=G.o.lo b h;omega
    ·have h3:=g0.o;have h4:=K.o.size;have h5:W.heap.size<=b:=h;omega) (fun e=>by
    rcases h1 with h|h
    ·have:=G.o.lo b h;omega
    ·have h3:=g0.o;have h4:=K.o.size;have h5:W.heap.size<=b:=h;omega)⟩) b8.size)
   clear g9 b8;refine⟨⟨f6.o,k4.o⟩,?_⟩;go_frame;refine zF ?_;go_wp2
   (try simp only[Exit.inBlock,Exit.then])
   refine bodyPost_ret (zK rfl _ _ (w.heap.size+1) (cn) c7.o rfl b0.o) rfl ?_;exact TQ.ok HF.o j9.o f6.o
 ·obtain⟨ta,tb,rfl⟩:=len2 hn
  clear hn;rcases hk with hk|rfl
  ·obtain⟨A,c,rfl,h2⟩:=G.o.row.inv
   obtain⟨b3,o3,rfl,a1,hc⟩:=h2 (by simp);have l7:=I a1;obtain⟨m9,d1,a4,N⟩:=hc 0 ta rfl;obtain⟨x0,b2⟩:∃ x,kT ta= x:=⟨_,rfl⟩;obtain⟨X0,Y0,rfl,c9,d0⟩:=N.form b2;have a5:w.rangeAt b3 (o3) [.int .i64 x0,X0,Y0]:=by simpa using a4
   have d8:Hid (([.int .i64 x0,X0,Y0]:List Value).length= 3):=I rfl;have f9:=I N;have d7:=I b2;have O:=I (And.intro c9 d0);have m8:=I (zl N.typ).2;have a9:=I (fun z (F:Below w.heap.size w z)=>zb a5 F a1);clear d1 a4 N a5 c9 d0 b2;obtain⟨s9,g8,d4,a3⟩:=hc 1 tb rfl;obtain⟨x1,e5⟩:∃ x,kT tb= x:=⟨_,rfl⟩;obtain⟨X1,Y1,rfl,g5,g6⟩:=a3.form e5;have d6:w.rangeAt b3 (o3+3) [.int .i64 x1,X1,Y1]:=by simpa using d4
   have i0:Hid (([.int .i64 x1,X1,Y1]:List Value).length= 3):=I rfl;have m3:=I a3;have l9:=I e5;have d3:=I (And.intro g5 g6);have r7:=I (zl a3.typ).2;have i1:=I (fun z (F:Below w.heap.size w z)=>zb d6 F a1);clear g8 d4 a3 d6 g5 g6 e5;clear hc h2 a1;have C7:(k ==1)= false:=by rw[beq_eq_false_iff_ne];omega
   have C8:(k ==2)= false:=by rw[beq_eq_false_iff_ne];omega
   have v8:(k ==15)= false:=by rw[beq_eq_false_iff_ne];omega
   have v9:(k ==16)= false:=by rw[beq_eq_false_iff_ne];omega
   have w2:(k ==17)= false:=by rw[beq_eq_false_iff_ne];omega
   have w3:(k ==18)= false:=by rw[beq_eq_false_iff_ne];omega
   have w4:(k ==19)= false:=by rw[beq_eq_false_iff_ne];omega
   have n4:Hid (∀ z,Below w.heap.size w z->Calls Tryz.prog 152 #[.int .i64 k,.agg ⟨[.int .i64 x0,X0,Y0]⟩,.agg ⟨[.int .i64 x1,X1,Y1]⟩] z (TQ p (pairT k ta tb) z)):=I fun z F=>z8s p k ta tb [.int .i64 x0,X0,Y0] [.int .i64 x1,X1,Y1] z hk (f9.o.next F) (m3.o.next F) (fun b hb=>Nat.lt_of_lt_of_le (G.o.lo b hb) F.size) (G.o.oks ta (by simp)).1 (G.o.oks tb (by simp)).1 (j1.o ta (by simp)) (j1.o tb (by simp)) (G.o.oks ta (by simp)).2.1 (G.o.oks tb (by simp)).2.1;have o5:Hid (∀ z,Below w.heap.size w z->Calls Tryz.prog 152 #[.int .i64 k,.agg ⟨[.int .i64 x0,X0,Y0]⟩,.agg ⟨[.int .i64 x1,X1,Y1]⟩] z (TQ p (ownT E k s v ns [ta,tb]) z)):=I (by rw[zei hk];exact n4.o);clear n4;go_upto_region 31 with (fail);clear e0 e1;have K:=p5;have hs:Below w.heap.size w W.drew/\W.drew.cell? ⟨w.heap.size,0,none⟩= some (.pointer (some ⟨b,o,none⟩)):=⟨(C.o _ K.o).drew,d9.o _ K.o.drew⟩;refine zr [(0,true),(1,true),(2,true),(3,true),(4,true),(5,true),(6,true),(7,true),(8,true),(9,true),(10,false),(11,false)] (fun z=>Below w.heap.size w z/\z.cell? ⟨w.heap.size,0,none⟩= some (.pointer (some ⟨b,o,none⟩))) (by kernel_rfl) (by intro c a d v w h;cases d<;>exact h) ?_;refine z7 153 (.pointer (some ⟨b,o,none⟩)) rfl rfl rfl hs (fun z F=>by have e3:=F.2;clear F;go_simp) ?_;go_frame;refine z7 154 (.pointer (some ⟨b,o,none⟩)) rfl rfl rfl hs (fun z F=>by go_simp) ?_;go_frame;refine z7 155 (.pointer (some ⟨b,o,none⟩)) rfl rfl rfl hs (fun z F=>by go_simp) ?_;go_frame;refine z7 156 (.int .i64 k) rfl rfl rfl hs (fun z F=>by have e3:=h8.o z F.1 0 _ HC.o.1;clear F;rw[Nat.add_zero] at e3;go_simp) ?_;go_frame;refine zf 157 (.slice (some ⟨b3,o3,none⟩) [ta,tb].length c) rfl rfl rfl rfl hs rfl ?_;go_frame;refine z7 158 (.pointer (some ⟨b3,o3,none⟩)) rfl rfl rfl hs (fun z F=>by go_simp) ?_;go_frame;refine z7 159 (.agg ⟨[.int .i64 x0,X0,Y0]⟩) rfl rfl rfl hs (fun z F=>zt 41 rfl (b3) (o3) ([.int .i64 x0,X0,Y0]) _ rfl (a9.o z F.1) Tryz.underlying41 rfl (by rw[d8.o];kernel_rfl)) ?_;go_frame;refine zf 160 (.slice (some ⟨b3,o3,none⟩) [ta,tb].length c) rfl rfl rfl rfl hs rfl ?_;go_frame;refine z7 161 (.pointer (some ⟨b3,o3+3,none⟩)) rfl rfl rfl hs (fun z F=>by go_simp) ?_;go_frame;refine z7 162 (.agg ⟨[.int .i64 x1,X1,Y1]⟩) rfl rfl rfl hs (fun z F=>zt 41 rfl (b3) (o3+3) ([.int .i64 x1,X1,Y1]) _ rfl (i1.o z F.1) Tryz.underlying41 rfl (by rw[i0.o];kernel_rfl)) ?_;go_frame;refine z45 (some 163) 152 Tryz.func152 (by kernel_rfl) (by kernel_rfl) [.int .i64 k,.agg ⟨[.int .i64 x0,X0,Y0]⟩,.agg ⟨[.int .i64 x1,X1,Y1]⟩] _ _ _ rfl rfl rfl (by exact wA rfl) rfl ?_;refine(o5.o _ hs.1).mono ?_;rintro e u6 (⟨tn,cn,d2,rfl,b1,c5⟩|⟨m,n,d2,hn,rfl,c5⟩);case inr=>exact .inr ⟨_,rfl,rfl,TQ.no d2 hn ((C.o _ K.o).drew.trans (c5.mono (C.o _ K.o).size))⟩
   have HF:=I d2;clear d2;have f2:=I b1;have c7:=I (zl b1.typ).1;have e9:=I (zl b1.typ).2;have a2:Hid (Below W.heap.size W u6):=I ((K.o.trans ((Below.refl _ _).drew.mono K.o.size)).trans (c5.mono (Nat.le_trans K.o.size (Nat.le_refl _))));clear b1 c5;refine .inl ⟨_,rfl,⟨C.o _ a2.o,d9.o _ a2.o⟩,?_⟩;go_frame;refine z1y none 41 _ _ _ rfl rfl rfl (by exact wA rfl) (w.heap.size+1) zT3 cn (f0.o _ a2.o) (by rw[c7.o];rfl) rfl rfl (by rw[c7.o];kernel_rfl) e9.o ?_;intro wf g9 b8;have f6:Hid (Below w.heap.size w wf):=I ((C.o _ a2.o).trans (b8.below (C.o _ a2.o).size (by omega) (by omega)));have b0:=I g9;have k4:Hid (wf.cell? ⟨w.heap.size,0,none⟩= some (.pointer (some ⟨b,o,none⟩))):=I ((World.cell?_of_block (a:=⟨w.heap.size,0,none⟩) (b8.block w.heap.size (Nat.lt_of_lt_of_le j2.o.lt a2.o.size) (by omega) (by omega))).trans (d9.o _ a2.o));have j9:Hid (KeptT (fun b=>p b\/w.heap.size<=b) wf cn tn):=I (f2.o.to (fun b h1 h2=>⟨h1.imp id fun h=>Nat.le_trans (C.o _ K.o).size h,b8.block b h2 (fun e=>by
    rcases h1 with h|h
    ·have:=G.o.lo b h;omega
    ·have h3:=g0.o;have h4:=K.o.size;have h5:W.heap.size<=b:=h;omega) (fun e=>by
    rcases h1 with h|h
    ·have:=G.o.lo b h;omega
    ·have h3:=g0.o;have h4:=K.o.size;have h5:W.heap.size<=b:=h;omega)⟩) b8.size)
   clear g9 b8;refine⟨⟨f6.o,k4.o⟩,?_⟩;go_frame;refine zF ?_;go_wp2
   (try simp only[Exit.inBlock,Exit.then])
   refine bodyPost_ret (zK rfl _ _ (w.heap.size+1) (cn) c7.o rfl b0.o) rfl ?_;exact TQ.ok HF.o j9.o f6.o
  ·obtain⟨A,c,rfl,h2⟩:=G.o.row.inv
   obtain⟨b3,o3,rfl,a1,hc⟩:=h2 (by simp);have l7:=I a1;obtain⟨m9,d1,a4,N⟩:=hc 0 ta rfl;obtain⟨x0,b2⟩:∃ x,kT ta= x:=⟨_,rfl⟩;obtain⟨X0,Y0,rfl,c9,d0⟩:=N.form b2;have a5:w.rangeAt b3 (o3) [.int .i64 x0,X0,Y0]:=by simpa using a4
   have d8:Hid (([.int .i64 x0,X0,Y0]:List Value).length= 3):=I rfl;have f9:=I N;have d7:=I b2;have O:=I (And.intro c9 d0);have m8:=I (zl N.typ).2;have a9:=I (fun z (F:Below w.heap.size w z)=>zb a5 F a1);clear d1 a4 N a5 c9 d0 b2;obtain⟨s9,g8,d4,a3⟩:=hc 1 tb rfl;obtain⟨x1,e5⟩:∃ x,kT tb= x:=⟨_,rfl⟩;obtain⟨X1,Y1,rfl,g5,g6⟩:=a3.form e5;have d6:w.rangeAt b3 (o3+3) [.int .i64 x1,X1,Y1]:=by simpa using d4
   have i0:Hid (([.int .i64 x1,X1,Y1]:List Value).length= 3):=I rfl;have m3:=I a3;have l9:=I e5;have d3:=I (And.intro g5 g6);have r7:=I (zl a3.typ).2;have i1:=I (fun z (F:Below w.heap.size w z)=>zb d6 F a1);clear g8 d4 a3 d6 g5 g6 e5;clear hc h2 a1;have i3:Hid (ownT E 19 s v ns [ta,tb]= if kT ta= 5/\kT tb= 2/\kT (item0 ta)≠7 then(Except.ok (item0 ta):Except Int TT) else Except.error 6):=I rfl;by_cases k5:x0= 5
   ·subst k5
    by_cases k2:x1= 2
    ·subst k2
     obtain⟨a,ha⟩:=(G.o.oks ta (by simp)).2.2 d7.o;cases ta with
     |mk k0 na ia=>
     obtain rfl:ia=[a]:=ha;obtain rfl:k0= 5:=d7.o;obtain⟨NA,nc,A4,c4,e4,_,_,_,h3⟩:=f9.o.inv;simp only[List.cons.injEq,and_true,true_and] at e4;obtain⟨rfl,rfl⟩:=e4;obtain⟨b4,o4,rfl,n0,l1⟩:=h3 (by simp);obtain⟨ca,C2,v2,n1⟩:=l1 0 a rfl;have o1:w.rangeAt b4 o4 ca:=by simpa using v2
     obtain⟨xa,r1⟩:∃ x,kT a= x:=⟨_,rfl⟩;obtain⟨XA,YA,rfl,t4,t6⟩:=n1.form r1;have j0:=I (fun z (F:Below w.heap.size w z)=>zb o1 F n0);have i4:=I (And.intro t4 t6);have x6:=I n1;have s6:=I r1;have n7:Hid (([.int .i64 5,.slice NA na.length nc,.slice (some ⟨b4,o4,none⟩) [a].length c4]:List Value).length= 3):=I rfl;have k3:Hid (([.int .i64 xa,XA,YA]:List Value).length= 3):=I rfl;have c8:Hid (W.rangeAt b3 o3 [.int .i64 5,.slice NA na.length nc,.slice (some ⟨b4,o4,none⟩) [a].length c4]):=I (a9.o W a8.o);have y7:=I (zl n1.typ).2;clear h3 l1 v2 o1 C2 n1 t4 t6 r1 n0;by_cases k7:xa= 7
     ·subst k7
      have HF:Hid (ownT E 19 s v ns [.mk 5 na [a],tb]= .error 6):=I (by rw[i3.o];exact if_neg fun h=>h.2.2 s6.o);go_wp2_with (first|((with_reducible refine za tyK41 _ rfl ?_ c8.o rfl n7.o ?_);exact wA rfl)|((with_reducible refine za tyK41 _ rfl ?_ k8.o rfl i0.o ?_);exact wA rfl)|((with_reducible refine za tyK41 _ rfl ?_ p2.o rfl k3.o ?_);exact wA rfl)|(go_at_call 149;refine(tone1 5 5 _ _ W O.o.1 O.o.2).k42 ?_;intro z0 b5;have f4:=I b5.o;have k8:=I (i1.o z0 (C.o z0 f4.o)))|(go_at_call 149;refine(tone1 2 2 X1 Y1 z0 d3.o.1 d3.o.2).k42 ?_;intro z1 f8;have i2:=I (beT f4.o f8.o);have B7:z1.cell? ⟨b3,o3+2,none⟩= some (.slice (some ⟨b4,o4,none⟩) [a].length c4):=a9.o z1 (C.o z1 i2.o) 2 _ rfl;have p2:=I (j0.o z1 (C.o z1 i2.o)))|(go_at_call 149;refine(tone1 7 7 XA YA z1 i4.o.1 i4.o.2).k42 ?_;intro z2 j6;have f1:=I (beT i2.o j6.o);have B6:z2.cell? ⟨b3,o3+2,none⟩= some (.slice (some ⟨b4,o4,none⟩) [a].length c4):=a9.o z2 (C.o z2 f1.o) 2 _ rfl;have r9:=I (j0.o z2 (C.o z2 f1.o));have g3:=I (f0.o z2 f1.o);have c6:=I (C.o z2 f1.o))|(go_at_call 109;refine(z06 6 _).e42 ?_));exact⟨rfl,TQ.no HF.o (by decide) (C.o _ f1.o)⟩
     ·have q7:(xa ==7)= false:=by rw[beq_eq_false_iff_ne];exact k7
      have HF:Hid (ownT E 19 s v ns [.mk 5 na [a],tb]= .ok a):=I (by rw[i3.o];exact if_pos ⟨d7.o,l9.o,fun h=>k7 (s6.o.symm.trans h)⟩);go_wp2_with (first|((with_reducible refine za tyK41 _ rfl ?_ c8.o rfl n7.o ?_);exact wA rfl)|((with_reducible refine za tyK41 _ rfl ?_ k8.o rfl i0.o ?_);exact wA rfl)|((with_reducible refine za tyK41 _ rfl ?_ p2.o rfl k3.o ?_);exact wA rfl)|((with_reducible refine za tyK41 _ rfl ?_ r9.o rfl k3.o ?_);exact wA rfl)|(go_at_call 149;refine(tone1 5 5 _ _ W O.o.1 O.o.2).k42 ?_;intro z0 b5;have f4:=I b5.o;have k8:=I (i1.o z0 (C.o z0 f4.o)))|(go_at_call 149;refine(tone1 2 2 X1 Y1 z0 d3.o.1 d3.o.2).k42 ?_;intro z1 f8;have i2:=I (beT f4.o f8.o);have B7:z1.cell? ⟨b3,o3+2,none⟩= some (.slice (some ⟨b4,o4,none⟩) [a].length c4):=a9.o z1 (C.o z1 i2.o) 2 _ rfl;have p2:=I (j0.o z1 (C.o z1 i2.o)))|(go_at_call 149;refine(tone1 xa 7 XA YA z1 i4.o.1 i4.o.2).k42 ?_;intro z2 j6;have f1:=I (beT i2.o j6.o);have B6:z2.cell? ⟨b3,o3+2,none⟩= some (.slice (some ⟨b4,o4,none⟩) [a].length c4):=a9.o z2 (C.o z2 f1.o) 2 _ rfl;have r9:=I (j0.o z2 (C.o z2 f1.o));have g3:=I (f0.o z2 f1.o);have c6:=I (C.o z2 f1.o))|(go_at_call 109;refine(z0q 6 _).e42 ?_)|((with_reducible refine zg 41 _ _ rfl rfl ?_ g3.o ([.int .i64 xa,XA,YA]) ?_ ?_ ?_ ?_ ?_ ?_);exact wA rfl;rfl;rfl;rfl;kernel_rfl;exact y7.o;intro Z b0 a0))
      (try simp only[Exit.inBlock,Exit.then])
      refine bodyPost_ret (zK rfl _ _ (w.heap.size+1) ([.int .i64 xa,XA,YA]) rfl rfl b0.o) rfl ?_;exact TQ.ok HF.o (x6.o.to (fun b hb hl=>⟨.inl hb,(a0.o.block b (Nat.lt_of_lt_of_le hl c6.o.size) (by have:=G.o.lo b hb;omega) (by have:=G.o.lo b hb;omega)).trans (c6.o.block b hl)⟩) (Nat.le_trans c6.o.size a0.o.size)) (c6.o.trans (a0.o.below c6.o.size (by omega) (by omega)))
    ·have q2:(x1 ==2)= false:=by rw[beq_eq_false_iff_ne];exact k2
     have HF:Hid (ownT E 19 s v ns [ta,tb]= .error 6):=I (by rw[i3.o];exact if_neg fun h=>k2 (l9.o.symm.trans h.2.1));have c8:Hid (W.rangeAt b3 o3 [.int .i64 5,X0,Y0]):=I (a9.o W a8.o);go_wp2_with (first|((with_reducible refine za tyK41 _ rfl ?_ c8.o rfl d8.o ?_);exact wA rfl)|((with_reducible refine za tyK41 _ rfl ?_ k8.o rfl i0.o ?_);exact wA rfl)|(go_at_call 149;refine(tone1 5 5 X0 Y0 W O.o.1 O.o.2).k42 ?_;intro z0 b5;have f4:=I b5.o;have k8:=I (i1.o z0 (C.o z0 f4.o)))|(go_at_call 149;refine(tone1 x1 2 X1 Y1 z0 d3.o.1 d3.o.2).k42 ?_;intro z1 f8)|(go_at_call 109;refine(z06 6 _).e42 ?_));exact⟨rfl,TQ.no HF.o (by decide) ((C.o _ f4.o).trans (f8.o.mono (C.o _ f4.o).size))⟩
   ·have q5:(x0 ==5)= false:=by rw[beq_eq_false_iff_ne];exact k5
    have HF:Hid (ownT E 19 s v ns [ta,tb]= .error 6):=I (by rw[i3.o];exact if_neg fun h=>k5 (d7.o.symm.trans h.1));have c8:Hid (W.rangeAt b3 o3 [.int .i64 x0,X0,Y0]):=I (a9.o W a8.o);go_wp2_with (first|((with_reducible refine za tyK41 _ rfl ?_ c8.o rfl d8.o ?_);exact wA rfl)|(go_at_call 149;refine(tone1 x0 5 X0 Y0 W O.o.1 O.o.2).k42 ?_;intro z0 b5)|(go_at_call 109;refine(z06 6 _).e42 ?_));exact⟨rfl,TQ.no HF.o (by decide) (C.o _ b5.o)⟩
 ·obtain⟨ta,tb,tc,rfl⟩:=len3 hn
  clear hn;obtain⟨A,c,rfl,h2⟩:=G.o.row.inv;obtain⟨b3,o3,rfl,a1,hc⟩:=h2 (by simp);have l7:=I a1;obtain⟨m9,d1,a4,N⟩:=hc 0 ta rfl;obtain⟨x0,b2⟩:∃ x,kT ta= x:=⟨_,rfl⟩;obtain⟨X0,Y0,rfl,c9,d0⟩:=N.form b2;have a5:w.rangeAt b3 (o3) [.int .i64 x0,X0,Y0]:=by simpa using a4
  have d8:Hid (([.int .i64 x0,X0,Y0]:List Value).length= 3):=I rfl;have f9:=I N;have d7:=I b2;have O:=I (And.intro c9 d0);have m8:=I (zl N.typ).2;have a9:=I (fun z (F:Below w.heap.size w z)=>zb a5 F a1);clear d1 a4 N a5 c9 d0 b2;obtain⟨s9,g8,d4,a3⟩:=hc 1 tb rfl;obtain⟨x1,e5⟩:∃ x,kT tb= x:=⟨_,rfl⟩;obtain⟨X1,Y1,rfl,g5,g6⟩:=a3.form e5;have d6:w.rangeAt b3 (o3+3) [.int .i64 x1,X1,Y1]:=by simpa using d4
  have i0:Hid (([.int .i64 x1,X1,Y1]:List Value).length= 3):=I rfl;have m3:=I a3;have l9:=I e5;have d3:=I (And.intro g5 g6);have r7:=I (zl a3.typ).2;have i1:=I (fun z (F:Below w.heap.size w z)=>zb d6 F a1);clear g8 d4 a3 d6 g5 g6 e5;obtain⟨E5,u4,n9,i7⟩:=hc 2 tc rfl;obtain⟨x2,r0⟩:∃ x,kT tc= x:=⟨_,rfl⟩;obtain⟨X2,Y2,rfl,t3,t5⟩:=i7.form r0;have o0:w.rangeAt b3 (o3+6) [.int .i64 x2,X2,Y2]:=by simpa using n9
  have y1:Hid (([.int .i64 x2,X2,Y2]:List Value).length= 3):=I rfl;have x5:=I i7;have E2:=I r0;have D3:=I (And.intro t3 t5);have E3:=I (zl i7.typ).2;have A2:=I (fun z (F:Below w.heap.size w z)=>zb o0 F a1);clear u4 n9 i7 o0 t3 t5 r0;clear hc h2 a1;have j7:Hid (ownT E 15 s v ns [ta,tb,tc]= match joinT tb tc with|some t=>if kT ta= 1 then Except.ok t else Except.error 6|none=>(Except.error 6:Except Int TT)):=I rfl;by_cases k1:x0= 1
  ·subst k1
   have o7:Hid (joinT tb tc= none->ownT E 15 s v ns [ta,tb,tc]= .error 6):=I fun h=>by rw[j7.o,h]
   have x4:Hid (∀ t,joinT tb tc= some t->ownT E 15 s v ns [ta,tb,tc]= .ok t):=I fun t h=>by rw[j7.o,h];exact if_pos d7.o
   have m2:Hid (∀ z,Below w.heap.size w z->Calls Tryz.prog 112 #[.agg ⟨[.int .i64 x1,X1,Y1]⟩,.agg ⟨[.int .i64 x2,X2,Y2]⟩] z (JPost p (joinT tb tc) z)):=I fun z F=>z2E tb tc (G.o.oks tb (by simp)).1 (G.o.oks tc (by simp)).1 (j1.o tb (by simp)) (j1.o tc (by simp)) p [.int .i64 x1,X1,Y1] [.int .i64 x2,X2,Y2] z (fun b hb=>Nat.lt_of_lt_of_le (G.o.lo b hb) F.size) (m3.o.next F) (x5.o.next F);have c8:Hid (W.rangeAt b3 o3 [.int .i64 1,X0,Y0]):=I (a9.o W a8.o);go_upto_region 10 with (first|((with_reducible refine za tyK41 _ rfl ?_ c8.o rfl d8.o ?_);exact wA rfl)|(go_at_call 149;refine(tone1 1 1 X0 Y0 W O.o.1 O.o.2).k42 ?_;intro z0 K)|(go_at_call 109;refine(z0q 6 _).e42 ?_));clear e0 e1;have hs:Below w.heap.size w z0.drew/\z0.drew.cell? ⟨w.heap.size,0,none⟩= some (.pointer (some ⟨b,o,none⟩)):=⟨(C.o _ K.o).drew,d9.o _ K.o.drew⟩;refine zr [(0,true),(1,true),(2,true),(3,true),(4,true),(5,true),(6,false),(7,false)] (fun z=>Below w.heap.size w z/\z.cell? ⟨w.heap.size,0,none⟩= some (.pointer (some ⟨b,o,none⟩))) (by kernel_rfl) (by intro c a d v w h;cases d<;>exact h) ?_;refine zf 51 (.slice (some ⟨b3,o3,none⟩) [ta,tb,tc].length c) rfl rfl rfl rfl hs rfl ?_;go_frame;refine z7 52 (.pointer (some ⟨b3,o3+3,none⟩)) rfl rfl rfl hs (fun z F=>by go_simp) ?_;go_frame;refine z7 53 (.agg ⟨[.int .i64 x1,X1,Y1]⟩) rfl rfl rfl hs (fun z F=>zt 41 rfl (b3) (o3+3) ([.int .i64 x1,X1,Y1]) _ rfl (i1.o z F.1) Tryz.underlying41 rfl (by rw[i0.o];kernel_rfl)) ?_;go_frame;refine zf 54 (.slice (some ⟨b3,o3,none⟩) [ta,tb,tc].length c) rfl rfl rfl rfl hs rfl ?_;go_frame;refine z7 55 (.pointer (some ⟨b3,o3+6,none⟩)) rfl rfl rfl hs (fun z F=>by go_simp) ?_;go_frame;refine z7 56 (.agg ⟨[.int .i64 x2,X2,Y2]⟩) rfl rfl rfl hs (fun z F=>zt 41 rfl (b3) (o3+6) ([.int .i64 x2,X2,Y2]) _ rfl (A2.o z F.1) Tryz.underlying41 rfl (by rw[y1.o];kernel_rfl)) ?_;go_frame;refine z45 (some 57) 112 Tryz.func112 (by kernel_rfl) (by kernel_rfl) [.agg ⟨[.int .i64 x1,X1,Y1]⟩,.agg ⟨[.int .i64 x2,X2,Y2]⟩] _ _ _ rfl rfl rfl (by exact wA rfl) rfl ?_;refine(m2.o _ hs.1).mono ?_;rintro e u6 (⟨tn,cn,d2,rfl,b1,c5⟩|⟨d2,rfl,c5⟩);case inr=>
    have HF:=o7.o d2;refine .inr ⟨_,rfl,rfl,TQ.no HF (by decide) ((C.o _ K.o).drew.trans (c5.mono (C.o _ K.o).size))⟩
   have HF:=I (x4.o tn d2);clear d2;have f2:=I b1;have c7:=I (zl b1.typ).1;have e9:=I (zl b1.typ).2;have a2:Hid (Below W.heap.size W u6):=I ((K.o.trans ((Below.refl _ _).drew.mono K.o.size)).trans (c5.mono (Nat.le_trans K.o.size (Nat.le_refl _))));clear b1 c5;refine .inl ⟨_,rfl,⟨C.o _ a2.o,d9.o _ a2.o⟩,?_⟩;go_frame;refine z1y none 41 _ _ _ rfl rfl rfl (by exact wA rfl) (w.heap.size+1) zT3 cn (f0.o _ a2.o) (by rw[c7.o];rfl) rfl rfl (by rw[c7.o];kernel_rfl) e9.o ?_;intro wf g9 b8;have f6:Hid (Below w.heap.size w wf):=I ((C.o _ a2.o).trans (b8.below (C.o _ a2.o).size (by omega) (by omega)));have b0:=I g9;have k4:Hid (wf.cell? ⟨w.heap.size,0,none⟩= some (.pointer (some ⟨b,o,none⟩))):=I ((World.cell?_of_block (a:=⟨w.heap.size,0,none⟩) (b8.block w.heap.size (Nat.lt_of_lt_of_le j2.o.lt a2.o.size) (by omega) (by omega))).trans (d9.o _ a2.o));have j9:Hid (KeptT (fun b=>p b\/w.heap.size<=b) wf cn tn):=I (f2.o.to (fun b h1 h2=>⟨h1.imp id fun h=>Nat.le_trans (C.o _ K.o).size h,b8.block b h2 (fun e=>by
    rcases h1 with h|h
    ·have:=G.o.lo b h;omega
    ·have h3:=g0.o;have h4:=K.o.size;have h5:z0.heap.size<=b:=h;omega) (fun e=>by
    rcases h1 with h|h
    ·have:=G.o.lo b h;omega
    ·have h3:=g0.o;have h4:=K.o.size;have h5:z0.heap.size<=b:=h;omega)⟩) b8.size)
   clear g9 b8;refine⟨⟨f6.o,k4.o⟩,?_⟩;go_frame;refine zF ?_;go_wp2
   (try simp only[Exit.inBlock,Exit.then])
   refine bodyPost_ret (zK rfl _ _ (w.heap.size+1) (cn) c7.o rfl b0.o) rfl ?_;exact TQ.ok HF.o j9.o f6.o
  ·have q1:(x0 ==1)= false:=by rw[beq_eq_false_iff_ne];exact k1
   have HF:Hid (ownT E 15 s v ns [ta,tb,tc]= .error 6):=I (by
    rw[j7.o];cases joinT tb tc with
    |none=>rfl
    |some t=>exact if_neg (fun h=>k1 (d7.o.symm.trans h)))
   have c8:Hid (W.rangeAt b3 o3 [.int .i64 x0,X0,Y0]):=I (a9.o W a8.o);go_wp2_with (first|((with_reducible refine za tyK41 _ rfl ?_ c8.o rfl d8.o ?_);exact wA rfl)|(go_at_call 149;refine(tone1 x0 1 X0 Y0 W O.o.1 O.o.2).k42 ?_;intro z0 b5)|(go_at_call 109;refine(z06 6 _).e42 ?_));exact⟨rfl,TQ.no HF.o (by decide) (C.o _ b5.o)⟩
 ·rcases hk with rfl|rfl
  ·obtain⟨A,c,rfl,h2⟩:=G.o.row.inv
   have F7:l.length<=1000:=G.o.llen;have o9:=I h2;clear h2;obtain⟨jt,hi,v5,v6,C4⟩:=zX z1F;have A8:=I hi;have A9:=I v5;have B0:=I v6;clear hi v5 v6 C4;go_upto_region 13 with (first|(go_at_call 146;refine(z18 7 (zB 7 (by decide +kernel)) _).k42 ?_;intro Y HY)|((with_reducible refine z0T 41 _ _ rfl rfl ?_ (Y.heap.size) zT3 (tyC 7 (.slice none 0 0) (.slice none 0 0)) ?_ ?_ ?_ ?_ ?_ ?_ ?_);(exact wA rfl);exact Whole.new Y zT3 41;rfl;rfl;rfl;kernel_rfl;exact zJ _ _ _ _ _ _ _;intro X F hb;have s3:=I F;have B3:=I hb;clear F hb));clear e0 e1;have B4:Hid (Below Y.heap.size Y X):=I ((zc Y (.cells zT3.toArray 41)).trans (B3.o.below (zc Y (.cells zT3.toArray 41)).size (Nat.le_refl _) (Nat.le_refl _)));obtain⟨q,hq⟩:∃ q,Y.heap.size= q:=⟨_,rfl⟩;have HQ:=I hq;rw[hq] at s3;rw[hq];clear hq;go_wp2;go_loopg [63] l.length (fun g i u=>∃ (j:Nat) (cs:List Value) (t:TT),j+g= l.length/\i= .int .i64 j/\Whole 41 u q cs/\cs.length= 3/\(∀ x∈cs,x.oneCell'= true)/\KeptT (fun b=>(p b\/Y.heap.size<=b)/\b≠q) u cs t/\foldT (pT 7) (l.take j)= some t/\stT t= true/\Below Y.heap.size Y u);case atStart=>exact⟨0,_,pT 7,by omega,rfl,s3.o,rfl,zJ _ _ _ _ _ _ _,z0A (zB 7 (by decide +kernel)),by rw[List.take_zero,foldT],rfl,B4.o⟩
   case round=>
    obtain⟨j,cs,t,hj,rfl,hw,hl,ho,hk,hf,o2,hb⟩:=hrel;have p4:=I hw;have h9:=I hl;have E1:=I ho;have r6:=I hk;have m0:=I hf;have n8:=I o2;have k9:=I hb;clear hw hl ho hk hf hb o2;obtain⟨V,hV⟩:∃ z,z= wr:=⟨_,rfl⟩;subst hV;have s2:Hid (Below W.heap.size W V):=I (beT HY.o k9.o);have h7:Hid (Below w.heap.size w V):=I (C.o V s2.o);have p1:Hid (Whole 41 V (w.heap.size+1) zT3):=I (f0.o V s2.o);cases gk with
    |zero=>
     obtain rfl:j= l.length:=by omega
     have F1: ¬ ((l.length:Int) <(l.length:Int)):=by omega
     have o6:Hid (foldT (pT 7) l= some t):=I (by have h:=m0.o;rwa [List.take_length] at h);have HF:Hid (ownT E 16 s v ns l= .ok (.mk 5 [] [t])):=I (by show(match foldT (pT 7) l with|some t=>Except.ok (TT.mk 5 [] [t])|none=>(Except.error 6:Except Int TT))= _;rw[o6.o]);have i8:=I (zc V (.cells ⟨cs⟩ 41));have A3:Hid (Whole 41 (V.alloc (.cells ⟨cs⟩ 41)) (w.heap.size+1) zT3):=I (p1.o.keep (i8.o.block _ p1.o.lt));have s0:Hid (Whole 41 (V.alloc (.cells ⟨cs⟩ 41)) V.heap.size cs):=I (Whole.new V cs 41);have m5:Hid (w.heap.size+1 < V.heap.size):=I p1.o.lt;have o8:Hid (w.heap.size+1 < Y.heap.size/\w.heap.size<=V.heap.size):=I ⟨Nat.lt_of_lt_of_le g0.o HY.o.size,h7.o.size⟩;go_wp2_with (first|((with_reducible refine za tyK41 _ rfl ?_ p4.o.range rfl h9.o ?_);exact wA rfl)|((with_reducible refine z1u 39 _ rfl ?_ 41 jt _ cs ?_ Tryz.underlying39 A8.o A9.o ?_ ?_ ?_ ?_);(exact wA rfl);rfl;rw[h9.o];exact B0.o;rw[h9.o];decide;rw[h9.o];decide)|((with_reducible refine zg 41 _ _ rfl rfl ?_ A3.o (tyC 5 (.slice none 0 0) (.slice (some ⟨V.heap.size,0,none⟩) 1 1)) ?_ ?_ ?_ ?_ ?_ ?_);exact wA rfl;rfl;rfl;rfl;kernel_rfl;exact(zJ _ _ _ _ _ _ _);intro Z b0 a0))
     (try simp only[Exit.inBlock,Exit.then])
     refine bodyPost_ret (zK rfl _ _ (w.heap.size+1) (tyC 5 (.slice none 0 0) (.slice (some ⟨V.heap.size,0,none⟩) 1 1)) rfl rfl b0.o) rfl ?_;refine TQ.ok HF.o ?_ ((beT h7.o i8.o).trans (a0.o.below (Nat.le_trans h7.o.size i8.o.size) (by omega) (by omega)));refine zaP (q:=fun b=>p b\/w.heap.size<=b) (t:=t) ?_ (s0.o.keep (a0.o.block _ s0.o.lt (by have:=m5.o;omega) (by have:=m5.o;omega))) (.inr o8.o.2);refine r6.o.to (fun b h1 h2=>⟨h1.1.imp id fun h=>by have:=o8.o;omega,?_⟩) (Nat.le_trans i8.o.size a0.o.size);have f5:b≠w.heap.size+1:=fun e=>by
      have:=o8.o;rcases h1.1 with h|h
      ·have:=G.o.lo b h;omega
      ·omega
     exact(a0.o.block b (Nat.lt_of_lt_of_le h2 i8.o.size) f5 f5).trans (i8.o.block b h2)
    |succ g=>
     have F8:(j:Int) <(l.length:Int):=by omega
     have C5:j < l.length:=by omega
     obtain⟨x,hx⟩:∃ x,l[j]?= some x:=⟨_,List.getElem?_eq_getElem C5⟩;obtain⟨b3,o3,rfl,a1,hc⟩:=o9.o (by omega);obtain⟨kx,u9,v3,q3⟩:=hc j x hx;have HX:=I hx;have m7:=I u9;have y9:=I (zl q3.typ).2;have y0:=I q3;have A5:=I (zb v3 h7.o a1);clear hx u9 v3 q3 hc a1;go_upto_region 16 with (first|((with_reducible refine za tyK41 _ rfl ?_ A5.o rfl m7.o ?_);exact wA rfl)|((with_reducible refine zW tyK41 _ _ rfl ?_ V m7.o y9.o rfl ?_ ?_ ?_ ?_);exact wA rfl;rfl;rfl;rfl;intro Z1 p6));have f3:Hid (Below V.heap.size V Z1):=I p6.o.below;have g4:=I (p4.o.keep (f3.o.block _ p4.o.lt));obtain⟨pp,n3⟩:∃ pp:Nat->Prop,pp= fun b=>((p b\/Y.heap.size<=b)/\b≠q)/\b < Z1.heap.size:=⟨_,rfl⟩;have p0:Hid (∀ b,pp b->((p b\/Y.heap.size<=b)/\b≠q)/\b < Z1.heap.size):=I fun b hb=>by rw[n3] at hb;exact hb
     have u0:KeptT pp Z1 cs t:=r6.o.to (fun b h1 h2=>⟨by rw[n3];exact⟨h1,Nat.lt_of_lt_of_le h2 f3.o.size⟩,f3.o.block b h2⟩) f3.o.size;have u1:KeptT pp Z1 kx x:=(y0.o.next (beT h7.o f3.o)).to (fun b h1 h2=>⟨by rw[n3];exact⟨⟨.inl h1,fun e=>by have:=G.o.lo b h1;have:=(C.o Y HY.o).size;have:=HQ.o;omega⟩,h2⟩,rfl⟩) (Nat.le_refl _);have l2:jok t= true:=z6e (l:=l.take j) (t:=pT 7) rfl (fun y hy=>(G.o.oks y (List.mem_of_mem_take hy)).1) m0.o;have m2:Hid (Calls Tryz.prog 112 #[.agg ⟨cs⟩,.agg ⟨kx⟩] Z1 (JPost pp (joinT t x) Z1)):=I (z2E t x l2 (G.o.oks x (List.mem_of_getElem? HX.o)).1 n8.o (j1.o x (List.mem_of_getElem? HX.o)) pp cs kx Z1 (fun b hb=>(p0.o b hb).2) u0 u1);clear u0 u1 l2 n3;cases hj:joinT t x with
     |none=>
      have o6:Hid (foldT (pT 7) l= none):=I (by
       have h:=z30 m0.o HX.o;rw[hj] at h;exact z4Z h)
      have HF:Hid (ownT E 16 s v ns l= .error 6):=I (by show(match foldT (pT 7) l with|some t=>Except.ok (TT.mk 5 [] [t])|none=>(Except.error 6:Except Int TT))= _;rw[o6.o]);go_wp2_with (first|((with_reducible refine za tyK41 _ rfl ?_ g4.o.range rfl h9.o ?_);exact wA rfl)|((with_reducible refine za tyK41 _ rfl ?_ p6.o.range rfl m7.o ?_);exact wA rfl)|(go_at_call 112;refine m2.o.mono ?_;rintro e z he;obtain⟨rfl,hb⟩:=he.no hj;have l8:=I hb;clear hb he));exact⟨rfl,TQ.no HF.o (by decide) (h7.o.trans ((beT f3.o l8.o).mono h7.o.size))⟩
     |some tn=>
      have o7:Hid (foldT (pT 7) (l.take (j+1))= some tn):=I (by rw[z30 m0.o HX.o,hj]);have A7:Hid (stT tn= true):=I (ze1 t x tn n8.o (j1.o x (List.mem_of_getElem? HX.o)) hj);go_wp2_with (first|((with_reducible refine za tyK41 _ rfl ?_ g4.o.range rfl h9.o ?_);exact wA rfl)|((with_reducible refine za tyK41 _ rfl ?_ p6.o.range rfl m7.o ?_);exact wA rfl)|(go_at_call 112;refine m2.o.mono ?_;rintro e z he;obtain⟨cn,rfl,b1,hb⟩:=he.yes hj;have l8:=I hb;have f2:=I b1;have c7:=I (zl b1.typ).1;have e9:=I (zl b1.typ).2;have s4:=I (g4.o.keep (hb.block _ g4.o.lt));clear hb he b1)|((with_reducible refine z0T 41 _ _ rfl rfl ?_ (q) (cs) (cn) s4.o ?_ ?_ ?_ ?_ ?_ ?_);(exact wA rfl);rw[c7.o,h9.o];rfl;rfl;rw[c7.o];kernel_rfl;exact e9.o;intro Z F hb;have b0:=I F;have a0:=I hb;clear F hb));have A1:Hid (q < Z1.heap.size):=I g4.o.lt;go_roundg g;case measure=>omega
      case rel=>
       refine⟨j+1,cn,tn,by omega,by go_num,b0.o,c7.o,e9.o,?_,o7.o,A7.o,(k9.o.trans ((beT f3.o l8.o).mono k9.o.size)).trans (a0.o.below (Nat.le_trans k9.o.size (Nat.le_trans f3.o.size l8.o.size)) (Nat.le_of_eq HQ.o) (Nat.le_of_eq HQ.o))⟩;refine f2.o.to (fun b h1 h2=> ?_) a0.o.size;have f5:b≠q:=by
        rcases h1 with h|h
        ·exact(p0.o b h).1.2
        ·have:=A1.o;omega
       refine⟨⟨?_,f5⟩,a0.o.block b h2 f5 f5⟩;rcases h1 with h|h
       ·exact(p0.o b h).1.1
       ·exact .inr (Nat.le_trans (Nat.le_trans k9.o.size f3.o.size) h)
  ·obtain⟨vn,v1,q4⟩:∃ vn,ce[8]?= some vn/\SlAt (only w p) w.heap.size 1 StrR vn ns:=HC.o.2.2.2.2.2
   obtain⟨A,c,rfl,_⟩:=G.o.row.inv;obtain⟨_,NA,nc,rfl,_⟩:=id q4;have y6:=I q4;have e8:W.cell? ⟨b,o+8,none⟩= some (.slice NA ns.length nc):=h8.o W a8.o 8 _ v1;have y4:Hid (ns.length<=1000):=I (y5.o rfl);have HF:Hid (ownT E 17 s v ns l= .ok (.mk 6 ns l)):=I rfl;have w8:=I (z1c W (.slice NA ns.length nc) ns ((SlAt.cells y6.o (fun a v hv=>(zu.1 hv).2) fun _ _ _ h=>h).below a8.o (fun _ _ _ h=>h)|>.more a8.o.size) (by have h1:=y4.o;have h2:reachBytes= 140737488351232:=rfl;omega));have j0:Hid (RowA p w (.slice A l.length c) l):=I G.o.row;have m5:=I G.o.llen;clear q4 v1;go_wp2_with (first|(go_at_call 130;refine(w8.o).mono ?_;rintro e z ⟨nv,rfl,hb,hk⟩;have o5:=I hb;obtain⟨-,Av,cv,rfl, -⟩:=id hk;have f2:=I hk;have g3:=I (f0.o z hb);clear hb hk)|((with_reducible refine zg 41 _ _ rfl rfl ?_ g3.o (tyC 6 (.slice Av ns.length cv) (.slice A l.length c)) ?_ ?_ ?_ ?_ ?_ ?_);exact wA rfl;rfl;rfl;rfl;kernel_rfl;exact(zJ _ _ _ _ _ _ _);intro Z b0 a0))
   (try simp only[Exit.inBlock,Exit.then])
   refine bodyPost_ret (zK rfl _ _ (w.heap.size+1) (tyC 6 (.slice Av ns.length cv) (.slice A l.length c)) rfl rfl b0.o) rfl ?_;have l0:=C.o z o5.o;have G0:=g0.o;refine TQ.ok HF.o (z2k (zB 6 (by decide +kernel)) (f2.o.to (fun b h1 h2=>⟨.inr (Nat.le_trans a8.o.size h1),a0.o.block b h2 (by omega) (by omega)⟩) a0.o.size) (Nat.le_trans m5.o (by unfold maxLen;omega)) ?_) (l0.trans (a0.o.below l0.size (by omega) (by omega)));exact j0.o.to (fun b h1 h2=>⟨.inl h1,(a0.o.block b (Nat.lt_of_lt_of_le h2 l0.size) (by have:=G.o.lo b h1;omega) (by have:=G.o.lo b h1;omega)).trans (l0.block b h2)⟩) (Nat.le_trans l0.size a0.o.size)
end
end Go.Proofs.YtdjfpcmlffekkaaGreatDoor
