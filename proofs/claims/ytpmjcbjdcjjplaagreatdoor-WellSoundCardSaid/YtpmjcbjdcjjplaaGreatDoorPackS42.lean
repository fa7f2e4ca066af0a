/- Parts of a proof: TUn, TCo. -/
import Derived.Deep.CutBlock
import Derived.Test.YtpmjcbjdcjjplaaGreatDoorPackS40
set_option maxHeartbeats 8000000
set_option maxRecDepth 100000
set_option linter.unusedVariables false
set_option linter.unusedSimpArgs false
theorem Go.Calls.k42 {P:Go.Program} {f:Go.FuncId} {args:Array Go.Value} {w:Go.World} {v:Go.Ending} {R:Go.World->Prop} {Q:Go.Ending->Go.World->Prop} (h:Go.Calls P f args w fun e w'=>e= v/\R w') (k:∀ w',Go.RowKit.Hid (R w')->Q v w'):Go.Calls P f args w Q:=Go.Proofs.YtpmjcbjdcjjplaaGreatDoor.zg h k
theorem Go.Calls.e42 {P:Go.Program} {f:Go.FuncId} {args:Array Go.Value} {w:Go.World} {v:Go.Ending} {Q:Go.Ending->Go.World->Prop} (h:Go.Calls P f args w fun e w'=>e= v/\w'= w) (k:Q v w):Go.Calls P f args w Q:=Go.Proofs.YtpmjcbjdcjjplaaGreatDoor.ze h k
namespace Go.Proofs.YtpmjcbjdcjjplaaGreatDoor
section
open Go Go.RowKit
def TQ (p:Nat->Prop) (r:Except Int TT) (w:World) (e:Ending) (w':World):Prop:=
 (∃ t cs,r= .ok t/\e= .returned (.agg ⟨cs⟩)/\KeptT (fun b=>p b\/w.heap.size<=b) w' cs t/\Below w.heap.size w w')\/(∃ m n,r= .error m/\n≠0/\e= panE n/\Below w.heap.size w w')
theorem TQ.from {p:Nat->Prop} {r:Except Int TT} {w w1:World} {e:Ending} {w':World} (hb:Below w.heap.size w w1) (h:TQ p r w1 e w'):TQ p r w e w':=by
 rcases h with ⟨t,cs,C,A,G,g⟩|⟨m,n,C,K,A,g⟩
 ·exact .inl ⟨t,cs,C,A,G.to (fun b h1 h2=>⟨h1.imp id fun h=>Nat.le_trans hb.size h,rfl⟩) (Nat.le_refl _),(beT hb g)⟩
 ·exact .inr ⟨m,n,C,K,A,(beT hb g)⟩
def unW (k:Int):List Int:=if k= 3 then[2,3] else if k= 20 then[5,4] else if k= 21 then[2] else if k= 22 then[3] else if k= 23 then[1,2,3,4] else[1]
def unO (k:Int) (t:TT):TT:=if k= 20 then pT 2 else if k= 21 then pT 3 else if k= 22 then pT 2 else if k= 23 then pT 4 else t
theorem zhd {E:List VarT} {k:Int} {s:ByteArray} {v:VT} {ns:List ByteArray} {t:TT} (hk:k= 3\/k= 4\/k= 20\/k= 21\/k= 22\/k= 23):
  ownT E k s v ns [t]= if(unW k).contains (kT t)= true then .ok (unO k t) else .error 6:=by
 rcases hk with rfl|rfl|rfl|rfl|rfl|rfl<;>simp[ownT,unW,unO]
theorem zaY {ta tb t:TT} (h:joinT ta tb= some t) (h1:kT ta≠7) (h2:kT tb≠7):kT ta= kT tb:=by
 cases ta
 cases tb
 rw[joinT] at h;simp only[kT] at*;rw[if_neg h1,if_neg h2] at h;apply Classical.byContradiction;intro hne;rw[if_pos (.inl hne)] at h;cases h
def biW (k:Int):List Int:=if k= 5 then[2,3,4,5] else if k= 6\/k= 7\/k= 8 then[2,3] else if k= 9 then[2] else if k= 11\/k= 12 then[2,3,4] else[1]
theorem zfK {k:Int} {ta tb:TT} (ha:lf ta) (hb:lf tb) (hj:joinT ta tb= none) (hk:5<=k/\k<=14):∃ m,pairT k ta tb= .error m:=by
 have g:∀ m,(m= 1\/m= 2\/m= 3\/m= 4)->¬ (kT ta= m/\kT tb= m):=fun m hm h=>by rw[zai ha hb h.1 h.2 hm] at hj;cases hj
 have n1:=g 1 (by simp);have n2:=g 2 (by simp);have n3:=g 3 (by simp);have n4:=g 4 (by simp);refine⟨6,?_⟩;unfold pairT;simp only[hj];by_cases k5:k= 5
 ·rw[if_pos k5]
 rw[if_neg k5];by_cases k6:k= 6\/k= 7\/k= 8
 ·rw[if_pos k6,if_neg (fun h=>h.elim n2 n3)]
 rw[if_neg k6];by_cases k9:k= 9
 ·rw[if_pos k9,if_neg n2]
 rw[if_neg k9];by_cases k10:k= 10
 ·rw[if_pos k10,if_neg (by simp)]
 rw[if_neg k10];by_cases k11:k= 11\/k= 12
 ·rw[if_pos k11,if_neg (fun h=>h.elim (fun h=>h.elim n2 n3) n4)]
 rw[if_neg k11];by_cases k13:k= 13\/k= 14
 ·rw[if_pos k13,if_neg n1]
 rw[if_neg k13]
theorem zfL {k:Int} {ta tb t:TT} (ha:lf ta) (hb:lf tb) (hj:joinT ta tb= some t) (hk:5<=k/\k<=14) (h10:k≠10):
  pairT k ta tb= if((biW k).contains (kT ta) && (biW k).contains (kT tb))= true then .ok (if k= 11\/k= 12 then pT 1 else t) else .error 6:=by
 have J:∀ m,(m= 1\/m= 2\/m= 3\/m= 4)->kT ta= m->kT tb= m->t= pT m:=fun m hm h1 h2=>by
  have:=zai ha hb h1 h2 hm;rw[hj] at this;injection this
 have K:=zaY hj;have C:=J 1 (by simp);have G:=J 2 (by simp);have N:=J 3 (by simp);have O:=J 4 (by simp);clear J;have g:k= 5\/k= 6\/k= 7\/k= 8\/k= 9\/k= 11\/k= 12\/k= 13\/k= 14:=by omega
 unfold pairT;rw[hj];dsimp only;generalize kT ta= x at*;generalize kT tb= y at*;have A:∀ z:Int,z= 1\/z= 2\/z= 3\/z= 4\/z= 5\/(z≠1/\z≠2/\z≠3/\z≠4/\z≠5):=fun z=>by omega
 clear hj ha hb hk h10;rcases A x with rfl|rfl|rfl|rfl|rfl|⟨x1,x2,x3,x4,x5⟩;case inr.inr.inr.inr.inr=>rcases g with rfl|rfl|rfl|rfl|rfl|rfl|rfl|rfl|rfl<;>simp[biW,x1,x2,x3,x4,x5]
 all_goals
  rcases A y with rfl|rfl|rfl|rfl|rfl|⟨y1,y2,y3,y4,y5⟩;case inr.inr.inr.inr.inr=>rcases g with rfl|rfl|rfl|rfl|rfl|rfl|rfl|rfl|rfl<;>simp[biW,y1,y2,y3,y4,y5]
  all_goals
   first
    |(simp at K;done)
    |((try (have:=C rfl rfl;subst this));(try (have:=G rfl rfl;subst this));(try (have:=N rfl rfl;subst this));(try (have:=O rfl rfl;subst this));rcases g with rfl|rfl|rfl|rfl|rfl|rfl|rfl|rfl|rfl<;>simp[biW])
theorem zgx (k:Int):(unW k).length<=10000:=by
 unfold unW
 repeat' split
 all_goals decide
theorem z07 {u:World} {b:Nat} {l:List Int} {T:TypeId} (h:Whole T u b (l.map (Value.int .i64))) (hl:l.length<=10000):IntsAt u u.heap.size (.slice (some ⟨b,0,none⟩) l.length l.length) l:=
 ⟨by omega,_,_,rfl,fun h0=>⟨b,0,rfl,h.lt,fun i x hx=>h.range i _ (by rw[List.getElem?_map,hx];rfl)⟩⟩
section
variable {P:Program} {o:Oper} {a:Act} {w:World}
theorem z7j (t:TypeId) (n:Int) (ho:o.op= .buildSlice t 1 #[(0,.const (.int .i64 n))]) (e:TypeId) (i:TypeInfo) (z:Value)
  (ht:P.underlying t= some (.slice e)) (hi:P.info? e= some i) (hz:i.zero= some z) (hsz:i.size= 1):(execOp a.eval o).run P w= .ok (.value (.slice (some ⟨w.heap.size,0,none⟩) 1 1)) (w.alloc (.cells ⟨[.int .i64 n]⟩ e)):=by
 have C:(Instr.buildSlice t 1 #[(0,.int .i64 n)]).run P w= .ok (.slice (some ⟨w.heap.size,0,none⟩) 1 1) (w.alloc (.cells ⟨[.int .i64 n]⟩ e)):=by
  have G:(sizeOf e).run P w= .ok 1 w:=by simp[sizeOf,typeInfo,hi,hsz]
  have g:(zeroValue e).run P w= .ok z w:=by simp[zeroValue,typeInfo,hi,hz]
  have A:∀ cells:Array Value,cells.size= 1->Instr.fill (fun i=>some (i*1,1)) cells [(0,.int .i64 n)]= some #[.int .i64 n]:=fun cells hc=>z8s 1 [.int .i64 n] cells rfl hc;unfold Instr.buildSlice;simp only[Sem.run_bind,run_underlying ht,Result.andThen_ok,G,Nat.one_mul];rw[if_neg (by omega),if_neg (by omega)];simp only[Sem.run_bind,Sem.run_pure,Result.andThen_ok,g];rw[A _ (by simp)];simp[newRow]
 unfold execOp;simp only[ho,List.map_toArray,List.map_cons,List.map_nil,Act.eval,Sem.run_bind,Sem.run_pure,Result.andThen_ok,C]
end
theorem zco:(Tryz.prog.info? 3).map (fun i=>(i.zero,i.size,i.bytes))= some (some (.int .i64 0),1,8):=by kernel_rfl
theorem zbu (p:Nat->Prop) (k:Int) (t:TT) (ct:List Value) (w:World) (E:List VarT) (s:ByteArray) (v:VT) (ns:List ByteArray) (hk:k= 3\/k= 4\/k= 20\/k= 21\/k= 22\/k= 23) (h:KeptT p w ct t) (hp:∀ b,p b->b < w.heap.size):
  Calls Tryz.prog 225 #[.int .i64 k,.agg ⟨ct⟩] w (TQ p (ownT E k s v ns [t]) w):=by
 have a8:=I (zhd (E:=E) (s:=s) (v:=v) (ns:=ns) (t:=t) hk);generalize ownT E k s v ns [t]= res at a8 ⊢;cases t with
 |mk ka na ia=>
 have HK:=I h;have HP:=I hp;obtain⟨NA,nc,A,c,rfl,_⟩:=h.inv;clear h hp;go_enter Tryz.func225,Tryz.ntmps225;go_upto_region 1 with (fail);have f4:(#[Value.int IntKind.i64 0,Value.slice none 0 0,Value.slice none 0 0]:Array Value)= zT3.toArray:=rfl;rw[f4];clear f4;have g0:=zc w (.cells ⟨[.int .i64 ka,.slice NA na.length nc,.slice A ia.length c]⟩ 36);have h0:=Whole.new w ([.int .i64 ka,.slice NA na.length nc,.slice A ia.length c]:List Value) 36;have s0:(w.alloc (.cells ⟨[.int .i64 ka,.slice NA na.length nc,.slice A ia.length c]⟩ 36)).heap.size= w.heap.size+1:=by simp
 generalize w.alloc (.cells ⟨[.int .i64 ka,.slice NA na.length nc,.slice A ia.length c]⟩ 36)= W0 at*;have g1:=zc W0 (.cells zT3.toArray 36);have h1:=Whole.new W0 (zT3:List Value) 36;have s1:(W0.alloc (.cells zT3.toArray 36)).heap.size= w.heap.size+1+1:=by simp[s0]
 generalize W0.alloc (.cells zT3.toArray 36)= W1 at*;rw[s0] at h1
 (try rw[s0])
 have HX:=I (h0.keep (g1.block _ (by omega)));have c6:=I h1;have a7:=I (beT g0 g1);clear g0 g1 h0 h1 s0 s1;obtain⟨W,hW⟩:∃ z,z= W1:=⟨_,rfl⟩;subst hW;obtain⟨jt,hi,f3,g5,g6⟩:=zX z25;have d8:=I hi;have d9:=I f3;obtain⟨ji,e3,f1,f2,g4⟩:=zX zco;have d3:=I e3;have d4:=I f1;have d5:=I f2;clear hi f3 g5 g6 e3 f1 f2 g4;have c5:Hid (([.int .i64 ka,.slice NA na.length nc,.slice A ia.length c]:List Value).length= 3):=I rfl;have c8:Hid (∀ z,Below W.heap.size W z->z.rangeAt w.heap.size 0 [.int .i64 ka,.slice NA na.length nc,.slice A ia.length c]):=I fun z hz=>(HX.o.keep (hz.block _ HX.o.lt)).range;have K:Below W.heap.size W W.drew:=(Below.refl _ _).drew;go_cut [5,6] (fun v5 v6 z=>∃ q,v6= .pointer (some ⟨q,0,none⟩)/\IntsAt z z.heap.size v5 [1]/\W.heap.size<=q/\Whole 36 z q [.int .i64 ka,.slice NA na.length nc,.slice A ia.length c]/\Below W.heap.size W z);case first=>
  refine z2b (.take 1 (.two 0 2 (.act 2 (.take 3 (.act 4 .done))) (.act 0 (.take 3 (.act 4 .done))))) (fun z=>Below W.heap.size W z) (by kernel_rfl) (by kernel_rfl) (by kernel_rfl) rfl (by intro c a d v w h;cases d<;>exact h) ?_;refine zU 8 (.agg ⟨[.int .i64 ka,.slice NA na.length nc,.slice A ia.length c]⟩) rfl rfl rfl K (fun z hz=>zp 36 rfl (w.heap.size) (0) ([.int .i64 ka,.slice NA na.length nc,.slice A ia.length c]) _ rfl (c8.o z hz) Tryz.underlying36 rfl (by rw[c5.o];kernel_rfl)) ?_;go_frame;refine z43 ?_ ?_
  ·refine z0U (some 7) (.slice (some ⟨W.drew.heap.size,0,none⟩) 1 1) (W.drew.alloc (.cells ⟨[.int .i64 1]⟩ 3)) _ rfl rfl (by exact wA rfl) (z7j 44 1 rfl 3 ji _ Tryz.underlying44 d3.o d4.o d5.o) (K.trans ((zc W.drew _).mono K.size)) ?_
   go_frame;have a9:=zc W.drew (.cells ⟨[.int .i64 1]⟩ 3);have a6:Whole 3 (W.drew.alloc (.cells ⟨[.int .i64 1]⟩ 3)) W.drew.heap.size [.int .i64 1]:=Whole.new W.drew _ _;have K:Below W.heap.size W (W.drew.alloc (.cells ⟨[.int .i64 1]⟩ 3)):=(beT K a9);generalize W.drew.alloc (.cells ⟨[.int .i64 1]⟩ 3)= w1 at*;refine z0U (some 6) (.pointer (some ⟨w1.heap.size,0,none⟩)) (w1.alloc (.cells zT3.toArray 36)) _ rfl rfl (by exact wA rfl) (z1p 36 rfl _ _ d8.o d9.o) (K.trans ((zc w1 _).mono K.size)) ?_;go_frame;have Y:=zc w1 (.cells zT3.toArray 36);have b4:Whole 36 (w1.alloc (.cells zT3.toArray 36)) w1.heap.size zT3:=Whole.new w1 zT3 36;have b2:W.heap.size<=w1.heap.size:=K.size;have K:Below W.heap.size W (w1.alloc (.cells zT3.toArray 36)):=(beT K Y);generalize w1.alloc (.cells zT3.toArray 36)= w2 at*;refine z2i (some 5) (.slice (some ⟨W.drew.heap.size,0,none⟩) 1 1) _ _ rfl rfl rfl (by exact wA rfl) K rfl ?_;go_frame;refine z0Q none 36 _ _ _ rfl rfl rfl (by exact wA rfl) (w1.heap.size) zT3 ([.int .i64 ka,.slice NA na.length nc,.slice A ia.length c]) b4 rfl rfl rfl (by kernel_rfl) (zM _ _ _ _ _ _ _) ?_;intro w3 b5 a2;have K:Below W.heap.size W w3:=K.trans (a2.below K.size b2 b2);refine⟨K,?_⟩;go_frame;have hd:W.drew.heap.size < w1.heap.size:=a6.lt;have d0:=(a6.keep (Y.block _ a6.lt)).keep (a2.block _ (Nat.lt_of_lt_of_le a6.lt Y.size) (by omega) (by omega));refine z27 ?_;go_wp2;go_meet;case rel=>exact⟨w1.heap.size,rfl,z07 (l:=[1]) (d0) (by decide),b2,b5,K⟩
  ·refine z0U (some 6) (.pointer (some ⟨W.drew.heap.size,0,none⟩)) (W.drew.alloc (.cells zT3.toArray 36)) _ rfl rfl (by exact wA rfl) (z1p 36 rfl _ _ d8.o d9.o) (K.trans ((zc W.drew _).mono K.size)) ?_
   go_frame;have a9:=zc W.drew (.cells zT3.toArray 36);have b3:Whole 36 (W.drew.alloc (.cells zT3.toArray 36)) W.drew.heap.size zT3:=Whole.new W.drew zT3 36;have b1:W.heap.size<=W.drew.heap.size:=K.size;have K:Below W.heap.size W (W.drew.alloc (.cells zT3.toArray 36)):=(beT K a9);generalize W.drew.alloc (.cells zT3.toArray 36)= w1 at*;refine z0U (some 7) (.slice (some ⟨w1.heap.size,0,none⟩) 1 1) (w1.alloc (.cells ⟨[.int .i64 1]⟩ 3)) _ rfl rfl (by exact wA rfl) (z7j 44 1 rfl 3 ji _ Tryz.underlying44 d3.o d4.o d5.o) (K.trans ((zc w1 _).mono K.size)) ?_;go_frame;have Y:=zc w1 (.cells ⟨[.int .i64 1]⟩ 3);have b9:Whole 3 (w1.alloc (.cells ⟨[.int .i64 1]⟩ 3)) w1.heap.size [.int .i64 1]:=Whole.new w1 _ _;have K:Below W.heap.size W (w1.alloc (.cells ⟨[.int .i64 1]⟩ 3)):=(beT K Y);generalize w1.alloc (.cells ⟨[.int .i64 1]⟩ 3)= w2 at*;refine z2i (some 5) (.slice (some ⟨w1.heap.size,0,none⟩) 1 1) _ _ rfl rfl rfl (by exact wA rfl) K rfl ?_;go_frame;have hd:W.drew.heap.size < w1.heap.size:=b3.lt;have b4:=b3.keep (Y.block _ b3.lt);refine z0Q none 36 _ _ _ rfl rfl rfl (by exact wA rfl) (W.drew.heap.size) zT3 ([.int .i64 ka,.slice NA na.length nc,.slice A ia.length c]) b4 rfl rfl rfl (by kernel_rfl) (zM _ _ _ _ _ _ _) ?_;intro w3 b5 a2;have K:Below W.heap.size W w3:=K.trans (a2.below K.size b1 b1);refine⟨K,?_⟩;go_frame;have d0:=b9.keep (a2.block _ b9.lt (by omega) (by omega));refine z27 ?_;go_wp2;go_meet;case rel=>exact⟨W.drew.heap.size,rfl,z07 (l:=[1]) (d0) (by decide),b1,b5,K⟩
 case rest=>
 obtain⟨q,rfl,b8,hq,f0,e2⟩:=hcut;obtain⟨U,hU⟩:∃ z,z= wc:=⟨_,rfl⟩;subst hU;have HQ:=I f0;have C:=I e2;have a0:=I hq;have f6:=I b8;clear b8 hq f0 e2;go_upto_block 0 with (fail);go_cut [5] (fun v5 z=>∃ co,Whole 36 z q co/\co.length= 3/\(∀ u∈co,u.oneCell'= true)/\KeptT (fun b=>(p b\/W.heap.size<=b)/\b≠q) z co (unO k (.mk ka na ia))/\IntsAt z z.heap.size v5 (unW k)/\Below W.heap.size W z);case first=>
  have d6:Hid (KeptT (fun b=>(p b\/W.heap.size<=b)/\b≠q) U [.int .i64 ka,.slice NA na.length nc,.slice A ia.length c] (.mk ka na ia)):=I (HK.o.to (fun b h1 h2=>⟨⟨.inl h1,fun e=>by have:=HP.o b h1;have:=a0.o;have:=a7.o.size;omega⟩,(C.o.block b (Nat.lt_of_lt_of_le h2 a7.o.size)).trans (a7.o.block b h2)⟩) (Nat.le_trans a7.o.size C.o.size));rcases hk with rfl|rfl|rfl|rfl|rfl|rfl
  ·go_wp2
   go_meet;case rel=>exact⟨_,HQ.o.keep ((zc U _).block _ HQ.o.lt),rfl,zM _ _ _ _ _ _ _,d6.o.next (zc U _),z07 (l:=[2,3]) (Whole.new U [.int .i64 2,.int .i64 3] 3) (by decide),C.o.trans ((zc U _).mono C.o.size)⟩
  ·go_wp2
   go_meet;case rel=>exact⟨_,HQ.o,rfl,zM _ _ _ _ _ _ _,d6.o,f6.o,C.o⟩
  ·go_wp2_with (first|(go_at_call 222;refine(z1t 2 (zH 2 (by decide +kernel)) _).mono ?_;rintro e z1 ⟨rfl,X⟩;have g:=I X;have a5:=I (HQ.o.keep (((zc _ _).trans (X.mono (zc _ _).size)).block _ HQ.o.lt));clear X)|((with_reducible refine zi 36 _ _ rfl rfl ?_ a5.o (tyC 2 (.slice none 0 0) (.slice none 0 0)) ?_ ?_ ?_ ?_ ?_ ?_);exact wA rfl;rfl;rfl;rfl;kernel_rfl;exact(zM _ _ _ _ _ _ _);intro Z a1 G))
   have N:Hid (Whole 3 (U.alloc (.cells ⟨[.int .i64 5,.int .i64 4]⟩ 3)) U.heap.size [.int .i64 5,.int .i64 4]):=I (Whole.new U _ _);have O:Hid (Whole 3 z1 U.heap.size [.int .i64 5,.int .i64 4]):=I (N.o.keep (g.o.block _ N.o.lt));have d1:=HQ.o.lt;go_meet;case rel=>exact⟨_,a1.o,rfl,zM _ _ _ _ _ _ _,z0I (zH 2 (by decide +kernel)),z07 (l:=[5,4]) (O.o.keep (G.o.block _ O.o.lt (by omega) (by omega))) (by decide),(C.o.trans (((zc U _).trans (g.o.mono (zc U _).size)).mono C.o.size)).trans (G.o.below (Nat.le_trans C.o.size (Nat.le_trans (zc U _).size g.o.size)) a0.o a0.o)⟩
  ·go_wp2_with (first|(go_at_call 222;refine(z1t 3 (zH 3 (by decide +kernel)) _).mono ?_;rintro e z1 ⟨rfl,X⟩;have g:=I X;have a5:=I (HQ.o.keep (((zc _ _).trans (X.mono (zc _ _).size)).block _ HQ.o.lt));clear X)|((with_reducible refine zi 36 _ _ rfl rfl ?_ a5.o (tyC 3 (.slice none 0 0) (.slice none 0 0)) ?_ ?_ ?_ ?_ ?_ ?_);exact wA rfl;rfl;rfl;rfl;kernel_rfl;exact(zM _ _ _ _ _ _ _);intro Z a1 G))
   have N:Hid (Whole 3 (U.alloc (.cells ⟨[.int .i64 2]⟩ 3)) U.heap.size [.int .i64 2]):=I (Whole.new U _ _);have O:Hid (Whole 3 z1 U.heap.size [.int .i64 2]):=I (N.o.keep (g.o.block _ N.o.lt));have d1:=HQ.o.lt;go_meet;case rel=>exact⟨_,a1.o,rfl,zM _ _ _ _ _ _ _,z0I (zH 3 (by decide +kernel)),z07 (l:=[2]) (O.o.keep (G.o.block _ O.o.lt (by omega) (by omega))) (by decide),(C.o.trans (((zc U _).trans (g.o.mono (zc U _).size)).mono C.o.size)).trans (G.o.below (Nat.le_trans C.o.size (Nat.le_trans (zc U _).size g.o.size)) a0.o a0.o)⟩
  ·go_wp2_with (first|(go_at_call 222;refine(z1t 2 (zH 2 (by decide +kernel)) _).mono ?_;rintro e z1 ⟨rfl,X⟩;have g:=I X;have a5:=I (HQ.o.keep (((zc _ _).trans (X.mono (zc _ _).size)).block _ HQ.o.lt));clear X)|((with_reducible refine zi 36 _ _ rfl rfl ?_ a5.o (tyC 2 (.slice none 0 0) (.slice none 0 0)) ?_ ?_ ?_ ?_ ?_ ?_);exact wA rfl;rfl;rfl;rfl;kernel_rfl;exact(zM _ _ _ _ _ _ _);intro Z a1 G))
   have N:Hid (Whole 3 (U.alloc (.cells ⟨[.int .i64 3]⟩ 3)) U.heap.size [.int .i64 3]):=I (Whole.new U _ _);have O:Hid (Whole 3 z1 U.heap.size [.int .i64 3]):=I (N.o.keep (g.o.block _ N.o.lt));have d1:=HQ.o.lt;go_meet;case rel=>exact⟨_,a1.o,rfl,zM _ _ _ _ _ _ _,z0I (zH 2 (by decide +kernel)),z07 (l:=[3]) (O.o.keep (G.o.block _ O.o.lt (by omega) (by omega))) (by decide),(C.o.trans (((zc U _).trans (g.o.mono (zc U _).size)).mono C.o.size)).trans (G.o.below (Nat.le_trans C.o.size (Nat.le_trans (zc U _).size g.o.size)) a0.o a0.o)⟩
  ·go_wp2_with (first|(go_at_call 222;refine(z1t 4 (zH 4 (by decide +kernel)) _).mono ?_;rintro e z1 ⟨rfl,X⟩;have g:=I X;have a5:=I (HQ.o.keep (((zc _ _).trans (X.mono (zc _ _).size)).block _ HQ.o.lt));clear X)|((with_reducible refine zi 36 _ _ rfl rfl ?_ a5.o (tyC 4 (.slice none 0 0) (.slice none 0 0)) ?_ ?_ ?_ ?_ ?_ ?_);exact wA rfl;rfl;rfl;rfl;kernel_rfl;exact(zM _ _ _ _ _ _ _);intro Z a1 G))
   have N:Hid (Whole 3 (U.alloc (.cells ⟨[.int .i64 1,.int .i64 2,.int .i64 3,.int .i64 4]⟩ 3)) U.heap.size [.int .i64 1,.int .i64 2,.int .i64 3,.int .i64 4]):=I (Whole.new U _ _);have O:Hid (Whole 3 z1 U.heap.size [.int .i64 1,.int .i64 2,.int .i64 3,.int .i64 4]):=I (N.o.keep (g.o.block _ N.o.lt));have d1:=HQ.o.lt;go_meet;case rel=>exact⟨_,a1.o,rfl,zM _ _ _ _ _ _ _,z0I (zH 4 (by decide +kernel)),z07 (l:=[1,2,3,4]) (O.o.keep (G.o.block _ O.o.lt (by omega) (by omega))) (by decide),(C.o.trans (((zc U _).trans (g.o.mono (zc U _).size)).mono C.o.size)).trans (G.o.below (Nat.le_trans C.o.size (Nat.le_trans (zc U _).size g.o.size)) a0.o a0.o)⟩
 case rest=>
 obtain⟨co,e9,e7,e8,e6,e4,b0⟩:=hcut;obtain⟨V,hV⟩:∃ z,z= wc:=⟨_,rfl⟩;subst hV;have e0:=I e9;have b6:=I e7;have f8:=I e8;have f7:=I e6;have h5:=I b0;have c7:=I (z42 ka (.slice NA na.length nc) (.slice A ia.length c) _ (unW k) V rfl rfl e4 (zgx k));have e1:Hid (V.rangeAt w.heap.size 0 [.int .i64 ka,.slice NA na.length nc,.slice A ia.length c]):=I (c8.o V b0);have c4:Hid (Below w.heap.size w V):=I (beT a7.o b0);have d7:=I (c6.o.keep (b0.block _ c6.o.lt));have f9:Hid (w.heap.size+1 < W.heap.size):=I c6.o.lt;clear e9 e7 e8 e6 e4 b0 c8;obtain⟨cb,c9⟩:∃ b,(unW k).contains ka= b:=⟨_,rfl⟩;rw[c9] at c7;have d2:=I c9;clear c9;cases cb with
 |false=>
  have HF:Hid (res= .error 6):=I (by rw[a8.o];exact if_neg (by show ¬ (unW k).contains ka= true;rw[d2.o];decide));go_wp2_with (first|((with_reducible refine za tyK36 _ rfl ?_ e1.o rfl c5.o ?_);exact wA rfl)|(go_at_call 224;refine(c7.o).k42 ?_;intro z a3)|(go_at_call 176;refine(z08 6 _).e42 ?_));exact⟨rfl,.inr ⟨6,6,HF.o,by decide,rfl,(beT c4.o a3.o)⟩⟩
 |true=>
  have HF:Hid (res= .ok (unO k (.mk ka na ia))):=I (by rw[a8.o];exact if_pos d2.o);go_wp2_with (first|((with_reducible refine za tyK36 _ rfl ?_ e1.o rfl c5.o ?_);exact wA rfl)|(go_at_call 224;refine(c7.o).mono ?_;rintro e z ⟨rfl,X⟩;have a3:=I X;have g3:=I (e0.o.keep (X.block _ e0.o.lt));have g2:=I (d7.o.keep (X.block _ d7.o.lt));clear X)|(go_at_call 176;refine(z0u 6 _).e42 ?_)|((with_reducible refine za tyK36 _ rfl ?_ g3.o.range rfl b6.o ?_);exact wA rfl)|((with_reducible refine zi 36 _ _ rfl rfl ?_ g2.o (co) ?_ ?_ ?_ ?_ ?_ ?_);exact wA rfl;rw[b6.o];rfl;rfl;rfl;rw[b6.o];kernel_rfl;exact f8.o;intro Z a1 G))
  (try simp only[Exit.inBlock,Exit.then])
  refine bodyPost_ret (zO rfl _ _ (w.heap.size+1) co b6.o rfl a1.o) rfl ?_;refine .inl ⟨_,co,HF.o,rfl,f7.o.to (fun b h1 h2=>⟨h1.1.imp id fun h=>Nat.le_trans a7.o.size h,?_⟩) (Nat.le_trans a3.o.size G.o.size),(beT c4.o a3.o).trans (G.o.below (Nat.le_trans c4.o.size a3.o.size) (by omega) (by omega))⟩;have i1:=f9.o;have e5:b≠w.heap.size+1:=fun e=>by
   rcases h1.1 with h|h
   ·have:=HP.o b h;omega
   ·omega
  exact(G.o.block b (Nat.lt_of_lt_of_le h2 a3.o.size) e5 e5).trans (a3.o.block b h2)
theorem JPost.yes {p:Nat->Prop} {r:Option TT} {t:TT} (hr:r= some t) {w:World} {e:Ending} {w':World} (h:JPost p r w e w'):∃ cs,e= .returned (.agg ⟨cs⟩)/\KeptT (fun b=>p b\/w.heap.size<=b) w' cs t/\Below w.heap.size w w':=by
 rcases h with ⟨t',cs,h1,h2,h3,h4⟩|⟨h1,_⟩
 ·rw[hr] at h1;injection h1 with h1;subst h1;exact⟨cs,h2,h3,h4⟩
 ·rw[hr] at h1;cases h1
theorem JPost.no {p:Nat->Prop} {r:Option TT} (hr:r= none) {w:World} {e:Ending} {w':World} (h:JPost p r w e w'):e= panE 6/\Below w.heap.size w w':=by
 rcases h with ⟨t',cs,h1,h2,h3,h4⟩|⟨h1,h2⟩
 ·rw[hr] at h1;cases h1
 ·exact h2
theorem za5 (k:Int):(biW k).length<=10000:=by
 unfold biW
 repeat' split
 all_goals decide
theorem z9V (p:Nat->Prop) (k:Int) (ta tb:TT) (ca cb:List Value) (w:World) (hk:5<=k/\k<=14) (ha:KeptT p w ca ta) (hb:KeptT p w cb tb) (hp:∀ b,p b->b < w.heap.size) (hja:jok ta= true) (hjb:jok tb= true) (hsa:stT ta= true) (hsb:stT tb= true) (hla:lf ta) (hlb:lf tb):
  Calls Tryz.prog 226 #[.int .i64 k,.agg ⟨ca⟩,.agg ⟨cb⟩] w (TQ p (pairT k ta tb) w):=by
 have e1:=I (fun hj=>zfK hla hlb hj hk);have c9:=I (fun t hj h10=>zfL (t:=t) hla hlb hj hk h10);have d9:Hid (k= 10->pairT k ta tb= if(joinT ta tb).isSome= true then .ok (pT 1) else .error 6):=I (fun h=>by subst h;rfl);have e0:=I (fun W (a3:Below w.heap.size w W)=>z3h ta tb hja hjb hsa hsb p ca cb W (fun b h=>Nat.lt_of_lt_of_le (hp b h) a3.size) (ha.next a3) (hb.next a3));cases ta with
 |mk ka na ia=>
 cases tb with
 |mk kb nb ib=>
 have HP:=I hp;obtain⟨NA,nc,A,c,rfl,_⟩:=ha.inv;obtain⟨NB,nd,B,d,rfl,_⟩:=hb.inv;generalize pairT k (.mk ka na ia) (.mk kb nb ib)= res at e1 c9 d9 ⊢;clear ha hb hp hja hjb hsa hsb hla hlb;go_enter Tryz.func226,Tryz.ntmps226;go_upto_region 1 with (fail);have e6:(#[Value.int IntKind.i64 0,Value.slice none 0 0,Value.slice none 0 0]:Array Value)= zT3.toArray:=rfl;rw[e6];clear e6;have g0:=zc w (.cells ⟨[.int .i64 ka,.slice NA na.length nc,.slice A ia.length c]⟩ 36);have h0:=Whole.new w ([.int .i64 ka,.slice NA na.length nc,.slice A ia.length c]:List Value) 36;have s0:(w.alloc (.cells ⟨[.int .i64 ka,.slice NA na.length nc,.slice A ia.length c]⟩ 36)).heap.size= w.heap.size+1:=by simp
 generalize w.alloc (.cells ⟨[.int .i64 ka,.slice NA na.length nc,.slice A ia.length c]⟩ 36)= W0 at*;have g1:=zc W0 (.cells ⟨[.int .i64 kb,.slice NB nb.length nd,.slice B ib.length d]⟩ 36);have h1:=Whole.new W0 ([.int .i64 kb,.slice NB nb.length nd,.slice B ib.length d]:List Value) 36;have s1:(W0.alloc (.cells ⟨[.int .i64 kb,.slice NB nb.length nd,.slice B ib.length d]⟩ 36)).heap.size= w.heap.size+1+1:=by simp[s0]
 generalize W0.alloc (.cells ⟨[.int .i64 kb,.slice NB nb.length nd,.slice B ib.length d]⟩ 36)= W1 at*;have g2:=zc W1 (.cells zT3.toArray 36);have h2:=Whole.new W1 (zT3:List Value) 36;have s2:(W1.alloc (.cells zT3.toArray 36)).heap.size= w.heap.size+1+1+1:=by simp[s1]
 generalize W1.alloc (.cells zT3.toArray 36)= W2 at*;rw[s0] at h1;rw[s1] at h2
 (try simp only[s0,s1])
 have e4:=(beT g0 g1);have b6:=I ((h0.keep (g1.block _ (by omega))).keep (g2.block _ (by omega)));have a7:=I (h1.keep (g2.block _ (by omega)));have b4:=I h2;have a5:=I (beT e4 g2);clear g0 g1 g2 h0 h1 h2 s0 s1 s2 e4;obtain⟨W,hW⟩:∃ z,z= W2:=⟨_,rfl⟩;subst hW;have HJ:=I (e0.o W a5.o);have a6:Hid (([.int .i64 ka,.slice NA na.length nc,.slice A ia.length c]:List Value).length= 3):=I rfl;have X:Hid (([.int .i64 kb,.slice NB nb.length nd,.slice B ib.length d]:List Value).length= 3):=I rfl;have f2:Hid (w.heap.size+1+1 < W.heap.size):=I b4.o.lt;clear e0;cases hj:joinT (.mk ka na ia) (.mk kb nb ib) with
 |none=>
  obtain⟨m,hm⟩:=e1.o hj;have HF:=I hm;clear hm;go_wp2_with (first|((with_reducible refine za tyK36 _ rfl ?_ b6.o.range rfl a6.o ?_);exact wA rfl)|((with_reducible refine za tyK36 _ rfl ?_ a7.o.range rfl X.o ?_);exact wA rfl)|(go_at_call 179;refine HJ.o.mono ?_;rintro e z he;obtain⟨rfl,hb⟩:=he.no hj;have O:=I hb;clear hb he));exact⟨rfl,.inr ⟨m,6,HF.o,by decide,rfl,(beT a5.o O.o)⟩⟩
 |some t=>
 have f5:=I (c9.o t hj);by_cases h10:k= 10
 ·subst h10
  have HF:Hid (res= .ok (pT 1)):=I (by rw[d9.o rfl,hj];rfl);go_wp2_with (first|((with_reducible refine za tyK36 _ rfl ?_ b6.o.range rfl a6.o ?_);exact wA rfl)|((with_reducible refine za tyK36 _ rfl ?_ a7.o.range rfl X.o ?_);exact wA rfl)|(go_at_call 179;refine HJ.o.mono ?_;rintro e z he;obtain⟨co,rfl,hk,hb⟩:=he.yes hj;have O:=I hb;have d1:=I hk;have a1:=I (zl hk.typ).1;have c4:=I (zl hk.typ).2;clear hk hb he)|((with_reducible refine zN tyK36 _ _ rfl ?_ z a1.o c4.o rfl ?_ ?_ ?_ ?_);exact wA rfl;rfl;rfl;rfl;intro Z1 a0)|(go_at_call 222;refine(z1t 1 (zH 1 (by decide +kernel)) _).mono ?_;rintro e z1 ⟨rfl,hb⟩;have g:=I (O.o.trans ((beT a0.o.below hb).mono O.o.size));have b3:=I (b4.o.keep (g.o.block _ b4.o.lt));clear hb)|((with_reducible refine zi 36 _ _ rfl rfl ?_ b3.o (tyC 1 (.slice none 0 0) (.slice none 0 0)) ?_ ?_ ?_ ?_ ?_ ?_);exact wA rfl;rfl;rfl;rfl;kernel_rfl;exact(zM _ _ _ _ _ _ _);intro Z a2 K))
  (try simp only[Exit.inBlock,Exit.then])
  refine bodyPost_ret (zO rfl _ _ (w.heap.size+1+1) (tyC 1 (.slice none 0 0) (.slice none 0 0)) rfl rfl a2.o) rfl ?_;exact .inl ⟨_,_,HF.o,rfl,z0I (zH 1 (by decide +kernel)),(beT a5.o g.o).trans (K.o.below (Nat.le_trans a5.o.size g.o.size) (by omega) (by omega))⟩
 have e10:(k ==10)= false:=by rw[beq_eq_false_iff_ne];exact h10
 have c8:=I (f5.o h10);go_upto_block 0 with (first|((with_reducible refine za tyK36 _ rfl ?_ b6.o.range rfl a6.o ?_);exact wA rfl)|((with_reducible refine za tyK36 _ rfl ?_ a7.o.range rfl X.o ?_);exact wA rfl)|(go_at_call 179;refine HJ.o.mono ?_;rintro e z he;obtain⟨co,rfl,hk,hb⟩:=he.yes hj;have O:=I hb;have d1:=I hk;have a1:=I (zl hk.typ).1;have c4:=I (zl hk.typ).2;clear hk hb he)|((with_reducible refine zN tyK36 _ _ rfl ?_ z a1.o c4.o rfl ?_ ?_ ?_ ?_);exact wA rfl;rfl;rfl;rfl;intro Z1 a0));have e8:Hid (Below W.heap.size W Z1):=I (beT O.o a0.o.below);have e3:=I a0.o.range;have d2:=I a0.o.size;obtain⟨q,hq⟩:∃ q,z.heap.size= q:=⟨_,rfl⟩;have g3:Hid (W.heap.size<=q):=I (hq▸O.o.size);have f0:Hid (KeptT (fun b=>(p b\/W.heap.size<=b)/\b≠q) Z1 co t):=I (d1.o.to (fun b h1 h2=>⟨⟨h1,by omega⟩,a0.o.below.block b h2⟩) a0.o.below.size);rw[hq] at e3 d2;rw[hq];clear hq hj a0 d1 O;go_cut [8] (fun v8 z=>IntsAt z z.heap.size v8 (biW k)/\Below Z1.heap.size Z1 z);case first=>
  have f7:k= 5\/k= 6\/k= 7\/k= 8\/k= 9\/k= 11\/k= 12\/k= 13\/k= 14:=by omega
  clear hk h10 e10;rcases f7 with rfl|rfl|rfl|rfl|rfl|rfl|rfl|rfl|rfl
  ·go_wp2
   go_meet;case rel=>exact⟨z07 (l:=[2,3,4,5]) (Whole.new Z1 [.int .i64 2,.int .i64 3,.int .i64 4,.int .i64 5] 3) (by decide),zc Z1 _⟩
  ·go_wp2
   go_meet;case rel=>exact⟨z07 (l:=[2,3]) (Whole.new Z1 [.int .i64 2,.int .i64 3] 3) (by decide),zc Z1 _⟩
  ·go_wp2
   go_meet;case rel=>exact⟨z07 (l:=[2,3]) (Whole.new Z1 [.int .i64 2,.int .i64 3] 3) (by decide),zc Z1 _⟩
  ·go_wp2
   go_meet;case rel=>exact⟨z07 (l:=[2,3]) (Whole.new Z1 [.int .i64 2,.int .i64 3] 3) (by decide),zc Z1 _⟩
  ·go_wp2
   go_meet;case rel=>exact⟨z07 (l:=[2]) (Whole.new Z1 [.int .i64 2] 3) (by decide),zc Z1 _⟩
  ·go_wp2
   go_meet;case rel=>exact⟨z07 (l:=[2,3,4]) (Whole.new Z1 [.int .i64 2,.int .i64 3,.int .i64 4] 3) (by decide),zc Z1 _⟩
  ·go_wp2
   go_meet;case rel=>exact⟨z07 (l:=[2,3,4]) (Whole.new Z1 [.int .i64 2,.int .i64 3,.int .i64 4] 3) (by decide),zc Z1 _⟩
  ·go_wp2
   go_meet;case rel=>exact⟨z07 (l:=[1]) (Whole.new Z1 [.int .i64 1] 3) (by decide),zc Z1 _⟩
  ·go_wp2
   go_meet;case rel=>exact⟨z07 (l:=[1]) (Whole.new Z1 [.int .i64 1] 3) (by decide),zc Z1 _⟩
 case rest=>
 obtain⟨d6,a8⟩:=hcut;obtain⟨V,hV⟩:∃ z,z= wc:=⟨_,rfl⟩;subst hV;have a9:Hid (Below W.heap.size W V):=I (beT e8.o a8);have b8:Hid (Below w.heap.size w V):=I (beT a5.o a9.o);have c5:=I (show Calls Tryz.prog 224 #[.agg ⟨[.int .i64 ka,.slice NA na.length nc,.slice A ia.length c]⟩,_] V _ from z42 ka (.slice NA na.length nc) (.slice A ia.length c) _ (biW k) V rfl rfl d6 (za5 k));have a4:=I (fun y (hy:Below V.heap.size V y)=>show Calls Tryz.prog 224 #[.agg ⟨[.int .i64 kb,.slice NB nb.length nd,.slice B ib.length d]⟩,_] y _ from z42 kb (.slice NB nb.length nd) (.slice B ib.length d) _ (biW k) y rfl rfl ((d6.below hy).more hy.size) (za5 k));have d3:=I (b6.o.keep (a9.o.block _ b6.o.lt)).range;have b7:=I (fun y (hy:Below V.heap.size V y)=>(a7.o.keep ((hy.block _ (Nat.lt_of_lt_of_le a7.o.lt a9.o.size)).trans (a9.o.block _ a7.o.lt))).range);have f3:=I (zb e3.o a8 d2.o);have f6:=I a8.size;have e2:=I (b4.o.keep (a9.o.block _ b4.o.lt));have f1:Hid (KeptT (fun b=>(p b\/W.heap.size<=b)/\b≠q) V co t):=I (f0.o.to (fun b h1 h2=>⟨h1,a8.block b h2⟩) a8.size);clear d6 a8;obtain⟨b1,a3⟩:∃ b,(biW k).contains ka= b:=⟨_,rfl⟩;obtain⟨b2,d5⟩:∃ b,(biW k).contains kb= b:=⟨_,rfl⟩;have N:Hid (res= if(b1 && b2)= true then .ok (if k= 11\/k= 12 then pT 1 else t) else .error 6):=I (by rw[← a3,← d5];exact c8.o);rw[a3] at c5;rw[d5] at a4;clear a3 d5 c8;cases b1 with
 |false=>
  go_wp2_with (first|((with_reducible refine za tyK36 _ rfl ?_ d3.o rfl a6.o ?_);exact wA rfl)|(go_at_call 224;first|((with_reducible refine c5.o.mono ?_);rintro e y ⟨rfl,hb⟩;have b0:=I hb;have c6:=I (b7.o y hb);have b5:=I (a4.o y hb);clear hb)|((with_reducible refine(b5.o).k42 ?_);intro x b9))|(go_at_call 176;refine(z08 6 _).e42 ?_));exact⟨rfl,.inr ⟨6,6,N.o,by decide,rfl,(beT b8.o b0.o)⟩⟩
 |true=>
 cases b2 with
 |false=>
  go_wp2_with (first|((with_reducible refine za tyK36 _ rfl ?_ d3.o rfl a6.o ?_);exact wA rfl)|(go_at_call 224;first|((with_reducible refine c5.o.mono ?_);rintro e y ⟨rfl,hb⟩;have b0:=I hb;have c6:=I (b7.o y hb);have b5:=I (a4.o y hb);clear hb)|((with_reducible refine(b5.o).k42 ?_);intro x b9))|((with_reducible refine za tyK36 _ rfl ?_ c6.o rfl X.o ?_);exact wA rfl)|(go_at_call 176;refine(z08 6 _).e42 ?_));exact⟨rfl,.inr ⟨6,6,N.o,by decide,rfl,b8.o.trans ((beT b0.o b9.o).mono b8.o.size)⟩⟩
 |true=>
 go_upto_region 19 with (first|((with_reducible refine za tyK36 _ rfl ?_ d3.o rfl a6.o ?_);exact wA rfl)|(go_at_call 224;first|((with_reducible refine c5.o.mono ?_);rintro e y ⟨rfl,hb⟩;have b0:=I hb;have c6:=I (b7.o y hb);have b5:=I (a4.o y hb);clear hb)|((with_reducible refine(b5.o).k42 ?_);intro x b9))|((with_reducible refine za tyK36 _ rfl ?_ c6.o rfl X.o ?_);exact wA rfl)|(go_at_call 176;refine(z0u 6 _).e42 ?_));have G:Hid (Below V.heap.size V x):=I (beT b0.o b9.o);have C:Hid (Below w.heap.size w x):=I (beT b8.o G.o);have f4:=I (zb f3.o G.o (Nat.lt_of_lt_of_le d2.o f6.o));have Y:=I (e2.o.keep (G.o.block _ e2.o.lt));by_cases h11:k= 11\/k= 12
 ·have HF:Hid (res= .ok (pT 1)):=I (by rw[N.o,Bool.and_self,if_pos (rfl:true= true),if_pos h11])
  have g7:∀ x:Bool,True:=fun _=>trivial;rcases h11 with rfl|rfl
  ·go_wp2_with (first|(go_at_call 222;refine(z1t 1 (zH 1 (by decide +kernel)) _).mono ?_;rintro e z1 ⟨rfl,hb⟩;have g:=I hb;have b3:=I (Y.o.keep (hb.block _ Y.o.lt));clear hb)|((with_reducible refine zi 36 _ _ rfl rfl ?_ b3.o (tyC 1 (.slice none 0 0) (.slice none 0 0)) ?_ ?_ ?_ ?_ ?_ ?_);exact wA rfl;rfl;rfl;rfl;kernel_rfl;exact(zM _ _ _ _ _ _ _);intro Z a2 K))
   (try simp only[Exit.inBlock,Exit.then])
   refine bodyPost_ret (zO rfl _ _ (w.heap.size+1+1) (tyC 1 (.slice none 0 0) (.slice none 0 0)) rfl rfl a2.o) rfl ?_;exact .inl ⟨_,_,HF.o,rfl,z0I (zH 1 (by decide +kernel)),(beT C.o g.o).trans (K.o.below (Nat.le_trans C.o.size g.o.size) (by omega) (by omega))⟩
  ·go_wp2_with (first|(go_at_call 222;refine(z1t 1 (zH 1 (by decide +kernel)) _).mono ?_;rintro e z1 ⟨rfl,hb⟩;have g:=I hb;have b3:=I (Y.o.keep (hb.block _ Y.o.lt));clear hb)|((with_reducible refine zi 36 _ _ rfl rfl ?_ b3.o (tyC 1 (.slice none 0 0) (.slice none 0 0)) ?_ ?_ ?_ ?_ ?_ ?_);exact wA rfl;rfl;rfl;rfl;kernel_rfl;exact(zM _ _ _ _ _ _ _);intro Z a2 K))
   (try simp only[Exit.inBlock,Exit.then])
   refine bodyPost_ret (zO rfl _ _ (w.heap.size+1+1) (tyC 1 (.slice none 0 0) (.slice none 0 0)) rfl rfl a2.o) rfl ?_;exact .inl ⟨_,_,HF.o,rfl,z0I (zH 1 (by decide +kernel)),(beT C.o g.o).trans (K.o.below (Nat.le_trans C.o.size g.o.size) (by omega) (by omega))⟩
 ·have HF:Hid (res= .ok t):=I (by rw[N.o,Bool.and_self,if_pos (rfl:true= true),if_neg h11])
  have e11:(k ==11)= false:=by rw[beq_eq_false_iff_ne];exact fun h=>h11 (.inl h)
  have e12:(k ==12)= false:=by rw[beq_eq_false_iff_ne];exact fun h=>h11 (.inr h)
  go_wp2_with (first|((with_reducible refine za tyK36 _ rfl ?_ f4.o rfl a1.o ?_);exact wA rfl)|((with_reducible refine zi 36 _ _ rfl rfl ?_ Y.o (co) ?_ ?_ ?_ ?_ ?_ ?_);exact wA rfl;rw[a1.o];rfl;rfl;rfl;rw[a1.o];kernel_rfl;exact c4.o;intro Z a2 K))
  (try simp only[Exit.inBlock,Exit.then])
  refine bodyPost_ret (zO rfl _ _ (w.heap.size+1+1) co a1.o rfl a2.o) rfl ?_;refine .inl ⟨_,co,HF.o,rfl,f1.o.to (fun b h1 h2=>⟨h1.1.imp id fun h=>Nat.le_trans a5.o.size h,?_⟩) (Nat.le_trans G.o.size K.o.size),C.o.trans (K.o.below C.o.size (by omega) (by omega))⟩;have g6:=f2.o;have e5:b≠w.heap.size+1+1:=fun e=>by
   rcases h1.1 with h|h
   ·have:=HP.o b h;omega
   ·omega
  exact(K.o.block b (Nat.lt_of_lt_of_le h2 G.o.size) e5 e5).trans (G.o.block b h2)
end
section
open Go Go.RowKit
theorem KeptT.form {p:Nat->Prop} {w:World} {cs:List Value} {t:TT} {k:Int} (h:KeptT p w cs t) (hk:kT t= k):∃ X Y,cs=[.int .i64 k,X,Y]/\X.oneCell'= true/\Y.oneCell'= true:=by
 cases t with
 |mk k' ns its=>
  obtain⟨NA,nc,A,c,rfl,_⟩:=h.inv;have hk:k'= k:=hk;subst hk;exact⟨_,_,rfl,rfl,rfl⟩
theorem tone1 (k m:Int) (x y:Value) (w:World) (hx:x.oneCell'= true) (hy:y.oneCell'= true):
  Calls Tryz.prog 224 #[.agg ⟨[.int .i64 k,x,y]⟩,.slice (some ⟨w.heap.size,0,none⟩) 1 1] (w.alloc (.cells ⟨[.int .i64 m]⟩ 3)) fun e w'=>e= .returned (.bool (k ==m))/\Below w.heap.size w w':=
 (z42 k x y _ [m] _ hx hy (z07 (l:=[m]) (Whole.new w [.int .i64 m] 3) (by simp)) (by simp)).mono fun e w' ⟨he,hb⟩=>by
  refine⟨?_,(zc w _).trans (hb.mono (zc w _).size)⟩
  rw[he]
  congr 2
  simp
  by_cases h:k= m<;>simp[h]
theorem TQ.ok {p:Nat->Prop} {r:Except Int TT} {t:TT} {w:World} {cs:List Value} {w':World} (hr:r= .ok t) (hk:KeptT (fun b=>p b\/w.heap.size<=b) w' cs t) (hb:Below w.heap.size w w'):TQ p r w (.returned (.agg ⟨cs⟩)) w':= .inl ⟨t,cs,hr,rfl,hk,hb⟩
theorem TQ.no {p:Nat->Prop} {r:Except Int TT} {m n:Int} {w:World} {w':World} (hr:r= .error m) (hn:n≠0) (hb:Below w.heap.size w w'):TQ p r w (panE n) w':= .inr ⟨m,n,hr,hn,rfl,hb⟩
theorem zdM (nm s:ByteArray) (lb:Int) (a b c d e f g i j:Value) (pb xb xo:Nat) (w:World) (hp:w.cell? ⟨pb,0,none⟩= some (.pointer (some ⟨xb,xo,none⟩))) (hs:w.cell? ⟨xb,xo+1,none⟩= some (.string s)) (hlp:pb < w.heap.size) (hlx:xb < w.heap.size):
  Calls Tryz.prog 223 #[.agg #[.string nm,.int .i64 lb,a,b,c,d,e,f,g,i,j],.pointer (some ⟨pb,0,none⟩)] w fun r w'=>r= .returned (.bool (nm.toList ==s.toList))/\Below w.heap.size w w':=by
 have A:=I (zc w (.cells #[.string nm,.int .i64 lb,a,b,c,d,e,f,g,i,j] 41));have K:=I hp;have N:=I hs;have G:=I hlp;have C:=I hlx;have d0:=zI w #[.string nm,.int .i64 lb,a,b,c,d,e,f,g,i,j] 41 0;simp only[List.getElem?_toArray,List.getElem?_cons_zero] at d0;clear hp hlp hs hlx;go_enter Tryz.func223,Tryz.ntmps223;go_upto_region 1 with (fail);have d2:=(A.o.cell (p:=⟨pb,0,none⟩) G.o).trans K.o;have d3:=(A.o.cell (p:=⟨xb,xo+1,none⟩) C.o).trans N.o;generalize w.alloc (.cells #[.string nm,.int .i64 lb,a,b,c,d,e,f,g,i,j] 41)= W at*;go_quiet (fail);go_wp2;go_ret;exact⟨rfl,zj A.o _⟩
theorem zbr (E:List VarT) (s:ByteArray) (v:Value) (pb xb xo:Nat) (w:World) (hv:SlAt w w.heap.size 11 (VarAt w w.heap.size) v E) (hE:E.length<=10000) (hp:w.cell? ⟨pb,0,none⟩= some (.pointer (some ⟨xb,xo,none⟩))) (hs:w.cell? ⟨xb,xo+1,none⟩= some (.string s)) (hlp:pb < w.heap.size) (hlx:xb < w.heap.size):
  Calls Tryz.prog 114 #[v,.func (.func 223) #[] #[.pointer (some ⟨pb,0,none⟩)]] w fun e w'=>e= .returned (.int .i64 (findV E s))/\Below w.heap.size w w':=by
 obtain⟨a9,EA,ec,rfl,a0⟩:=hv;have a4:=I a0;have a6:=I (fun nm lb a b c d e f g i j u (hu:Below w.heap.size w u)=>zdM nm s lb a b c d e f g i j pb xb xo u ((hu.cell (p:=⟨pb,0,none⟩) hlp).trans hp) ((hu.cell (p:=⟨xb,xo+1,none⟩) hlx).trans hs) (Nat.lt_of_lt_of_le hlp hu.size) (Nat.lt_of_lt_of_le hlx hu.size));clear hp hlp hs hlx;have b4:(E.length:Int)<=10000:=by omega
 clear a0 a9;go_enter Tryz.func114,Tryz.ntmps114;go_wp2;go_loopg [8] E.length (fun q x u=>∃ j:Nat,j+q= E.length/\x= .int .i64 j/\Below w.heap.size w u/\∀ k,k < j->∀ e,E[k]?= some e->z2o s e= false);case atStart=>exact⟨0,by omega,rfl,Below.refl _ _,fun k hk=>absurd hk (Nat.not_lt_zero k)⟩
 case round=>
  obtain⟨jj,hj,rfl,hb,a2⟩:=hrel;have A:=I hb;have N:=I a2;clear hb a2;cases gk with
  |zero=>
   obtain rfl:jj= E.length:=by omega
   have b6: ¬ ((E.length:Int) <(E.length:Int)):=by omega
   have HR:Hid (findV E s= -1):=I (z5u fun k e O=>N.o k (List.getElem?_eq_some_iff.1 O).1 e O);go_wp2;go_ret;exact⟨by rw[HR.o];try rfl,A.o⟩
  |succ q=>
   have b5:(jj:Int) <(E.length:Int):=by omega
   obtain⟨x,O⟩:∃ e,E[jj]?= some e:=⟨_,List.getElem?_eq_getElem (by omega)⟩;obtain⟨bb,o,rfl,a8,hc⟩:=a4.o (by omega);obtain⟨ks,b0,a1,a3⟩:=hc jj x O;obtain⟨a,b,c,d,e,f,g,i,j,rfl⟩:=z9g a3;have X:=I (zb a1 A.o a8);have HE:=I O;have G:=I (a6.o x.name x.label a b c d e f g i j wr A.o);clear hc O a1 a3 b0;cases ho:(x.name.toList ==s.toList) with
   |true=>
    have HR:Hid (findV E s= jj):=I (z4n jj x HE.o ho fun k hk Y he'=>N.o k hk Y he');rw[ho] at G;clear ho;go_wp2_with (first|((with_reducible refine za tyK41 _ rfl ?_ X.o rfl ?_ ?_);exact wA rfl;rfl)|(go_at_call 223;refine G.o.mono ?_;rintro Y w4 ⟨rfl,C⟩;have K:=I C;clear C));go_ret;exact⟨by rw[HR.o];try rfl,(beT A.o K.o)⟩
   |false=>
    have a5:Hid (∀ k,k < jj+1->∀ e,E[k]?= some e->z2o s e= false):=I fun k hk Y he'=>by
     by_cases ek:k= jj
     ·subst ek
      have:=HE.o;rw[he'] at this;injection this with this;rw[this];exact ho
     ·exact N.o k (by omega) Y he'
    rw[ho] at G;clear ho;go_wp2_with (first|((with_reducible refine za tyK41 _ rfl ?_ X.o rfl ?_ ?_);exact wA rfl;rfl)|(go_at_call 223;refine G.o.mono ?_;rintro Y w4 ⟨rfl,C⟩;have K:=I C;clear C));go_roundg q;case measure=>omega
    case rel=>exact⟨jj+1,by omega,by go_num,(beT A.o K.o),a5.o⟩
theorem zdp {p:Nat->Prop} {w:World} {ce:List Value} {vr va:Value} {E:List VarT} {s:ByteArray} {v:VT} {ns:List ByteArray} {k:Int} {l:List TT} {cb b o:Nat} (h:OwnArgs p w ce vr va E k s v ns l) (hr:w.rangeAt b o ce) (hb:b < w.heap.size) (hc:w.cell? ⟨cb,0,none⟩= some va) (hcl:cb < w.heap.size) (hk:kidsB (z0V k) l.length= true) (hst:∀ t∈l,stT t= true) (hnm:k= 17->ns.length<=1000):
  Calls Tryz.prog 206 #[.pointer (some ⟨cb,0,none⟩),.pointer (some ⟨b,o,none⟩),vr] w (TQ p (ownT E k s v ns l) w):=by
 obtain⟨-,VA,vc,rfl, -⟩:=id h.vars;have HC:=I h.cells;have K:=I h;have j2:=I hst;have y6:=I hnm;have y3:=I hb;have h9:Hid (∀ z,Below w.heap.size w z->∀ j v,ce[j]?= some v->z.cell? ⟨b,o+j,none⟩= some v):=I fun z G j v hv=>(G.cell (p:=⟨b,o+j,none⟩) hb).trans (hr j v hv);have p4:Hid (∀ z,Below w.heap.size w z->z.cell? ⟨cb,0,none⟩= some (.slice VA E.length vc)):=I fun z G=>(G.cell (p:=⟨cb,0,none⟩) hcl).trans hc;have C1:=z8E hk;clear h hk hst hnm hr hb hc hcl;go_enter Tryz.func206,Tryz.ntmps206;go_upto_region 1 with (fail);have v8:(#[Value.int IntKind.i64 0,Value.slice none 0 0,Value.slice none 0 0]:Array Value)= zT3.toArray:=rfl;rw[v8];clear v8;have g1:=zc w (.cells #[.pointer (some ⟨b,o,none⟩)] 90);have h1:=Whole.new w [.pointer (some ⟨b,o,none⟩)] 90;have s1:(w.alloc (.cells #[.pointer (some ⟨b,o,none⟩)] 90)).heap.size= w.heap.size+1:=by simp
 generalize w.alloc (.cells #[.pointer (some ⟨b,o,none⟩)] 90)= W1 at*;have g2:=zc W1 (.cells zT3.toArray 36);have h2:=Whole.new W1 zT3 36;generalize W1.alloc (.cells zT3.toArray 36)= W at*;rw[s1] at h2
 (try rw[s1])
 have j3:=I (h1.keep (g2.block _ (by omega)));have r9:=I h2;have a9:=I (beT g1 g2);have g3:Hid (w.heap.size+1 < W.heap.size):=I h2.lt;have e5:Hid (∀ z,Below W.heap.size W z->z.cell? ⟨w.heap.size,0,none⟩= some (.pointer (some ⟨b,o,none⟩))):=I fun z G=>(G.cell (p:=⟨w.heap.size,0,none⟩) j3.o.lt).trans (j3.o.range 0 _ rfl);have C:Hid (∀ z,Below W.heap.size W z->Below w.heap.size w z):=I fun z G=>a9.o.trans (G.mono a9.o.size);have f1:Hid (∀ z,Below W.heap.size W z->Whole 36 z (w.heap.size+1) zT3):=I fun z G=>r9.o.keep (G.block _ r9.o.lt);have t3:Below W.heap.size W W:=Below.refl _ _;have p6:=I t3;clear g1 g2 h1 h2 s1 t3;have e0:W.cell? ⟨w.heap.size,0,none⟩= some (.pointer (some ⟨b,o,none⟩)):=e5.o W p6.o;have e1:W.cell? ⟨b,o,none⟩= some (.int .i64 k):=h9.o W a9.o 0 _ HC.o.1;rcases C1 with ⟨hk,_⟩|⟨hk,hn⟩|⟨hk,hn⟩|⟨rfl,hn⟩|hk
 ·rcases hk with rfl|rfl
  ·have j4:=HC.o.2.2.2.1
   have e2:W.cell? ⟨b,o+2,none⟩= some (.int .i64 (kV v)):=h9.o W a9.o 2 _ HC.o.2.2.1;have HF:Hid (ownT E 1 s v ns l= .ok (pT (kV v))):=I rfl;go_wp2_with (first|(go_at_call 222;refine(z1t (kV v) j4 _).mono ?_;rintro e z ⟨rfl,hb⟩;have g4:=I (f1.o z hb);have c7:=I (C.o z hb);clear hb)|((with_reducible refine zi 36 _ _ rfl rfl ?_ g4.o (tyC (kV v) (.slice none 0 0) (.slice none 0 0)) ?_ ?_ ?_ ?_ ?_ ?_);exact wA rfl;rfl;rfl;rfl;kernel_rfl;exact(zM _ _ _ _ _ _ _);intro Z b1 a1))
   (try simp only[Exit.inBlock,Exit.then])
   refine bodyPost_ret (zO rfl _ _ (w.heap.size+1) (tyC (kV v) (.slice none 0 0) (.slice none 0 0)) rfl rfl b1.o) rfl ?_;exact TQ.ok HF.o (z0I j4) (c7.o.trans (a1.o.below c7.o.size (by omega) (by omega)))
  ·have v0:W.cell? ⟨cb,0,none⟩= some (.slice VA E.length vc):=p4.o W a9.o
   have B3:=I (z4K K.o.vars a9.o);have G0:∀ (fn:Fn) (first cap:Array Value) (w:World),(Instr.makeFunc fn first cap).run Tryz.prog w= .ok (.func fn first cap) w:=fun _ _ _ _=>rfl;have n7:=I (zbr E s (.slice VA E.length vc) w.heap.size b o W (zfy B3.o) K.o.elen e0 (h9.o W a9.o 1 _ HC.o.2.1) j3.o.lt (Nat.lt_of_lt_of_le y3.o a9.o.size));have t8:=z7t E s;obtain⟨ix,g8⟩:∃ ix,findV E s= ix:=⟨_,rfl⟩;have j9:Hid (Calls Tryz.prog 114 #[.slice VA E.length vc,.func (.func 223) #[] #[.pointer (some ⟨w.heap.size,0,none⟩)]] W fun e w'=>e= .returned (.int .i64 ix)/\Below W.heap.size W w'):=I (g8▸n7.o);clear n7;have j0:=I g8;rw[g8] at t8;clear g8;rcases t8 with rfl|⟨q0,q3⟩
   ·have HF:Hid (ownT E 2 s v ns l= .error 11):=I (by show(if findV E s= -1 then(Except.error 11:Except Int TT) else _)= _;rw[if_pos j0.o])
    go_wp2_with (first|(go_at_call 114;refine(j9.o).mono ?_;rintro e z ⟨rfl,hb⟩;have j6:=I hb;have D0:z.cell? ⟨cb,0,none⟩= some (.slice (VA) E.length vc):=p4.o z (C.o z hb);clear hb)|(go_at_call 176;refine(z08 11 _).e42 ?_));exact⟨rfl,TQ.no HF.o (by decide) (C.o z j6.o)⟩
   ·obtain⟨j,rfl⟩:∃ j:Nat,ix=(j:Int):=⟨ix.toNat,by omega⟩
    have hj:j < E.length:=by omega
    obtain⟨x,hx⟩:∃ x,E[j]?= some x:=⟨_,List.getElem?_eq_getElem hj⟩;have HF:Hid (ownT E 2 s v ns l= .ok x.type):=I (by
     show(if findV E s= -1 then(Except.error 11:Except Int TT) else _)= _;rw[if_neg (by rw[j0.o];omega)];have:(findV E s).toNat= j:=by rw[j0.o];rfl
     rw[this,hx])
    obtain⟨_,E5,G3,e',t2⟩:=K.o.vars;injection e' with e1' e2' e3';subst e1' e3';obtain⟨vb,vo,rfl,v5,hc⟩:=t2 (by omega);obtain⟨ks,n3,u4,C4⟩:=hc j x hx;obtain⟨⟨ct,ci,rfl,t9,B9,q9,_⟩,_,_⟩:=C4;have x3:Hid (∀ z,Below w.heap.size w z->z.rangeAt vb (vo+j*11+2) ct):=I (fun z G=>zb (fun i u hu=>by
     have:=u4 (2+i) u (by rw[List.append_assoc];show([Value.string x.name,Value.int .i64 x.label] ++ (ct ++ ci))[2+i]?= _;rw[List.getElem?_append_right (by simp)];simp only[List.length_cons,List.length_nil];rw[show 2+i - (0+1+1)= i by omega,List.getElem?_append_left (List.getElem?_eq_some_iff.1 hu).1];exact hu);have h2:=(zx.1 this).2;rwa [show vo+j*11+ (2+i)= vo+j*11+2+i by omega] at h2) G v5)
    have m7:=I t9;have x9:Hid (KeptT p w ct x.type):=I q9;have y9:=I (zl q9).2;have F6:(j:Int) <(E.length:Int):=by omega
    have F7: ¬ (j:Int) < 0:=by omega
    have F5:(0:Int)<=(j:Int):=by omega
    clear hc u4 t9 B9 q9 t2 n3 hx v5 q3 q0 e2';go_wp2_with (first|(go_at_call 114;refine(j9.o).mono ?_;rintro e z ⟨rfl,hb⟩;have j6:=I hb;have D0:z.cell? ⟨cb,0,none⟩= some (.slice (some ⟨vb,vo,none⟩) E.length vc):=p4.o z (C.o z hb);clear hb;have g4:=I (f1.o z j6.o);have x4:=I (x3.o z (C.o z j6.o));have c7:=I (C.o z j6.o))|(go_at_call 176;refine(z0u 11 _).e42 ?_)|((with_reducible refine za tyK36 _ rfl ?_ x4.o rfl m7.o ?_);exact wA rfl)|((with_reducible refine zi 36 _ _ rfl rfl ?_ g4.o (ct) ?_ ?_ ?_ ?_ ?_ ?_);exact wA rfl;rw[m7.o];rfl;rfl;rfl;rw[m7.o];kernel_rfl;exact y9.o;intro Z b1 a1))
    (try simp only[Exit.inBlock,Exit.then])
    refine bodyPost_ret (zO rfl _ _ (w.heap.size+1) (ct) m7.o rfl b1.o) rfl ?_;exact TQ.ok HF.o (x9.o.to (fun b hb hl=>⟨.inl hb,(a1.o.block b (Nat.lt_of_lt_of_le hl c7.o.size) (by have:=K.o.lo b hb;omega) (by have:=K.o.lo b hb;omega)).trans (c7.o.block b hl)⟩) (Nat.le_trans c7.o.size a1.o.size)) (c7.o.trans (a1.o.below c7.o.size (by omega) (by omega)))
 ·obtain⟨ta,rfl⟩:=len1 hn
  clear hn;by_cases h18:k= 18
  ·subst h18
   obtain⟨A,c,rfl,h2⟩:=K.o.row.inv;obtain⟨b3,o3,rfl,a2,hc⟩:=h2 (by simp);have l8:=I a2;obtain⟨n0,d2,a5,O⟩:=hc 0 ta rfl;obtain⟨x0,b5⟩:∃ x,kT ta= x:=⟨_,rfl⟩;obtain⟨X0,Y0,rfl,d0,d1⟩:=O.form b5;have a6:w.rangeAt b3 (o3) [.int .i64 x0,X0,Y0]:=by simpa using a5
   have d9:Hid (([.int .i64 x0,X0,Y0]:List Value).length= 3):=I rfl;have g0:=I O;have d8:=I b5;have a0:=I (And.intro d0 d1);have m9:=I (zl O.typ).2;have b0:=I (fun z (G:Below w.heap.size w z)=>zb a6 G a2);clear d2 a5 O a6 d0 d1 b5;clear hc h2 a2;have j9:Hid (ownT E 18 s v ns [ta]= z3o s ta):=I rfl;by_cases k6:x0= 6
   ·subst k6
    have l3:=(K.o.oks ta (by simp)).1;cases ta with
    |mk k0 na ia=>
    obtain rfl:k0= 6:=d8.o;obtain⟨hJ,_⟩:=z1P.1 l3;obtain⟨NA,nc,A4,c4,e4,_,h1,h2,h3⟩:=g0.o.inv;simp only[List.cons.injEq,and_true,true_and] at e4;obtain⟨rfl,rfl⟩:=e4;have y4:=I h1;have p0:=I h3;have r6:=I hJ;clear h1 h2 h3 l3 hJ;have m2:Hid (ownT E 18 s v ns [.mk 6 na ia]= if Lib.idxOfS na s= -1 then .error 10 else .ok (ia.getD (Lib.idxOfS na s).toNat (pT 0))):=I (by rw[j9.o,z3o,if_neg (by decide)]);have j0:Hid (∀ z:World,Below w.heap.size w z->Calls Tryz.prog 116 #[.slice NA na.length nc,.string s] z fun e z'=>e= .returned (.int .i64 (Lib.idxOfS na s))/\z'= z):=I fun z G=>by
     rcases Nat.eq_zero_or_pos na.length with h0|h0
     ·obtain rfl:na=[]:=List.eq_nil_of_length_eq_zero h0
      exact Tryz.slices_Index_string_empty NA nc s z
     ·obtain⟨bn,on,rfl,c6,C0⟩:=y4.o h0
      have:=Tryz.slices_Index_string bn on na.length nc na s z (Nat.le_refl _) (by have:=r6.o.1;omega) fun j hj=>by
       rw[List.getD_eq_getElem?_getD,List.getElem?_eq_getElem hj];exact(G.cell (p:=⟨bn,on+j,none⟩) c6).trans (C0 j _ (List.getElem?_eq_getElem hj))
      rw[List.take_length] at this;exact this
    have c9:Hid (W.rangeAt b3 o3 [.int .i64 6,.slice NA na.length nc,.slice A4 ia.length c4]):=I (b0.o W a9.o);go_upto_region 23 with (first|((with_reducible refine za tyK36 _ rfl ?_ c9.o rfl d9.o ?_);exact wA rfl)|(go_at_call 224;refine(tone1 6 6 _ _ W a0.o.1 a0.o.2).k42 ?_;intro z0 N)|(go_at_call 176;refine(z0u 6 _).e42 ?_));clear e0 e1;have hs:Below w.heap.size w z0.drew/\z0.drew.cell? ⟨w.heap.size,0,none⟩= some (.pointer (some ⟨b,o,none⟩)):=⟨(C.o _ N.o).drew,e5.o _ N.o.drew⟩;refine zo [(0,true),(1,true),(2,true),(3,true),(4,true),(5,true),(6,true),(7,true),(8,false),(9,true)] (fun z=>Below w.heap.size w z/\z.cell? ⟨w.heap.size,0,none⟩= some (.pointer (some ⟨b,o,none⟩))) (by kernel_rfl) (by intro c a d v w h;cases d<;>exact h) ?_;refine zf 91 (.slice (some ⟨b3,o3,none⟩) [TT.mk 6 na ia].length c) rfl rfl rfl rfl hs rfl ?_;go_frame;refine z7 92 (.pointer (some ⟨b3,o3,none⟩)) rfl rfl rfl hs (fun z G=>by go_simp) ?_;go_frame;refine z7 93 (.pointer (some ⟨b3,o3+1,none⟩)) rfl rfl rfl hs (fun z G=>by go_simp) ?_;go_frame;refine z7 94 (.slice NA na.length nc) rfl rfl rfl hs (fun z G=>by have e3:=b0.o z G.1 1 _ rfl;clear G;go_simp) ?_;go_frame;refine z7 95 (.pointer (some ⟨b,o,none⟩)) rfl rfl rfl hs (fun z G=>by have e3:=G.2;clear G;go_simp) ?_;go_frame;refine z7 96 (.pointer (some ⟨b,o,none⟩)) rfl rfl rfl hs (fun z G=>by go_simp) ?_;go_frame;refine z7 97 (.pointer (some ⟨b,o+1,none⟩)) rfl rfl rfl hs (fun z G=>by go_simp) ?_;go_frame;refine z7 98 (.string s) rfl rfl rfl hs (fun z G=>by have e3:=h9.o z G.1 1 _ HC.o.2.1;clear G;go_simp) ?_;go_frame;refine zA 99 116 Tryz.func116 (by kernel_rfl) [.slice NA na.length nc,.string s] rfl rfl rfl rfl rfl ?_;refine(j0.o _ hs.1).e42 ?_;refine⟨_,rfl,hs,?_⟩;go_frame;refine zS 11 (.int .i64 (Lib.idxOfS na s)) rfl rfl rfl rfl hs rfl ?_;go_frame;refine zD ?_;have s8:Hid (Below W.heap.size W z0.drew):=I N.o.drew;clear hs N j0;generalize z0.drew= Y at*;have r5:=z38 na s;obtain⟨ix,g8⟩:∃ ix,Lib.idxOfS na s= ix:=⟨_,rfl⟩;rw[g8] at r5 m2;rw[g8];clear g8;have f8:=I (C.o Y s8.o);rcases r5 with rfl|⟨q0,q3⟩
    ·go_wp2_with (first|(go_at_call 176;refine(z08 10 _).e42 ?_))
     exact⟨rfl,TQ.no m2.o (by decide) f8.o⟩
    ·have f6: ¬ ix= -1:=by omega
     rw[if_neg f6] at m2;obtain⟨j,rfl⟩:∃ j:Nat,ix=(j:Int):=⟨ix.toNat,by omega⟩;have u9:=r6.o.2.2 (by first|trivial|rfl);have hj:j < ia.length:=by omega
     have F4:(j:Int) <(ia.length:Int):=by omega
     have F3:(0:Int)<=(j:Int):=by omega
     obtain⟨b4,o4,rfl,n1,l2⟩:=p0.o (by omega);obtain⟨ks,n3,u3,j4⟩:=l2 j _ (List.getElem?_eq_getElem hj);have y0:=I j4;have m5:=I n3;have x8:Hid (Y.rangeAt b4 (o4+j*3) ks):=I (zb u3 f8.o n1);have f0:=I (zl j4.typ).2;have HF:Hid (ownT E 18 s v ns [.mk 6 na ia]= .ok ia[j]):=I (by rw[m2.o];simp[List.getD,List.getElem?_eq_getElem hj]);have A7:=I (f1.o Y s8.o);have d5:Y.cell? ⟨b3,o3+2,none⟩= some (.slice (some ⟨b4,o4,none⟩) ia.length c4):=b0.o Y f8.o 2 _ rfl;clear l2 n3 u3 j4 q0 q3 f6 u9;go_wp2_with (first|(go_at_call 176;refine(z0u 10 _).e42 ?_)|((with_reducible refine za tyK36 _ rfl ?_ x8.o rfl m5.o ?_);exact wA rfl)|((with_reducible refine zi 36 _ _ rfl rfl ?_ A7.o (ks) ?_ ?_ ?_ ?_ ?_ ?_);exact wA rfl;rw[m5.o];rfl;rfl;rfl;rw[m5.o];kernel_rfl;exact f0.o;intro Z b1 a1))
     (try simp only[Exit.inBlock,Exit.then])
     refine bodyPost_ret (zO rfl _ _ (w.heap.size+1) (ks) m5.o rfl b1.o) rfl ?_;exact TQ.ok HF.o (y0.o.to (fun b hb hl=>⟨.inl hb,(a1.o.block b (Nat.lt_of_lt_of_le hl f8.o.size) (by have:=K.o.lo b hb;omega) (by have:=K.o.lo b hb;omega)).trans (f8.o.block b hl)⟩) (Nat.le_trans f8.o.size a1.o.size)) (f8.o.trans (a1.o.below f8.o.size (by omega) (by omega)))
   ·have q6:(x0 ==6)= false:=by rw[beq_eq_false_iff_ne];exact k6
    have HF:Hid (ownT E 18 s v ns [ta]= .error 6):=I (by
     rw[j9.o];cases ta with
     |mk k0 na ia=>exact if_pos (fun h=>k6 (d8.o.symm.trans h)))
    have c9:Hid (W.rangeAt b3 o3 [.int .i64 x0,X0,Y0]):=I (b0.o W a9.o);go_wp2_with (first|((with_reducible refine za tyK36 _ rfl ?_ c9.o rfl d9.o ?_);exact wA rfl)|(go_at_call 224;refine(tone1 x0 6 X0 Y0 W a0.o.1 a0.o.2).k42 ?_;intro z0 b6)|(go_at_call 176;refine(z08 6 _).e42 ?_));exact⟨rfl,TQ.no HF.o (by decide) (C.o _ b6.o)⟩
  ·have C2:k= 3\/k= 4\/k= 20\/k= 21\/k= 22\/k= 23:=by omega
   obtain⟨A,c,rfl,h2⟩:=K.o.row.inv;obtain⟨b3,o3,rfl,a2,hc⟩:=h2 (by simp);have l8:=I a2;obtain⟨n0,d2,a5,O⟩:=hc 0 ta rfl;obtain⟨x0,b5⟩:∃ x,kT ta= x:=⟨_,rfl⟩;obtain⟨X0,Y0,rfl,d0,d1⟩:=O.form b5;have a6:w.rangeAt b3 (o3) [.int .i64 x0,X0,Y0]:=by simpa using a5
   have d9:Hid (([.int .i64 x0,X0,Y0]:List Value).length= 3):=I rfl;have g0:=I O;have d8:=I b5;have a0:=I (And.intro d0 d1);have m9:=I (zl O.typ).2;have b0:=I (fun z (G:Below w.heap.size w z)=>zb a6 G a2);clear d2 a5 O a6 d0 d1 b5;clear hc h2 a2;have C8:(k ==1)= false:=by rw[beq_eq_false_iff_ne];omega
   have C9:(k ==2)= false:=by rw[beq_eq_false_iff_ne];omega
   have v9:(k ==15)= false:=by rw[beq_eq_false_iff_ne];omega
   have w2:(k ==16)= false:=by rw[beq_eq_false_iff_ne];omega
   have w3:(k ==17)= false:=by rw[beq_eq_false_iff_ne];omega
   have w4:(k ==18)= false:=by rw[beq_eq_false_iff_ne];omega
   have w5:(k ==19)= false:=by rw[beq_eq_false_iff_ne];omega
   have B2:Hid (∀ z,Below w.heap.size w z->Calls Tryz.prog 225 #[.int .i64 k,.agg ⟨[.int .i64 x0,X0,Y0]⟩] z (TQ p (ownT E k s v ns [ta]) z)):=I fun z G=>zbu p k ta [.int .i64 x0,X0,Y0] z E s v ns C2 (g0.o.next G) (fun b hb=>Nat.lt_of_lt_of_le (K.o.lo b hb) G.size);go_upto_region 30 with (fail);clear e0 e1;have N:=p6;have hs:Below w.heap.size w W.drew/\W.drew.cell? ⟨w.heap.size,0,none⟩= some (.pointer (some ⟨b,o,none⟩)):=⟨(C.o _ N.o).drew,e5.o _ N.o.drew⟩;refine zo [(0,true),(1,true),(2,true),(3,true),(4,true),(5,true),(6,true),(7,false),(8,false)] (fun z=>Below w.heap.size w z/\z.cell? ⟨w.heap.size,0,none⟩= some (.pointer (some ⟨b,o,none⟩))) (by kernel_rfl) (by intro c a d v w h;cases d<;>exact h) ?_;refine z7 145 (.pointer (some ⟨b,o,none⟩)) rfl rfl rfl hs (fun z G=>by have e3:=G.2;clear G;go_simp) ?_;go_frame;refine z7 146 (.pointer (some ⟨b,o,none⟩)) rfl rfl rfl hs (fun z G=>by go_simp) ?_;go_frame;refine z7 147 (.pointer (some ⟨b,o,none⟩)) rfl rfl rfl hs (fun z G=>by go_simp) ?_;go_frame;refine z7 148 (.int .i64 k) rfl rfl rfl hs (fun z G=>by have e3:=h9.o z G.1 0 _ HC.o.1;clear G;rw[Nat.add_zero] at e3;go_simp) ?_;go_frame;refine zf 149 (.slice (some ⟨b3,o3,none⟩) [ta].length c) rfl rfl rfl rfl hs rfl ?_;go_frame;refine z7 150 (.pointer (some ⟨b3,o3,none⟩)) rfl rfl rfl hs (fun z G=>by go_simp) ?_;go_frame;refine z7 151 (.agg ⟨[.int .i64 x0,X0,Y0]⟩) rfl rfl rfl hs (fun z G=>zp 36 rfl (b3) (o3) ([.int .i64 x0,X0,Y0]) _ rfl (b0.o z G.1) Tryz.underlying36 rfl (by rw[d9.o];kernel_rfl)) ?_;go_frame;refine z4X (some 152) 225 Tryz.func225 (by kernel_rfl) (by kernel_rfl) [.int .i64 k,.agg ⟨[.int .i64 x0,X0,Y0]⟩] _ _ _ rfl rfl rfl (by exact wA rfl) rfl ?_;refine(B2.o _ hs.1).mono ?_;rintro e u6 (⟨tn,cn,d3,rfl,b2,c6⟩|⟨m,n,d3,hn,rfl,c6⟩);case inr=>exact .inr ⟨_,rfl,rfl,TQ.no d3 hn ((C.o _ N.o).drew.trans (c6.mono (C.o _ N.o).size))⟩
   have HF:=I d3;clear d3;have f3:=I b2;have c8:=I (zl b2.typ).1;have f0:=I (zl b2.typ).2;have a3:Hid (Below W.heap.size W u6):=I ((N.o.trans ((Below.refl _ _).drew.mono N.o.size)).trans (c6.mono (Nat.le_trans N.o.size (Nat.le_refl _))));clear b2 c6;refine .inl ⟨_,rfl,⟨C.o _ a3.o,e5.o _ a3.o⟩,?_⟩;go_frame;refine z1Z none 36 _ _ _ rfl rfl rfl (by exact wA rfl) (w.heap.size+1) zT3 cn (f1.o _ a3.o) (by rw[c8.o];rfl) rfl rfl (by rw[c8.o];kernel_rfl) f0.o ?_;intro wf h6 b9;have f7:Hid (Below w.heap.size w wf):=I ((C.o _ a3.o).trans (b9.below (C.o _ a3.o).size (by omega) (by omega)));have b1:=I h6;have k8:Hid (wf.cell? ⟨w.heap.size,0,none⟩= some (.pointer (some ⟨b,o,none⟩))):=I ((World.cell?_of_block (a:=⟨w.heap.size,0,none⟩) (b9.block w.heap.size (Nat.lt_of_lt_of_le j3.o.lt a3.o.size) (by omega) (by omega))).trans (e5.o _ a3.o));have k3:Hid (KeptT (fun b=>p b\/w.heap.size<=b) wf cn tn):=I (f3.o.to (fun b h1 h2=>⟨h1.imp id fun h=>Nat.le_trans (C.o _ N.o).size h,b9.block b h2 (fun e=>by
    rcases h1 with h|h
    ·have:=K.o.lo b h;omega
    ·have h3:=g3.o;have h4:=N.o.size;have h5:W.heap.size<=b:=h;omega) (fun e=>by
    rcases h1 with h|h
    ·have:=K.o.lo b h;omega
    ·have h3:=g3.o;have h4:=N.o.size;have h5:W.heap.size<=b:=h;omega)⟩) b9.size)
   clear h6 b9;refine⟨⟨f7.o,k8.o⟩,?_⟩;go_frame;refine zD ?_;go_wp2
   (try simp only[Exit.inBlock,Exit.then])
   refine bodyPost_ret (zO rfl _ _ (w.heap.size+1) (cn) c8.o rfl b1.o) rfl ?_;exact TQ.ok HF.o k3.o f7.o
 ·obtain⟨ta,tb,rfl⟩:=len2 hn
  clear hn;rcases hk with hk|rfl
  ·obtain⟨A,c,rfl,h2⟩:=K.o.row.inv
   obtain⟨b3,o3,rfl,a2,hc⟩:=h2 (by simp);have l8:=I a2;obtain⟨n0,d2,a5,O⟩:=hc 0 ta rfl;obtain⟨x0,b5⟩:∃ x,kT ta= x:=⟨_,rfl⟩;obtain⟨X0,Y0,rfl,d0,d1⟩:=O.form b5;have a6:w.rangeAt b3 (o3) [.int .i64 x0,X0,Y0]:=by simpa using a5
   have d9:Hid (([.int .i64 x0,X0,Y0]:List Value).length= 3):=I rfl;have g0:=I O;have d8:=I b5;have a0:=I (And.intro d0 d1);have m9:=I (zl O.typ).2;have b0:=I (fun z (G:Below w.heap.size w z)=>zb a6 G a2);clear d2 a5 O a6 d0 d1 b5;obtain⟨t0,g9,d6,a4⟩:=hc 1 tb rfl;obtain⟨x1,e6⟩:∃ x,kT tb= x:=⟨_,rfl⟩;obtain⟨X1,Y1,rfl,g6,g7⟩:=a4.form e6;have d7:w.rangeAt b3 (o3+3) [.int .i64 x1,X1,Y1]:=by simpa using d6
   have i1:Hid (([.int .i64 x1,X1,Y1]:List Value).length= 3):=I rfl;have m4:=I a4;have m0:=I e6;have d4:=I (And.intro g6 g7);have r8:=I (zl a4.typ).2;have i2:=I (fun z (G:Below w.heap.size w z)=>zb d7 G a2);clear g9 d6 a4 d7 g6 g7 e6;clear hc h2 a2;have C8:(k ==1)= false:=by rw[beq_eq_false_iff_ne];omega
   have C9:(k ==2)= false:=by rw[beq_eq_false_iff_ne];omega
   have v9:(k ==15)= false:=by rw[beq_eq_false_iff_ne];omega
   have w2:(k ==16)= false:=by rw[beq_eq_false_iff_ne];omega
   have w3:(k ==17)= false:=by rw[beq_eq_false_iff_ne];omega
   have w4:(k ==18)= false:=by rw[beq_eq_false_iff_ne];omega
   have w5:(k ==19)= false:=by rw[beq_eq_false_iff_ne];omega
   have n5:Hid (∀ z,Below w.heap.size w z->Calls Tryz.prog 226 #[.int .i64 k,.agg ⟨[.int .i64 x0,X0,Y0]⟩,.agg ⟨[.int .i64 x1,X1,Y1]⟩] z (TQ p (pairT k ta tb) z)):=I fun z G=>z9V p k ta tb [.int .i64 x0,X0,Y0] [.int .i64 x1,X1,Y1] z hk (g0.o.next G) (m4.o.next G) (fun b hb=>Nat.lt_of_lt_of_le (K.o.lo b hb) G.size) (K.o.oks ta (by simp)).1 (K.o.oks tb (by simp)).1 (j2.o ta (by simp)) (j2.o tb (by simp)) (K.o.oks ta (by simp)).2.1 (K.o.oks tb (by simp)).2.1;have o6:Hid (∀ z,Below w.heap.size w z->Calls Tryz.prog 226 #[.int .i64 k,.agg ⟨[.int .i64 x0,X0,Y0]⟩,.agg ⟨[.int .i64 x1,X1,Y1]⟩] z (TQ p (ownT E k s v ns [ta,tb]) z)):=I (by rw[zgi hk];exact n5.o);clear n5;go_upto_region 31 with (fail);clear e0 e1;have N:=p6;have hs:Below w.heap.size w W.drew/\W.drew.cell? ⟨w.heap.size,0,none⟩= some (.pointer (some ⟨b,o,none⟩)):=⟨(C.o _ N.o).drew,e5.o _ N.o.drew⟩;refine zo [(0,true),(1,true),(2,true),(3,true),(4,true),(5,true),(6,true),(7,true),(8,true),(9,true),(10,false),(11,false)] (fun z=>Below w.heap.size w z/\z.cell? ⟨w.heap.size,0,none⟩= some (.pointer (some ⟨b,o,none⟩))) (by kernel_rfl) (by intro c a d v w h;cases d<;>exact h) ?_;refine z7 153 (.pointer (some ⟨b,o,none⟩)) rfl rfl rfl hs (fun z G=>by have e3:=G.2;clear G;go_simp) ?_;go_frame;refine z7 154 (.pointer (some ⟨b,o,none⟩)) rfl rfl rfl hs (fun z G=>by go_simp) ?_;go_frame;refine z7 155 (.pointer (some ⟨b,o,none⟩)) rfl rfl rfl hs (fun z G=>by go_simp) ?_;go_frame;refine z7 156 (.int .i64 k) rfl rfl rfl hs (fun z G=>by have e3:=h9.o z G.1 0 _ HC.o.1;clear G;rw[Nat.add_zero] at e3;go_simp) ?_;go_frame;refine zf 157 (.slice (some ⟨b3,o3,none⟩) [ta,tb].length c) rfl rfl rfl rfl hs rfl ?_;go_frame;refine z7 158 (.pointer (some ⟨b3,o3,none⟩)) rfl rfl rfl hs (fun z G=>by go_simp) ?_;go_frame;refine z7 159 (.agg ⟨[.int .i64 x0,X0,Y0]⟩) rfl rfl rfl hs (fun z G=>zp 36 rfl (b3) (o3) ([.int .i64 x0,X0,Y0]) _ rfl (b0.o z G.1) Tryz.underlying36 rfl (by rw[d9.o];kernel_rfl)) ?_;go_frame;refine zf 160 (.slice (some ⟨b3,o3,none⟩) [ta,tb].length c) rfl rfl rfl rfl hs rfl ?_;go_frame;refine z7 161 (.pointer (some ⟨b3,o3+3,none⟩)) rfl rfl rfl hs (fun z G=>by go_simp) ?_;go_frame;refine z7 162 (.agg ⟨[.int .i64 x1,X1,Y1]⟩) rfl rfl rfl hs (fun z G=>zp 36 rfl (b3) (o3+3) ([.int .i64 x1,X1,Y1]) _ rfl (i2.o z G.1) Tryz.underlying36 rfl (by rw[i1.o];kernel_rfl)) ?_;go_frame;refine z4X (some 163) 226 Tryz.func226 (by kernel_rfl) (by kernel_rfl) [.int .i64 k,.agg ⟨[.int .i64 x0,X0,Y0]⟩,.agg ⟨[.int .i64 x1,X1,Y1]⟩] _ _ _ rfl rfl rfl (by exact wA rfl) rfl ?_;refine(o6.o _ hs.1).mono ?_;rintro e u6 (⟨tn,cn,d3,rfl,b2,c6⟩|⟨m,n,d3,hn,rfl,c6⟩);case inr=>exact .inr ⟨_,rfl,rfl,TQ.no d3 hn ((C.o _ N.o).drew.trans (c6.mono (C.o _ N.o).size))⟩
   have HF:=I d3;clear d3;have f3:=I b2;have c8:=I (zl b2.typ).1;have f0:=I (zl b2.typ).2;have a3:Hid (Below W.heap.size W u6):=I ((N.o.trans ((Below.refl _ _).drew.mono N.o.size)).trans (c6.mono (Nat.le_trans N.o.size (Nat.le_refl _))));clear b2 c6;refine .inl ⟨_,rfl,⟨C.o _ a3.o,e5.o _ a3.o⟩,?_⟩;go_frame;refine z1Z none 36 _ _ _ rfl rfl rfl (by exact wA rfl) (w.heap.size+1) zT3 cn (f1.o _ a3.o) (by rw[c8.o];rfl) rfl rfl (by rw[c8.o];kernel_rfl) f0.o ?_;intro wf h6 b9;have f7:Hid (Below w.heap.size w wf):=I ((C.o _ a3.o).trans (b9.below (C.o _ a3.o).size (by omega) (by omega)));have b1:=I h6;have k8:Hid (wf.cell? ⟨w.heap.size,0,none⟩= some (.pointer (some ⟨b,o,none⟩))):=I ((World.cell?_of_block (a:=⟨w.heap.size,0,none⟩) (b9.block w.heap.size (Nat.lt_of_lt_of_le j3.o.lt a3.o.size) (by omega) (by omega))).trans (e5.o _ a3.o));have k3:Hid (KeptT (fun b=>p b\/w.heap.size<=b) wf cn tn):=I (f3.o.to (fun b h1 h2=>⟨h1.imp id fun h=>Nat.le_trans (C.o _ N.o).size h,b9.block b h2 (fun e=>by
    rcases h1 with h|h
    ·have:=K.o.lo b h;omega
    ·have h3:=g3.o;have h4:=N.o.size;have h5:W.heap.size<=b:=h;omega) (fun e=>by
    rcases h1 with h|h
    ·have:=K.o.lo b h;omega
    ·have h3:=g3.o;have h4:=N.o.size;have h5:W.heap.size<=b:=h;omega)⟩) b9.size)
   clear h6 b9;refine⟨⟨f7.o,k8.o⟩,?_⟩;go_frame;refine zD ?_;go_wp2
   (try simp only[Exit.inBlock,Exit.then])
   refine bodyPost_ret (zO rfl _ _ (w.heap.size+1) (cn) c8.o rfl b1.o) rfl ?_;exact TQ.ok HF.o k3.o f7.o
  ·obtain⟨A,c,rfl,h2⟩:=K.o.row.inv
   obtain⟨b3,o3,rfl,a2,hc⟩:=h2 (by simp);have l8:=I a2;obtain⟨n0,d2,a5,O⟩:=hc 0 ta rfl;obtain⟨x0,b5⟩:∃ x,kT ta= x:=⟨_,rfl⟩;obtain⟨X0,Y0,rfl,d0,d1⟩:=O.form b5;have a6:w.rangeAt b3 (o3) [.int .i64 x0,X0,Y0]:=by simpa using a5
   have d9:Hid (([.int .i64 x0,X0,Y0]:List Value).length= 3):=I rfl;have g0:=I O;have d8:=I b5;have a0:=I (And.intro d0 d1);have m9:=I (zl O.typ).2;have b0:=I (fun z (G:Below w.heap.size w z)=>zb a6 G a2);clear d2 a5 O a6 d0 d1 b5;obtain⟨t0,g9,d6,a4⟩:=hc 1 tb rfl;obtain⟨x1,e6⟩:∃ x,kT tb= x:=⟨_,rfl⟩;obtain⟨X1,Y1,rfl,g6,g7⟩:=a4.form e6;have d7:w.rangeAt b3 (o3+3) [.int .i64 x1,X1,Y1]:=by simpa using d6
   have i1:Hid (([.int .i64 x1,X1,Y1]:List Value).length= 3):=I rfl;have m4:=I a4;have m0:=I e6;have d4:=I (And.intro g6 g7);have r8:=I (zl a4.typ).2;have i2:=I (fun z (G:Below w.heap.size w z)=>zb d7 G a2);clear g9 d6 a4 d7 g6 g7 e6;clear hc h2 a2;have i4:Hid (ownT E 19 s v ns [ta,tb]= if kT ta= 5/\kT tb= 2/\kT (item0 ta)≠7 then(Except.ok (item0 ta):Except Int TT) else Except.error 6):=I rfl;by_cases k5:x0= 5
   ·subst k5
    by_cases k2:x1= 2
    ·subst k2
     obtain⟨a,ha⟩:=(K.o.oks ta (by simp)).2.2 d8.o;cases ta with
     |mk k0 na ia=>
     obtain rfl:ia=[a]:=ha;obtain rfl:k0= 5:=d8.o;obtain⟨NA,nc,A4,c4,e4,_,_,_,h3⟩:=g0.o.inv;simp only[List.cons.injEq,and_true,true_and] at e4;obtain⟨rfl,rfl⟩:=e4;obtain⟨b4,o4,rfl,n1,l2⟩:=h3 (by simp);obtain⟨ca,C3,v3,n2⟩:=l2 0 a rfl;have o2:w.rangeAt b4 o4 ca:=by simpa using v3
     obtain⟨xa,r2⟩:∃ x,kT a= x:=⟨_,rfl⟩;obtain⟨XA,YA,rfl,t5,t7⟩:=n2.form r2;have j1:=I (fun z (G:Below w.heap.size w z)=>zb o2 G n1);have i5:=I (And.intro t5 t7);have x7:=I n2;have s7:=I r2;have n8:Hid (([.int .i64 5,.slice NA na.length nc,.slice (some ⟨b4,o4,none⟩) [a].length c4]:List Value).length= 3):=I rfl;have k4:Hid (([.int .i64 xa,XA,YA]:List Value).length= 3):=I rfl;have c9:Hid (W.rangeAt b3 o3 [.int .i64 5,.slice NA na.length nc,.slice (some ⟨b4,o4,none⟩) [a].length c4]):=I (b0.o W a9.o);have y8:=I (zl n2.typ).2;clear h3 l2 v3 o2 C3 n2 t5 t7 r2 n1;by_cases k7:xa= 7
     ·subst k7
      have HF:Hid (ownT E 19 s v ns [.mk 5 na [a],tb]= .error 6):=I (by rw[i4.o];exact if_neg fun h=>h.2.2 s7.o);go_wp2_with (first|((with_reducible refine za tyK36 _ rfl ?_ c9.o rfl n8.o ?_);exact wA rfl)|((with_reducible refine za tyK36 _ rfl ?_ k9.o rfl i1.o ?_);exact wA rfl)|((with_reducible refine za tyK36 _ rfl ?_ p3.o rfl k4.o ?_);exact wA rfl)|(go_at_call 224;refine(tone1 5 5 _ _ W a0.o.1 a0.o.2).k42 ?_;intro z0 b6;have f5:=I b6.o;have k9:=I (i2.o z0 (C.o z0 f5.o)))|(go_at_call 224;refine(tone1 2 2 X1 Y1 z0 d4.o.1 d4.o.2).k42 ?_;intro z1 f9;have i3:=I (beT f5.o f9.o);have B8:z1.cell? ⟨b3,o3+2,none⟩= some (.slice (some ⟨b4,o4,none⟩) [a].length c4):=b0.o z1 (C.o z1 i3.o) 2 _ rfl;have p3:=I (j1.o z1 (C.o z1 i3.o)))|(go_at_call 224;refine(tone1 7 7 XA YA z1 i5.o.1 i5.o.2).k42 ?_;intro z2 j7;have f2:=I (beT i3.o j7.o);have B7:z2.cell? ⟨b3,o3+2,none⟩= some (.slice (some ⟨b4,o4,none⟩) [a].length c4):=b0.o z2 (C.o z2 f2.o) 2 _ rfl;have s0:=I (j1.o z2 (C.o z2 f2.o));have g4:=I (f1.o z2 f2.o);have c7:=I (C.o z2 f2.o))|(go_at_call 176;refine(z08 6 _).e42 ?_));exact⟨rfl,TQ.no HF.o (by decide) (C.o _ f2.o)⟩
     ·have q7:(xa ==7)= false:=by rw[beq_eq_false_iff_ne];exact k7
      have HF:Hid (ownT E 19 s v ns [.mk 5 na [a],tb]= .ok a):=I (by rw[i4.o];exact if_pos ⟨d8.o,m0.o,fun h=>k7 (s7.o.symm.trans h)⟩);go_wp2_with (first|((with_reducible refine za tyK36 _ rfl ?_ c9.o rfl n8.o ?_);exact wA rfl)|((with_reducible refine za tyK36 _ rfl ?_ k9.o rfl i1.o ?_);exact wA rfl)|((with_reducible refine za tyK36 _ rfl ?_ p3.o rfl k4.o ?_);exact wA rfl)|((with_reducible refine za tyK36 _ rfl ?_ s0.o rfl k4.o ?_);exact wA rfl)|(go_at_call 224;refine(tone1 5 5 _ _ W a0.o.1 a0.o.2).k42 ?_;intro z0 b6;have f5:=I b6.o;have k9:=I (i2.o z0 (C.o z0 f5.o)))|(go_at_call 224;refine(tone1 2 2 X1 Y1 z0 d4.o.1 d4.o.2).k42 ?_;intro z1 f9;have i3:=I (beT f5.o f9.o);have B8:z1.cell? ⟨b3,o3+2,none⟩= some (.slice (some ⟨b4,o4,none⟩) [a].length c4):=b0.o z1 (C.o z1 i3.o) 2 _ rfl;have p3:=I (j1.o z1 (C.o z1 i3.o)))|(go_at_call 224;refine(tone1 xa 7 XA YA z1 i5.o.1 i5.o.2).k42 ?_;intro z2 j7;have f2:=I (beT i3.o j7.o);have B7:z2.cell? ⟨b3,o3+2,none⟩= some (.slice (some ⟨b4,o4,none⟩) [a].length c4):=b0.o z2 (C.o z2 f2.o) 2 _ rfl;have s0:=I (j1.o z2 (C.o z2 f2.o));have g4:=I (f1.o z2 f2.o);have c7:=I (C.o z2 f2.o))|(go_at_call 176;refine(z0u 6 _).e42 ?_)|((with_reducible refine zi 36 _ _ rfl rfl ?_ g4.o ([.int .i64 xa,XA,YA]) ?_ ?_ ?_ ?_ ?_ ?_);exact wA rfl;rfl;rfl;rfl;kernel_rfl;exact y8.o;intro Z b1 a1))
      (try simp only[Exit.inBlock,Exit.then])
      refine bodyPost_ret (zO rfl _ _ (w.heap.size+1) ([.int .i64 xa,XA,YA]) rfl rfl b1.o) rfl ?_;exact TQ.ok HF.o (x7.o.to (fun b hb hl=>⟨.inl hb,(a1.o.block b (Nat.lt_of_lt_of_le hl c7.o.size) (by have:=K.o.lo b hb;omega) (by have:=K.o.lo b hb;omega)).trans (c7.o.block b hl)⟩) (Nat.le_trans c7.o.size a1.o.size)) (c7.o.trans (a1.o.below c7.o.size (by omega) (by omega)))
    ·have q2:(x1 ==2)= false:=by rw[beq_eq_false_iff_ne];exact k2
     have HF:Hid (ownT E 19 s v ns [ta,tb]= .error 6):=I (by rw[i4.o];exact if_neg fun h=>k2 (m0.o.symm.trans h.2.1));have c9:Hid (W.rangeAt b3 o3 [.int .i64 5,X0,Y0]):=I (b0.o W a9.o);go_wp2_with (first|((with_reducible refine za tyK36 _ rfl ?_ c9.o rfl d9.o ?_);exact wA rfl)|((with_reducible refine za tyK36 _ rfl ?_ k9.o rfl i1.o ?_);exact wA rfl)|(go_at_call 224;refine(tone1 5 5 X0 Y0 W a0.o.1 a0.o.2).k42 ?_;intro z0 b6;have f5:=I b6.o;have k9:=I (i2.o z0 (C.o z0 f5.o)))|(go_at_call 224;refine(tone1 x1 2 X1 Y1 z0 d4.o.1 d4.o.2).k42 ?_;intro z1 f9)|(go_at_call 176;refine(z08 6 _).e42 ?_));exact⟨rfl,TQ.no HF.o (by decide) ((C.o _ f5.o).trans (f9.o.mono (C.o _ f5.o).size))⟩
   ·have q5:(x0 ==5)= false:=by rw[beq_eq_false_iff_ne];exact k5
    have HF:Hid (ownT E 19 s v ns [ta,tb]= .error 6):=I (by rw[i4.o];exact if_neg fun h=>k5 (d8.o.symm.trans h.1));have c9:Hid (W.rangeAt b3 o3 [.int .i64 x0,X0,Y0]):=I (b0.o W a9.o);go_wp2_with (first|((with_reducible refine za tyK36 _ rfl ?_ c9.o rfl d9.o ?_);exact wA rfl)|(go_at_call 224;refine(tone1 x0 5 X0 Y0 W a0.o.1 a0.o.2).k42 ?_;intro z0 b6)|(go_at_call 176;refine(z08 6 _).e42 ?_));exact⟨rfl,TQ.no HF.o (by decide) (C.o _ b6.o)⟩
 ·obtain⟨ta,tb,tc,rfl⟩:=len3 hn
  clear hn;obtain⟨A,c,rfl,h2⟩:=K.o.row.inv;obtain⟨b3,o3,rfl,a2,hc⟩:=h2 (by simp);have l8:=I a2;obtain⟨n0,d2,a5,O⟩:=hc 0 ta rfl;obtain⟨x0,b5⟩:∃ x,kT ta= x:=⟨_,rfl⟩;obtain⟨X0,Y0,rfl,d0,d1⟩:=O.form b5;have a6:w.rangeAt b3 (o3) [.int .i64 x0,X0,Y0]:=by simpa using a5
  have d9:Hid (([.int .i64 x0,X0,Y0]:List Value).length= 3):=I rfl;have g0:=I O;have d8:=I b5;have a0:=I (And.intro d0 d1);have m9:=I (zl O.typ).2;have b0:=I (fun z (G:Below w.heap.size w z)=>zb a6 G a2);clear d2 a5 O a6 d0 d1 b5;obtain⟨t0,g9,d6,a4⟩:=hc 1 tb rfl;obtain⟨x1,e6⟩:∃ x,kT tb= x:=⟨_,rfl⟩;obtain⟨X1,Y1,rfl,g6,g7⟩:=a4.form e6;have d7:w.rangeAt b3 (o3+3) [.int .i64 x1,X1,Y1]:=by simpa using d6
  have i1:Hid (([.int .i64 x1,X1,Y1]:List Value).length= 3):=I rfl;have m4:=I a4;have m0:=I e6;have d4:=I (And.intro g6 g7);have r8:=I (zl a4.typ).2;have i2:=I (fun z (G:Below w.heap.size w z)=>zb d7 G a2);clear g9 d6 a4 d7 g6 g7 e6;obtain⟨E6,u5,o0,i8⟩:=hc 2 tc rfl;obtain⟨x2,r1⟩:∃ x,kT tc= x:=⟨_,rfl⟩;obtain⟨X2,Y2,rfl,t4,t6⟩:=i8.form r1;have o1:w.rangeAt b3 (o3+6) [.int .i64 x2,X2,Y2]:=by simpa using o0
  have y2:Hid (([.int .i64 x2,X2,Y2]:List Value).length= 3):=I rfl;have x6:=I i8;have E3:=I r1;have D4:=I (And.intro t4 t6);have E4:=I (zl i8.typ).2;have A3:=I (fun z (G:Below w.heap.size w z)=>zb o1 G a2);clear u5 o0 i8 o1 t4 t6 r1;clear hc h2 a2;have j8:Hid (ownT E 15 s v ns [ta,tb,tc]= match joinT tb tc with|some t=>if kT ta= 1 then Except.ok t else Except.error 6|none=>(Except.error 6:Except Int TT)):=I rfl;by_cases k1:x0= 1
  ·subst k1
   have o8:Hid (joinT tb tc= none->ownT E 15 s v ns [ta,tb,tc]= .error 6):=I fun h=>by rw[j8.o,h]
   have x5:Hid (∀ t,joinT tb tc= some t->ownT E 15 s v ns [ta,tb,tc]= .ok t):=I fun t h=>by rw[j8.o,h];exact if_pos d8.o
   have m3:Hid (∀ z,Below w.heap.size w z->Calls Tryz.prog 179 #[.agg ⟨[.int .i64 x1,X1,Y1]⟩,.agg ⟨[.int .i64 x2,X2,Y2]⟩] z (JPost p (joinT tb tc) z)):=I fun z G=>z3h tb tc (K.o.oks tb (by simp)).1 (K.o.oks tc (by simp)).1 (j2.o tb (by simp)) (j2.o tc (by simp)) p [.int .i64 x1,X1,Y1] [.int .i64 x2,X2,Y2] z (fun b hb=>Nat.lt_of_lt_of_le (K.o.lo b hb) G.size) (m4.o.next G) (x6.o.next G);have c9:Hid (W.rangeAt b3 o3 [.int .i64 1,X0,Y0]):=I (b0.o W a9.o);go_upto_region 10 with (first|((with_reducible refine za tyK36 _ rfl ?_ c9.o rfl d9.o ?_);exact wA rfl)|(go_at_call 224;refine(tone1 1 1 X0 Y0 W a0.o.1 a0.o.2).k42 ?_;intro z0 N)|(go_at_call 176;refine(z0u 6 _).e42 ?_));clear e0 e1;have hs:Below w.heap.size w z0.drew/\z0.drew.cell? ⟨w.heap.size,0,none⟩= some (.pointer (some ⟨b,o,none⟩)):=⟨(C.o _ N.o).drew,e5.o _ N.o.drew⟩;refine zo [(0,true),(1,true),(2,true),(3,true),(4,true),(5,true),(6,false),(7,false)] (fun z=>Below w.heap.size w z/\z.cell? ⟨w.heap.size,0,none⟩= some (.pointer (some ⟨b,o,none⟩))) (by kernel_rfl) (by intro c a d v w h;cases d<;>exact h) ?_;refine zf 51 (.slice (some ⟨b3,o3,none⟩) [ta,tb,tc].length c) rfl rfl rfl rfl hs rfl ?_;go_frame;refine z7 52 (.pointer (some ⟨b3,o3+3,none⟩)) rfl rfl rfl hs (fun z G=>by go_simp) ?_;go_frame;refine z7 53 (.agg ⟨[.int .i64 x1,X1,Y1]⟩) rfl rfl rfl hs (fun z G=>zp 36 rfl (b3) (o3+3) ([.int .i64 x1,X1,Y1]) _ rfl (i2.o z G.1) Tryz.underlying36 rfl (by rw[i1.o];kernel_rfl)) ?_;go_frame;refine zf 54 (.slice (some ⟨b3,o3,none⟩) [ta,tb,tc].length c) rfl rfl rfl rfl hs rfl ?_;go_frame;refine z7 55 (.pointer (some ⟨b3,o3+6,none⟩)) rfl rfl rfl hs (fun z G=>by go_simp) ?_;go_frame;refine z7 56 (.agg ⟨[.int .i64 x2,X2,Y2]⟩) rfl rfl rfl hs (fun z G=>zp 36 rfl (b3) (o3+6) ([.int .i64 x2,X2,Y2]) _ rfl (A3.o z G.1) Tryz.underlying36 rfl (by rw[y2.o];kernel_rfl)) ?_;go_frame;refine z4X (some 57) 179 Tryz.func179 (by kernel_rfl) (by kernel_rfl) [.agg ⟨[.int .i64 x1,X1,Y1]⟩,.agg ⟨[.int .i64 x2,X2,Y2]⟩] _ _ _ rfl rfl rfl (by exact wA rfl) rfl ?_;refine(m3.o _ hs.1).mono ?_;rintro e u6 (⟨tn,cn,d3,rfl,b2,c6⟩|⟨d3,rfl,c6⟩);case inr=>
    have HF:=o8.o d3;refine .inr ⟨_,rfl,rfl,TQ.no HF (by decide) ((C.o _ N.o).drew.trans (c6.mono (C.o _ N.o).size))⟩
   have HF:=I (x5.o tn d3);clear d3;have f3:=I b2;have c8:=I (zl b2.typ).1;have f0:=I (zl b2.typ).2;have a3:Hid (Below W.heap.size W u6):=I ((N.o.trans ((Below.refl _ _).drew.mono N.o.size)).trans (c6.mono (Nat.le_trans N.o.size (Nat.le_refl _))));clear b2 c6;refine .inl ⟨_,rfl,⟨C.o _ a3.o,e5.o _ a3.o⟩,?_⟩;go_frame;refine z1Z none 36 _ _ _ rfl rfl rfl (by exact wA rfl) (w.heap.size+1) zT3 cn (f1.o _ a3.o) (by rw[c8.o];rfl) rfl rfl (by rw[c8.o];kernel_rfl) f0.o ?_;intro wf h6 b9;have f7:Hid (Below w.heap.size w wf):=I ((C.o _ a3.o).trans (b9.below (C.o _ a3.o).size (by omega) (by omega)));have b1:=I h6;have k8:Hid (wf.cell? ⟨w.heap.size,0,none⟩= some (.pointer (some ⟨b,o,none⟩))):=I ((World.cell?_of_block (a:=⟨w.heap.size,0,none⟩) (b9.block w.heap.size (Nat.lt_of_lt_of_le j3.o.lt a3.o.size) (by omega) (by omega))).trans (e5.o _ a3.o));have k3:Hid (KeptT (fun b=>p b\/w.heap.size<=b) wf cn tn):=I (f3.o.to (fun b h1 h2=>⟨h1.imp id fun h=>Nat.le_trans (C.o _ N.o).size h,b9.block b h2 (fun e=>by
    rcases h1 with h|h
    ·have:=K.o.lo b h;omega
    ·have h3:=g3.o;have h4:=N.o.size;have h5:z0.heap.size<=b:=h;omega) (fun e=>by
    rcases h1 with h|h
    ·have:=K.o.lo b h;omega
    ·have h3:=g3.o;have h4:=N.o.size;have h5:z0.heap.size<=b:=h;omega)⟩) b9.size)
   clear h6 b9;refine⟨⟨f7.o,k8.o⟩,?_⟩;go_frame;refine zD ?_;go_wp2
   (try simp only[Exit.inBlock,Exit.then])
   refine bodyPost_ret (zO rfl _ _ (w.heap.size+1) (cn) c8.o rfl b1.o) rfl ?_;exact TQ.ok HF.o k3.o f7.o
  ·have q1:(x0 ==1)= false:=by rw[beq_eq_false_iff_ne];exact k1
   have HF:Hid (ownT E 15 s v ns [ta,tb,tc]= .error 6):=I (by
    rw[j8.o];cases joinT tb tc with
    |none=>rfl
    |some t=>exact if_neg (fun h=>k1 (d8.o.symm.trans h)))
   have c9:Hid (W.rangeAt b3 o3 [.int .i64 x0,X0,Y0]):=I (b0.o W a9.o);go_wp2_with (first|((with_reducible refine za tyK36 _ rfl ?_ c9.o rfl d9.o ?_);exact wA rfl)|(go_at_call 224;refine(tone1 x0 1 X0 Y0 W a0.o.1 a0.o.2).k42 ?_;intro z0 b6)|(go_at_call 176;refine(z08 6 _).e42 ?_));exact⟨rfl,TQ.no HF.o (by decide) (C.o _ b6.o)⟩
 ·rcases hk with rfl|rfl
  ·obtain⟨A,c,rfl,h2⟩:=K.o.row.inv
   have F8:l.length<=1000:=K.o.llen;have p0:=I h2;clear h2;obtain⟨jt,hi,v6,v7,C5⟩:=zX z25;have A9:=I hi;have B0:=I v6;have B1:=I v7;clear hi v6 v7 C5;go_upto_region 13 with (first|(go_at_call 222;refine(z1t 7 (zH 7 (by decide +kernel)) _).k42 ?_;intro Y HY)|((with_reducible refine z0W 36 _ _ rfl rfl ?_ (Y.heap.size) zT3 (tyC 7 (.slice none 0 0) (.slice none 0 0)) ?_ ?_ ?_ ?_ ?_ ?_ ?_);(exact wA rfl);exact Whole.new Y zT3 36;rfl;rfl;rfl;kernel_rfl;exact zM _ _ _ _ _ _ _;intro X G hb;have s4:=I G;have B4:=I hb;clear G hb));clear e0 e1;have B5:Hid (Below Y.heap.size Y X):=I ((zc Y (.cells zT3.toArray 36)).trans (B4.o.below (zc Y (.cells zT3.toArray 36)).size (Nat.le_refl _) (Nat.le_refl _)));obtain⟨q,hq⟩:∃ q,Y.heap.size= q:=⟨_,rfl⟩;have HQ:=I hq;rw[hq] at s4;rw[hq];clear hq;go_wp2;go_loopg [63] l.length (fun g i u=>∃ (j:Nat) (cs:List Value) (t:TT),j+g= l.length/\i= .int .i64 j/\Whole 36 u q cs/\cs.length= 3/\(∀ x∈cs,x.oneCell'= true)/\KeptT (fun b=>(p b\/Y.heap.size<=b)/\b≠q) u cs t/\foldT (pT 7) (l.take j)= some t/\stT t= true/\Below Y.heap.size Y u);case atStart=>exact⟨0,_,pT 7,by omega,rfl,s4.o,rfl,zM _ _ _ _ _ _ _,z0I (zH 7 (by decide +kernel)),by rw[List.take_zero,foldT],rfl,B5.o⟩
   case round=>
    obtain⟨j,cs,t,hj,rfl,hw,hl,ho,hk,hf,o5,hb⟩:=hrel;have p5:=I hw;have i0:=I hl;have E2:=I ho;have r7:=I hk;have m1:=I hf;have n9:=I o5;have l0:=I hb;clear hw hl ho hk hf hb o5;obtain⟨V,hV⟩:∃ z,z= wr:=⟨_,rfl⟩;subst hV;have s3:Hid (Below W.heap.size W V):=I (beT HY.o l0.o);have h8:Hid (Below w.heap.size w V):=I (C.o V s3.o);have p2:Hid (Whole 36 V (w.heap.size+1) zT3):=I (f1.o V s3.o);cases gk with
    |zero=>
     obtain rfl:j= l.length:=by omega
     have F2: ¬ ((l.length:Int) <(l.length:Int)):=by omega
     have o7:Hid (foldT (pT 7) l= some t):=I (by have h:=m1.o;rwa [List.take_length] at h);have HF:Hid (ownT E 16 s v ns l= .ok (.mk 5 [] [t])):=I (by show(match foldT (pT 7) l with|some t=>Except.ok (TT.mk 5 [] [t])|none=>(Except.error 6:Except Int TT))= _;rw[o7.o]);have i9:=I (zc V (.cells ⟨cs⟩ 36));have A5:Hid (Whole 36 (V.alloc (.cells ⟨cs⟩ 36)) (w.heap.size+1) zT3):=I (p2.o.keep (i9.o.block _ p2.o.lt));have s2:Hid (Whole 36 (V.alloc (.cells ⟨cs⟩ 36)) V.heap.size cs):=I (Whole.new V cs 36);have m6:Hid (w.heap.size+1 < V.heap.size):=I p2.o.lt;have o9:Hid (w.heap.size+1 < Y.heap.size/\w.heap.size<=V.heap.size):=I ⟨Nat.lt_of_lt_of_le g3.o HY.o.size,h8.o.size⟩;go_wp2_with (first|((with_reducible refine za tyK36 _ rfl ?_ p5.o.range rfl i0.o ?_);exact wA rfl)|((with_reducible refine z0z 34 _ rfl ?_ 36 jt _ cs ?_ Tryz.underlying34 A9.o B0.o ?_ ?_ ?_ ?_);(exact wA rfl);rfl;rw[i0.o];exact B1.o;rw[i0.o];decide;rw[i0.o];decide)|((with_reducible refine zi 36 _ _ rfl rfl ?_ A5.o (tyC 5 (.slice none 0 0) (.slice (some ⟨V.heap.size,0,none⟩) 1 1)) ?_ ?_ ?_ ?_ ?_ ?_);exact wA rfl;rfl;rfl;rfl;kernel_rfl;exact(zM _ _ _ _ _ _ _);intro Z b1 a1))
     (try simp only[Exit.inBlock,Exit.then])
     refine bodyPost_ret (zO rfl _ _ (w.heap.size+1) (tyC 5 (.slice none 0 0) (.slice (some ⟨V.heap.size,0,none⟩) 1 1)) rfl rfl b1.o) rfl ?_;refine TQ.ok HF.o ?_ ((beT h8.o i9.o).trans (a1.o.below (Nat.le_trans h8.o.size i9.o.size) (by omega) (by omega)));refine zcv (q:=fun b=>p b\/w.heap.size<=b) (t:=t) ?_ (s2.o.keep (a1.o.block _ s2.o.lt (by have:=m6.o;omega) (by have:=m6.o;omega))) (.inr o9.o.2);refine r7.o.to (fun b h1 h2=>⟨h1.1.imp id fun h=>by have:=o9.o;omega,?_⟩) (Nat.le_trans i9.o.size a1.o.size);have f6:b≠w.heap.size+1:=fun e=>by
      have:=o9.o;rcases h1.1 with h|h
      ·have:=K.o.lo b h;omega
      ·omega
     exact(a1.o.block b (Nat.lt_of_lt_of_le h2 i9.o.size) f6 f6).trans (i9.o.block b h2)
    |succ g=>
     have F9:(j:Int) <(l.length:Int):=by omega
     have C6:j < l.length:=by omega
     obtain⟨x,hx⟩:∃ x,l[j]?= some x:=⟨_,List.getElem?_eq_getElem C6⟩;obtain⟨b3,o3,rfl,a2,hc⟩:=p0.o (by omega);obtain⟨kx,v1,v4,q4⟩:=hc j x hx;have HX:=I hx;have m8:=I v1;have A0:=I (zl q4.typ).2;have y1:=I q4;have A6:=I (zb v4 h8.o a2);clear hx v1 v4 q4 hc a2;go_upto_region 16 with (first|((with_reducible refine za tyK36 _ rfl ?_ A6.o rfl m8.o ?_);exact wA rfl)|((with_reducible refine zN tyK36 _ _ rfl ?_ V m8.o A0.o rfl ?_ ?_ ?_ ?_);exact wA rfl;rfl;rfl;rfl;intro Z1 p7));have f4:Hid (Below V.heap.size V Z1):=I p7.o.below;have g5:=I (p5.o.keep (f4.o.block _ p5.o.lt));obtain⟨pp,n4⟩:∃ pp:Nat->Prop,pp= fun b=>((p b\/Y.heap.size<=b)/\b≠q)/\b < Z1.heap.size:=⟨_,rfl⟩;have p1:Hid (∀ b,pp b->((p b\/Y.heap.size<=b)/\b≠q)/\b < Z1.heap.size):=I fun b hb=>by rw[n4] at hb;exact hb
     have u1:KeptT pp Z1 cs t:=r7.o.to (fun b h1 h2=>⟨by rw[n4];exact⟨h1,Nat.lt_of_lt_of_le h2 f4.o.size⟩,f4.o.block b h2⟩) f4.o.size;have u2:KeptT pp Z1 kx x:=(y1.o.next (beT h8.o f4.o)).to (fun b h1 h2=>⟨by rw[n4];exact⟨⟨.inl h1,fun e=>by have:=K.o.lo b h1;have:=(C.o Y HY.o).size;have:=HQ.o;omega⟩,h2⟩,rfl⟩) (Nat.le_refl _);have l3:jok t= true:=z7r (l:=l.take j) (t:=pT 7) rfl (fun y hy=>(K.o.oks y (List.mem_of_mem_take hy)).1) m1.o;have m3:Hid (Calls Tryz.prog 179 #[.agg ⟨cs⟩,.agg ⟨kx⟩] Z1 (JPost pp (joinT t x) Z1)):=I (z3h t x l3 (K.o.oks x (List.mem_of_getElem? HX.o)).1 n9.o (j2.o x (List.mem_of_getElem? HX.o)) pp cs kx Z1 (fun b hb=>(p1.o b hb).2) u1 u2);clear u1 u2 l3 n4;cases hj:joinT t x with
     |none=>
      have o7:Hid (foldT (pT 7) l= none):=I (by
       have h:=z3H m1.o HX.o;rw[hj] at h;exact z5Y h)
      have HF:Hid (ownT E 16 s v ns l= .error 6):=I (by show(match foldT (pT 7) l with|some t=>Except.ok (TT.mk 5 [] [t])|none=>(Except.error 6:Except Int TT))= _;rw[o7.o]);go_wp2_with (first|((with_reducible refine za tyK36 _ rfl ?_ g5.o.range rfl i0.o ?_);exact wA rfl)|((with_reducible refine za tyK36 _ rfl ?_ p7.o.range rfl m8.o ?_);exact wA rfl)|(go_at_call 179;refine m3.o.mono ?_;rintro e z he;obtain⟨rfl,hb⟩:=he.no hj;have l9:=I hb;clear hb he));exact⟨rfl,TQ.no HF.o (by decide) (h8.o.trans ((beT f4.o l9.o).mono h8.o.size))⟩
     |some tn=>
      have o8:Hid (foldT (pT 7) (l.take (j+1))= some tn):=I (by rw[z3H m1.o HX.o,hj]);have A8:Hid (stT tn= true):=I (zg1 t x tn n9.o (j2.o x (List.mem_of_getElem? HX.o)) hj);go_wp2_with (first|((with_reducible refine za tyK36 _ rfl ?_ g5.o.range rfl i0.o ?_);exact wA rfl)|((with_reducible refine za tyK36 _ rfl ?_ p7.o.range rfl m8.o ?_);exact wA rfl)|(go_at_call 179;refine m3.o.mono ?_;rintro e z he;obtain⟨cn,rfl,b2,hb⟩:=he.yes hj;have l9:=I hb;have f3:=I b2;have c8:=I (zl b2.typ).1;have f0:=I (zl b2.typ).2;have s5:=I (g5.o.keep (hb.block _ g5.o.lt));clear hb he b2)|((with_reducible refine z0W 36 _ _ rfl rfl ?_ (q) (cs) (cn) s5.o ?_ ?_ ?_ ?_ ?_ ?_);(exact wA rfl);rw[c8.o,i0.o];rfl;rfl;rw[c8.o];kernel_rfl;exact f0.o;intro Z G hb;have b1:=I G;have a1:=I hb;clear G hb));have A2:Hid (q < Z1.heap.size):=I g5.o.lt;go_roundg g;case measure=>omega
      case rel=>
       refine⟨j+1,cn,tn,by omega,by go_num,b1.o,c8.o,f0.o,?_,o8.o,A8.o,(l0.o.trans ((beT f4.o l9.o).mono l0.o.size)).trans (a1.o.below (Nat.le_trans l0.o.size (Nat.le_trans f4.o.size l9.o.size)) (Nat.le_of_eq HQ.o) (Nat.le_of_eq HQ.o))⟩;refine f3.o.to (fun b h1 h2=> ?_) a1.o.size;have f6:b≠q:=by
        rcases h1 with h|h
        ·exact(p1.o b h).1.2
        ·have:=A2.o;omega
       refine⟨⟨?_,f6⟩,a1.o.block b h2 f6 f6⟩;rcases h1 with h|h
       ·exact(p1.o b h).1.1
       ·exact .inr (Nat.le_trans (Nat.le_trans l0.o.size f4.o.size) h)
  ·obtain⟨vn,v2,q8⟩:∃ vn,ce[8]?= some vn/\SlAt (only w p) w.heap.size 1 StrR vn ns:=HC.o.2.2.2.2.2
   obtain⟨A,c,rfl,_⟩:=K.o.row.inv;obtain⟨_,NA,nc,rfl,_⟩:=id q8;have y7:=I q8;have e8:W.cell? ⟨b,o+8,none⟩= some (.slice NA ns.length nc):=h9.o W a9.o 8 _ v2;have y5:Hid (ns.length<=1000):=I (y6.o rfl);have HF:Hid (ownT E 17 s v ns l= .ok (.mk 6 ns l)):=I rfl;have w9:=I (z1z W (.slice NA ns.length nc) ns ((SlAt.cells y7.o (fun a v hv=>(zx.1 hv).2) fun _ _ _ h=>h).below a9.o (fun _ _ _ h=>h)|>.more a9.o.size) (by have h1:=y5.o;have h2:reachBytes= 140737488351232:=rfl;omega));have j1:Hid (RowA p w (.slice A l.length c) l):=I K.o.row;have m6:=I K.o.llen;clear q8 v2;go_wp2_with (first|(go_at_call 75;refine(w9.o).mono ?_;rintro e z ⟨nv,rfl,hb,hk⟩;have o6:=I hb;obtain⟨-,Av,cv,rfl, -⟩:=id hk;have f3:=I hk;have g4:=I (f1.o z hb);clear hb hk)|((with_reducible refine zi 36 _ _ rfl rfl ?_ g4.o (tyC 6 (.slice Av ns.length cv) (.slice A l.length c)) ?_ ?_ ?_ ?_ ?_ ?_);exact wA rfl;rfl;rfl;rfl;kernel_rfl;exact(zM _ _ _ _ _ _ _);intro Z b1 a1))
   (try simp only[Exit.inBlock,Exit.then])
   refine bodyPost_ret (zO rfl _ _ (w.heap.size+1) (tyC 6 (.slice Av ns.length cv) (.slice A l.length c)) rfl rfl b1.o) rfl ?_;have l1:=C.o z o6.o;have G1:=g3.o;refine TQ.ok HF.o (z2T (zH 6 (by decide +kernel)) (f3.o.to (fun b h1 h2=>⟨.inr (Nat.le_trans a9.o.size h1),a1.o.block b h2 (by omega) (by omega)⟩) a1.o.size) (Nat.le_trans m6.o (by unfold maxLen;omega)) ?_) (l1.trans (a1.o.below l1.size (by omega) (by omega)));exact j1.o.to (fun b h1 h2=>⟨.inl h1,(a1.o.block b (Nat.lt_of_lt_of_le h2 l1.size) (by have:=K.o.lo b h1;omega) (by have:=K.o.lo b h1;omega)).trans (l1.block b h2)⟩) (Nat.le_trans l1.size a1.o.size)
end
end Go.Proofs.YtpmjcbjdcjjplaaGreatDoor
