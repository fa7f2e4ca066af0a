/- Parts of a proof: VCanon, VCanon2. -/
import Derived.Test.YtpmjcbjdcjjplaaGreatDoorPackS26
import Derived.Test.YtpmjcbjdcjjplaaGreatDoorPackS28
import Derived.Test.YtpmjcbjdcjjplaaGreatDoorPackS29
set_option maxHeartbeats 8000000
set_option maxRecDepth 100000
set_option linter.unusedVariables false
set_option linter.unusedSimpArgs false
namespace Go.Proofs.YtpmjcbjdcjjplaaGreatDoor
section
open Go Go.RowKit
theorem z0m (f:Nat) (w:World):Calls Tryz.prog 78 #[.float .f64 f] w fun e w'=>e= .returned (.float .f64 (zu f))/\w'= w:=by
 have g:nanB f=(FloatKind.f64.format.order f f !=some .eq):=rfl;cases hn:nanB f with
 |true=>
  have A:zu f= 9221120237041090560:=by unfold zu;rw[if_pos hn]
  rw[A];have t1:(FloatKind.f64.format.order f f !=some .eq)= true:=g.symm.trans hn;have e1:∀ W:World,(callFunc 129 #[.int .u64 9221120237041090560]).run Tryz.prog W= .ok (.value (.float .f64 9221120237041090560)) W:=fun W=>by
   rw[run_callFunc_extern Tryz.func129 (by kernel_rfl) (by kernel_rfl) (by kernel_rfl) (e:=Extern.MathFloatBits.float64frombits) (by kernel_rfl)];rfl
  clear g hn A;go_enter Tryz.func78,Tryz.ntmps78;go_wp2;go_ret;exact⟨rfl,rfl⟩
 |false=>
  have A:zu f= f:=by unfold zu;rw[if_neg (by rw[hn];decide)]
  rw[A];have t1:(FloatKind.f64.format.order f f !=some .eq)= false:=g.symm.trans hn;clear g hn A;go_enter Tryz.func78,Tryz.ntmps78;go_wp2;go_ret;exact⟨rfl,rfl⟩
end
section
open Go Go.RowKit
theorem z6o {P:Program} {w:World} {a:Addr} {m:Mode} (k:FloatKind) (x:Nat):(store a (.float k x) m).run P w= stored P w a (.float k x) m:=run_store P w a _ m rfl
attribute [local go_sem] z6o
theorem z3Y (w:World) (p:Addr) (v:Value):(w.setCell p v).heap.size= w.heap.size:=by simp[World.setCell]
theorem z7s (b k:Nat) (hk:k≠b):∀ (cs:List Value) (w:World) (i:Nat),(w.setCells b i cs).heap[k]?= w.heap[k]?
 |[],_,_=>rfl
 |v::cs,w,i=>by
  show((w.setCell ⟨b,i,none⟩ v).setCells b (i+1) cs).heap[k]?= _
  rw[z7s b k hk cs]
  exact Below.heap_setCell w ⟨b,i,none⟩ v k hk
def L6 (a b c d e f:Value) (i:Nat):Value:=[a,b,c,d,e,f].getD i undef
structure CanSt (w W:World) (p q m:Nat) (f:Nat->Value):Prop where
 ra:RowF W p 6 f
 rb:∃ z,RowF W q 6 z
 bel:Below w.heap.size w W
 wp:w.heap.size<=p
 wq:w.heap.size<=q
 ne:p≠q
 pm:p < m
 qm:q < m
 mw:m<=W.heap.size
section
variable {w W W':World} {p q m:Nat} {f f':Nat->Value}
theorem CanSt.below (h:CanSt w W p q m f) (hb:Below W.heap.size W W'):CanSt w W' p q m f:=
 ⟨h.ra.below hb (Nat.lt_of_lt_of_le h.pm h.mw),by obtain⟨z,hz⟩:=h.rb;exact⟨z,hz.below hb (Nat.lt_of_lt_of_le h.qm h.mw)⟩,(beT h.bel hb),h.wp,h.wq,h.ne,h.pm,h.qm,Nat.le_trans h.mw hb.size⟩
theorem CanSt.put (h:CanSt w W p q m f) {i:Nat} (hi:i < 6) {v:Value} (hf:∀ j,j < 6->(if j= i then v else f j)= f' j):CanSt w (W.setCell ⟨p,i,none⟩ v) p q m f':=
 ⟨(h.ra.set hi v).congr hf,by obtain⟨z,hz⟩:=h.rb;exact⟨z,hz.keep (Below.heap_setCell W ⟨p,i,none⟩ v q h.ne.symm)⟩,z3A (vs:=[v]) h.bel h.wp i,h.wp,h.wq,h.ne,h.pm,h.qm,by rw[z3Y];exact h.mw⟩
end
theorem six {P:Nat->Prop} (h0:P 0) (h1:P 1) (h2:P 2) (h3:P 3) (h4:P 4) (h5:P 5):∀ j,j < 6->P j:=fun j hj=>by
 match j,hj with
 |0,_=>exact h0
 |1,_=>exact h1
 |2,_=>exact h2
 |3,_=>exact h3
 |4,_=>exact h4
 |5,_=>exact h5
theorem zfG {k n:Int} {f:Nat} {s:ByteArray} {a b:Option Addr} {i j l m:Nat}:∀ v∈[Value.int .i64 k,.int .i64 n,.float .f64 f,.string s,.slice a i j,.slice b l m],v.oneCell'= true:=by
 intro u hu;simp only[List.mem_cons,List.not_mem_nil,or_false] at hu;rcases hu with rfl|rfl|rfl|rfl|rfl|rfl<;>rfl
theorem zbV {f:Nat} (h:(Lit.float .f64 f).wf= true):(Lit.float .f64 (zu f)).wf= true:=by
 unfold zu;split
 ·decide
 ·exact h
def z72 (x:VT) (w:World) (e:Ending) (w':World):Prop:=∃ cs',e= .returned (.agg ⟨cs'⟩)/\Kept (fun b=>w.heap.size<=b) w' cs' (z01 x)/\Below w.heap.size w w'
theorem zbX {w W2 W3 u u':World} {m:Nat} {k n:Int} {f:Nat} {s:ByteArray} {ns:List ByteArray} {its:List VT} {vn vi:Value} {KL:List zT} (hk:wfI k) (hn:wfI n) (hf:(Lit.float .f64 f).wf= true) (hs:s.size<=maxLen) (hl:its.length<=maxLen)
  (hm:m<=W2.heap.size) (h23:W2.heap.size<=W3.heap.size) (hns:KeptS (fun b=>W2.heap.size<=b) W3 vn ns) (hI:CanInv 39 W3 u vi its its.length KL)
  (hu:∀ b,m<=b->u'.heap[b]?= u.heap[b]?) (hsz:u'.heap.size= u.heap.size) (hwm:w.heap.size<=m):
  Kept (fun b=>w.heap.size<=b) u' [.int .i64 k,.int .i64 n,.float .f64 (zu f),.string s,vn,vi] (z01 (.mk k n f s ns its)):=by
 rw[z01];have h3:=hI.bel;refine ValAt.of hk hn (zbV hf) hs (hns.to (fun b hp hb=>⟨by omega,?_⟩) ?_) (by rw[z3C];exact hl) (hI.row hl (by omega) (fun b hp hb=>hu b (by omega)) (by omega))
 ·rw[hu b (by omega)]
  exact h3.block b hb
 ·have:=h3.size
  omega
theorem z9r (w:World) (T:TypeId) (a b c d e f a' b' c' d' e' f':Value):CanSt w ((w.alloc (.cells ⟨[a,b,c,d,e,f]⟩ T)).alloc (.cells ⟨[a',b',c',d',e',f']⟩ T)) w.heap.size (w.heap.size+1) (w.heap.size+2) (L6 a b c d e f):=by
 have g:(w.alloc (.cells ⟨[a,b,c,d,e,f]⟩ T)).heap.size= w.heap.size+1:=by simp
 have h1:RowF (w.alloc (.cells ⟨[a,b,c,d,e,f]⟩ T)) w.heap.size 6 (L6 a b c d e f):=⟨six (by rw[zI];rfl) (by rw[zI];rfl) (by rw[zI];rfl) (by rw[zI];rfl) (by rw[zI];rfl) (by rw[zI];rfl),fun i _=>z3I _ _ _ _⟩;have h2:=zc w (.cells ⟨[a,b,c,d,e,f]⟩ T);generalize w.alloc (.cells ⟨[a,b,c,d,e,f]⟩ T)= W1 at*;have h3:RowF (W1.alloc (.cells ⟨[a',b',c',d',e',f']⟩ T)) W1.heap.size 6 (L6 a' b' c' d' e' f'):=⟨six (by rw[zI];rfl) (by rw[zI];rfl) (by rw[zI];rfl) (by rw[zI];rfl) (by rw[zI];rfl) (by rw[zI];rfl),fun i _=>z3I _ _ _ _⟩;have h4:=zc W1 (.cells ⟨[a',b',c',d',e',f']⟩ T);have h5:(W1.alloc (.cells ⟨[a',b',c',d',e',f']⟩ T)).heap.size= W1.heap.size+1:=by simp
 rw[g] at h3 h5;exact⟨h1.below h4 (by omega),⟨_,h3⟩,h2.trans (h4.mono (by omega)),Nat.le_refl _,by omega,by omega,by omega,by omega,by omega⟩
theorem z1Y:(Tryz.prog.info? 39).map (fun i=>(i.zero,i.size,i.bytes))= some (some (.agg #[.int .i64 0,.int .i64 0,.float .f64 0,.string ⟨#[]⟩,.slice none 0 0,.slice none 0 0]),6,88):=by kernel_rfl
theorem zX {P:Program} {e:TypeId} {z:Option Value} {s b:Nat} (h:(P.info? e).map (fun i=>(i.zero,i.size,i.bytes))= some (z,s,b)):∃ i,P.info? e= some i/\i.zero= z/\i.size= s/\i.bytes= b:=by
 cases h2:P.info? e with
 |none=>rw[h2] at h;cases h
 |some i=>
  rw[h2] at h;injection h with h;injection h with h3 h4;injection h4 with h4 h5;exact⟨i,rfl,h3,h4,h5⟩
theorem z2a {α:Type} {P:Program} {ops:Array Oper} {rest:List Oper} {o:Oper} {a:Act} {w:World} {Q:Exit->Act->World->Prop} (hgd:o.guard= none) (s x:Operand) (t:TypeId) (ho:o.op= .call { callee:= .builtin .append,args:= #[s,x],argTypes:= #[t,t] })
  (base:Nat) (e:TypeId) (i:TypeInfo) (z:Value) (k bytes:Nat) (enc:α->List Value) (ht:P.underlying t= some (.slice e)) (hi:P.info? e= some i) (hz:i.zero= some z)
  (hsize:i.size= k) (hby:i.bytes= bytes) (hzs:z.cells.size= k) (hsz:0 < k) (hk:∀ x,(enc x).length= k)
  (v:Value) (l:List α) (hs:a.eval s= v) (hown:OwnSl e k enc w base v l) (nb c:Nat) (y:α) (h1:∀ u∈enc y,u.oneCell'= true) (hx:a.eval x= .slice (some ⟨nb,0,none⟩) 1 c)
  (hc:∀ j u,(enc y)[j]?= some u->w.cell? ⟨nb,j,none⟩= some u) (h63:l.length+1<=maxLen) (hbytes:(l.length+1) *bytes<=140737488355328) (hbase:base<=w.heap.size)
  (h:∀ v' w',OwnSl e k enc w' base v' (l ++ [y])->w.grownBy w' v.ownBlock->(v'.ownBlock= v.ownBlock\/v'.ownBlock= some w.heap.size)->wpList P ops Q rest (a.put o.dst v') w'):wpList P ops Q (o::rest) a w:=by
 obtain⟨v',w',g,k2,k3,_,k5⟩:=run_append_own_at (P:=P) w base t o.type e i z k bytes ht hi hz hsize hby hzs hsz v l.length (flat enc l) hown ⟨nb,0,none⟩ 1 c (enc y) (by rw[hk];omega)
  (fun j u hu=>by rw[Addr.add_mid,Nat.zero_add];exact hc j u hu) h1 h63 hbytes hbase
 refine wpList_plain hgd fun _ hK=> ?_;unfold Oper.wp execOp;simp only[ho,resolve,invoke,builtin,Sem.run_bind,Sem.run_pure,Result.andThen_ok,List.map_toArray,List.map_cons,List.map_nil,hs,hx,g];exact hK _ _ (h v' w' (by unfold OwnSl;rw[z4s,List.length_append];exact k2) k3 k5)
theorem z5B {α:Type} {T:TypeId} {k base:Nat} {enc:α->List Value} {w:World} {v:Value} {l:List α} (h:OwnSl T k enc w base v l):∃ A n c,v= .slice A n c:=by
 rcases h.2 with ⟨rfl,_⟩|⟨g,cap,cur,rfl,_⟩
 ·exact⟨_,_,_,rfl⟩
 ·exact⟨_,_,_,rfl⟩
theorem z75:∀ (t:VT) (cs:List Value) (w:World),Fit t->ValAt w w.heap.size cs t->Calls Tryz.prog 43 #[.agg ⟨cs⟩] w (z72 t w):=by
 intro t
 induction t using VT.ind with
 |h k n f s ns its ih=>
  intro cs w b0 hv;obtain⟨vn,vi,rfl,hk,hn,hf,hs,c6,c4,hi⟩:=hv.inv;obtain⟨b1,b2,b3⟩:=b0.inv;obtain⟨-,A,c,rfl,hA⟩:=hi;obtain⟨-,An,cn,rfl, -⟩:=id c6;have HA:=I hA;have e0:=I c6;have HW:=I (And.intro hk (And.intro hn (And.intro hf (And.intro hs c4))));have d1:=I b1;have IH:Hid (∀ x∈its,∀ cs w,ValAt w w.heap.size cs x->Calls Tryz.prog 43 #[.agg ⟨cs⟩] w (z72 x w)):=I fun x hx cs w h=>ih x hx cs w (b3 x hx) h;have a7:Hid (its.length*88<=140737488351232):=I b2;have g4:Hid (its.length<=9223372036854775807):=I (Nat.le_trans c4 z10);clear hA hv ih b0 b1 b2 b3 c6 hk hn hf hs c4;go_enter Tryz.func43,Tryz.ntmps43;go_upto_region 1 with (fail);have b8:=I (z9r w 39 (.int .i64 k) (.int .i64 n) (.float .f64 f) (.string s) (.slice An ns.length cn) (.slice A its.length c) (.int .i64 0) (.int .i64 0) (.float .f64 0) (.string ⟨#[]⟩) (.slice none 0 0) (.slice none 0 0));generalize ((w.alloc (.cells ⟨[.int .i64 k,.int .i64 n,.float .f64 f,.string s,.slice An ns.length cn,.slice A its.length c]⟩ 39)).alloc (.cells ⟨[.int .i64 0,.int .i64 0,.float .f64 0,.string ⟨#[]⟩,.slice none 0 0,.slice none 0 0]⟩ 39))= W at*;have HM:Hid (w.heap.size<=w.heap.size+2):=I (by omega);obtain⟨m,hm⟩:∃ m,w.heap.size+2= m:=⟨_,rfl⟩;obtain⟨q,hq⟩:∃ q,w.heap.size+1= q:=⟨_,rfl⟩;obtain⟨p,hp⟩:∃ p,w.heap.size= p:=⟨_,rfl⟩;rw[hm,hq] at b8;rw[hm] at HM;have X:Hid (CanSt w W p q m (L6 (.int .i64 k) (.int .i64 n) (.float .f64 f) (.string s) (.slice An ns.length cn) (.slice A its.length c))):=I (hp▸b8.o);rw[hq,hp];clear b8 hq hm hp;have d2:W.cell? ⟨p,2,none⟩= some (.float .f64 f):=X.o.ra.c 2 (by omega);have f2:W.frozen? ⟨p,2,none⟩= false:=X.o.ra.fz 2 (by omega);go_upto_region 2 with (go_at_call 78;refine(z0m f _).mono ?_;rintro e z ⟨rfl,g0⟩;obtain rfl:=g0.symm;clear g0);have C:Hid (CanSt w (W.setCell ⟨p,2,none⟩ (.float .f64 (zu f))) p q m (L6 (.int .i64 k) (.int .i64 n) (.float .f64 (zu f)) (.string s) (.slice An ns.length cn) (.slice A its.length c))):=I (X.o.put (by omega) (six rfl rfl rfl rfl rfl rfl));clear d2 f2 X;generalize W.setCell ⟨p,2,none⟩ (.float .f64 (zu f))= W2 at*;have d4:W2.cell? ⟨p,4,none⟩= some (.slice An ns.length cn):=C.o.ra.c 4 (by omega);have d0:=I (z1z W2 (.slice An ns.length cn) ns ((e0.o.below C.o.bel fun _ _ _ h=>h).more C.o.bel.size) d1.o);go_upto_region 3 with (go_at_call 75;refine d0.o.mono ?_;rintro e z ⟨v',rfl,hb,hk⟩;obtain⟨-,K,N,rfl, -⟩:=id hk;have Y:=I (C.o.below hb);have d7:=I hk;have c9:=I hb;have e4:z.cell? ⟨p,4,none⟩= some (.slice An ns.length cn):=Y.o.ra.c 4 (by omega);have f4:z.frozen? ⟨p,4,none⟩= false:=Y.o.ra.fz 4 (by omega);clear hk hb d4);have a2:Hid (CanSt w (z.setCell ⟨p,4,none⟩ (.slice K ns.length N)) p q m (L6 (.int .i64 k) (.int .i64 n) (.float .f64 (zu f)) (.string s) (.slice K ns.length N) (.slice A its.length c))):=I (Y.o.put (by omega) (six rfl rfl rfl rfl rfl rfl));have g2:Hid (KeptS (fun b=>W2.heap.size<=b) (z.setCell ⟨p,4,none⟩ (.slice K ns.length N)) (.slice K ns.length N) ns):=I (d7.o.to (fun b hb h6=>⟨hb,Below.heap_setCell z ⟨p,4,none⟩ _ b (by
   have h1:=C.o.mw;have h2:=C.o.pm;show b≠p;omega)⟩) (by rw[z3Y];exact Nat.le_refl _))
  have e2:Hid (W2.heap.size<=(z.setCell ⟨p,4,none⟩ (.slice K ns.length N)).heap.size):=I (by rw[z3Y];exact c9.o.size);have g6:Hid (m<=W2.heap.size):=I C.o.mw;clear C Y d7 c9 e4 f4 d0 e0 d1;generalize z.setCell ⟨p,4,none⟩ (.slice K ns.length N)= W3 at*;have d5:W3.cell? ⟨p,5,none⟩= some (.slice A its.length c):=a2.o.ra.c 5 (by omega);go_wp2;clear d5;go_loopg [3,17] its.length (fun g v i u=>∃ (j:Nat) (KL:List zT),j+g= its.length/\i= .int .i64 j/\CanInv 39 W3 u v its j KL);case atStart=>exact⟨0,[],by omega,rfl,CanInv.start _ _ _⟩
  case round=>
   obtain⟨j,KL,hj,rfl,hI⟩:=hrel;have HI:=I hI;clear hI;obtain⟨Av,nv,cv,rfl⟩:=z5B HI.o.own;cases gk with
   |zero=>
    have j8: ¬ ((j:Int) <(its.length:Int)):=by omega
    obtain rfl:j= its.length:=by omega
    have G:=I (a2.o.below HI.o.bel);have g5:wr.cell? ⟨p,5,none⟩= some (.slice A its.length c):=G.o.ra.c 5 (by omega);have f5:wr.frozen? ⟨p,5,none⟩= false:=G.o.ra.fz 5 (by omega);go_upto_region 10 with (fail);have a0:Hid (CanSt w (wr.setCell ⟨p,5,none⟩ (.slice Av nv cv)) p q m (L6 (.int .i64 k) (.int .i64 n) (.float .f64 (zu f)) (.string s) (.slice K ns.length N) (.slice Av nv cv))):=I (G.o.put (by omega) (six rfl rfl rfl rfl rfl rfl));have HP:Hid (∀ b,m<=b->(wr.setCell ⟨p,5,none⟩ (.slice Av nv cv)).heap[b]?= wr.heap[b]?):=I fun b hb=>Below.heap_setCell wr ⟨p,5,none⟩ _ b (by
     have:=G.o.pm;show b≠p;omega)
    have g9:Hid ((wr.setCell ⟨p,5,none⟩ (.slice Av nv cv)).heap.size= wr.heap.size):=I (z3Y _ _ _);clear g5 f5;generalize wr.setCell ⟨p,5,none⟩ (.slice Av nv cv)= W9 at*;have h0:Hid (W9.rangeAt p 0 [.int .i64 k,.int .i64 n,.float .f64 (zu f),.string s,.slice K ns.length N,.slice Av nv cv]):=I fun i v hv=>by
     have h1:=(List.getElem?_eq_some_iff.1 hv).1;have h2:=a0.o.ra.c i h1;rw[Nat.zero_add,h2];unfold L6;rw[List.getD_eq_getElem?_getD,hv];rfl
    have e3:Hid (W9.there q 0 6):=I fun i hi=>by
     obtain⟨z,hz⟩:=a0.o.rb;rw[Nat.zero_add,hz.c i hi,hz.fz i hi];exact⟨rfl,rfl⟩
    go_wp2_with (first|((with_reducible refine za tyK39 _ rfl ?_ h0.o rfl ?_ ?_);exact wA rfl;rfl)|((with_reducible refine z4M 39 _ _ rfl ?hwg q 0 [.int .i64 k,.int .i64 n,.float .f64 (zu f),.string s,.slice K ns.length N,.slice Av nv cv] ?hxg ?hyg ?htg ?hig ?h1g ?_);(case hxg=>rfl);(case hyg=>rfl);(case htg=>exact e3.o);(case hwg=>exact wA rfl);(case hig=>kernel_rfl);(case h1g=>exact zfG)))
    (try simp only[Exit.inBlock,Exit.then])
    refine bodyPost_ret (zk rfl Tryz.underlying39 rfl _ _ q [.int .i64 k,.int .i64 n,.float .f64 (zu f),.string s,.slice K ns.length N,.slice Av nv cv] (by kernel_rfl) rfl (World.rangeAt_setCells_same _ _ _ _ e3.o)) rfl ?_;refine⟨_,rfl,?_,?_⟩
    ·refine zbX HW.o.1 HW.o.2.1 HW.o.2.2.1 HW.o.2.2.2.1 HW.o.2.2.2.2 g6.o e2.o g2.o HI.o (fun b hb=> ?_) ?_ HM.o
     ·rw[z7s q b (by have:=G.o.qm;omega)]
      exact HP.o b hb
     ·rw[z7J];exact g9.o
    ·exact z3A a0.o.bel a0.o.wq _ 0
   |succ g=>
    have h6:(j:Int) <(its.length:Int):=by omega
    have j9:its.length<=9223372036854775807:=g4.o;have G:=I (a2.o.below HI.o.bel);obtain⟨y,hy⟩:∃ y,its[j]?= some y:=⟨_,List.getElem?_eq_getElem (by omega)⟩;obtain⟨b,o,rfl,h5,hc⟩:=HA.o (by omega);obtain⟨cs,f0,hr,hR⟩:=hc j y hy;have HR:=I (zb hr G.o.bel h5);have a5:=I f0;have HY:=I hy;have HV:=I (hR.next G.o.bel);clear hc hr hR hy f0;go_upto_region 7 with (first|((with_reducible refine za tyK39 _ rfl ?_ HR.o rfl a5.o ?_);exact wA rfl)|((with_reducible refine z1f 39 _ _ rfl ?hw wr ?zn cs ?hwld ?hz ?hx ?hy ?hi ?h1 ?_);(case hwld=>rfl);(case hx=>rfl);(case hy=>rfl);(case hw=>exact wA rfl);(case hz=>exact a5.o);(case hi=>rw[a5.o];kernel_rfl);(case h1=>exact(zm HV.o).2);intro Z e9;have HX:=I e9;clear e9));have d3:=I (IH.o y (List.mem_of_getElem? HY.o) cs Z (HV.o.next HX.o.below));have e1:=I HX.o.range;obtain⟨j0,hi,f7,f8,f9⟩:=zX z1Y;have d6:=I hi;have e6:=I f7;have e7:=I f8;have h4:=I f9;clear hi f7 f8 f9;go_wp2_with (first|((with_reducible refine za tyK39 _ rfl ?_ e1.o rfl a5.o ?_);exact wA rfl)|(go_at_call 43;fail));refine d3.o.mono ?_;rintro e u6 ⟨O,rfl,c5,e8⟩;obtain⟨f1,f3⟩:=zm c5.val;have g3:=I c5;have b6:=I e8;have a1:=I f1;have g7:=I f3;clear c5 e8 f1 f3 d3 e1 HR;have g1:Hid (∀ i u,(enc6 ⟨O,a1.o⟩)[i]?= some u->(u6.alloc (.cells ⟨O⟩ 39)).cell? ⟨u6.heap.size,i,none⟩= some u):=I (z0r u6 O 39);have b7:=I (zc u6 (.cells ⟨O⟩ 39));have h3:Hid (W3.heap.size<=(u6.alloc (.cells ⟨O⟩ 39)).heap.size):=I (Nat.le_trans HI.o.bel.size (Nat.le_trans HX.o.below.size (Nat.le_trans b6.o.size b7.o.size)));have g8:Hid (OwnSl 39 6 enc6 (u6.alloc (.cells ⟨O⟩ 39)) W3.heap.size (.slice Av nv cv) KL):=I (HI.o.own.below (HX.o.below.trans ((beT b6.o b7.o).mono HX.o.below.size)));have d8:Hid (KL.length+1<=maxLen):=I (by have:=HI.o.len;have:=a7.o;unfold maxLen;omega);have d9:Hid ((KL.length+1) *88<=140737488355328):=I (by have:=HI.o.len;have:=a7.o;omega);go_wp2_with (first|((with_reducible refine z0z 28 _ rfl ?_ 39 j0 _ O ?_ Tryz.underlying28 d6.o e6.o ?_ ?_ ?_ ?_);exact wA rfl;rfl;rw[a1.o];exact e7.o;rw[a1.o];decide;rw[a1.o];decide)|(at_builtin;(refine z2a rfl _ _ 28 rfl W3.heap.size 39 j0 _ 6 88 enc6 Tryz.underlying28 d6.o e6.o e7.o h4.o rfl (by decide) z0D (.slice Av nv cv) KL rfl g8.o u6.heap.size 1 ⟨O,a1.o⟩ g7.o rfl g1.o d8.o d9.o h3.o ?_;intro v' u8 b4 hg a9;have HN:=I (HI.o.next HX.o.below b6.o b7.o HY.o g3.o b4 hg a9);clear b4 hg a9)));go_roundg g;case measure=>omega
    case rel=>exact⟨j+1,_,by omega,by go_num,HN.o⟩
end
end Go.Proofs.YtpmjcbjdcjjplaaGreatDoor
