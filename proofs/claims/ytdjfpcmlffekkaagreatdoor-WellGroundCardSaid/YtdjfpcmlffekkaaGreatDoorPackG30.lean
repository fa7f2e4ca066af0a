/- Parts of a proof: VCanon, VCanon2. -/
import Derived.Test.YtdjfpcmlffekkaaGreatDoorPackG8
import Derived.Test.YtdjfpcmlffekkaaGreatDoorPackG9
import Derived.Test.YtdjfpcmlffekkaaGreatDoorPackG11
import Derived.Test.YtdjfpcmlffekkaaGreatDoorPackG26
import Derived.Test.YtdjfpcmlffekkaaGreatDoorPackG28
import Derived.Test.YtdjfpcmlffekkaaGreatDoorPackG29
set_option maxHeartbeats 8000000
set_option maxRecDepth 100000
set_option linter.unusedVariables false
set_option linter.unusedSimpArgs false
namespace Go.Proofs.YtdjfpcmlffekkaaGreatDoor
section
open Go Go.RowKit
theorem z0m (f:Nat) (w:World):Calls Tryz.prog 153 #[.float .f64 f] w fun e w'=>e= .returned (.float .f64 (zo f))/\w'= w:=by
 have g:nanB f=(FloatKind.f64.format.order f f !=some .eq):=rfl;cases hn:nanB f with
 |true=>
  have A:zo f= 9221120237041090560:=by unfold zo;rw[if_pos hn]
  rw[A];have t1:(FloatKind.f64.format.order f f !=some .eq)= true:=g.symm.trans hn;have e1:∀ W:World,(callFunc 172 #[.int .u64 9221120237041090560]).run Tryz.prog W= .ok (.value (.float .f64 9221120237041090560)) W:=fun W=>by
   rw[run_callFunc_extern Tryz.func172 (by kernel_rfl) (by kernel_rfl) (by kernel_rfl) (e:=Extern.MathFloatBits.float64frombits) (by kernel_rfl)];rfl
  clear g hn A;go_enter Tryz.func153,Tryz.ntmps153;go_wp2;go_ret;exact⟨rfl,rfl⟩
 |false=>
  have A:zo f= f:=by unfold zo;rw[if_neg (by rw[hn];decide)]
  rw[A];have t1:(FloatKind.f64.format.order f f !=some .eq)= false:=g.symm.trans hn;clear g hn A;go_enter Tryz.func153,Tryz.ntmps153;go_wp2;go_ret;exact⟨rfl,rfl⟩
end
section
open Go Go.RowKit
theorem z5q {P:Program} {w:World} {a:Addr} {m:Mode} (k:FloatKind) (x:Nat):(store a (.float k x) m).run P w= stored P w a (.float k x) m:=run_store P w a _ m rfl
attribute [local go_sem] z5q
theorem z3f (w:World) (p:Addr) (v:Value):(w.setCell p v).heap.size= w.heap.size:=by simp[World.setCell]
theorem z6f (b k:Nat) (hk:k≠b):∀ (cs:List Value) (w:World) (i:Nat),(w.setCells b i cs).heap[k]?= w.heap[k]?
 |[],_,_=>rfl
 |v::cs,w,i=>by
  show((w.setCell ⟨b,i,none⟩ v).setCells b (i+1) cs).heap[k]?= _
  rw[z6f b k hk cs]
  exact Below.heap_setCell w ⟨b,i,none⟩ v k hk
def L6 (a b c d e f:Value) (i:Nat):Value:=[a,b,c,d,e,f].getD i undef
structure CanSt (w W:World) (p q m:Nat) (f:Nat->Value):Prop where
 ra:RowF W p 6 f
 rb:∃ z,RowF W q 6 z
 bel:Below w.heap.size w W
 wp:w.heap.size<=p
 wq:w.heap.size<=q
 ne:p≠q
 pm:p < m
 qm:q < m
 mw:m<=W.heap.size
section
variable {w W W':World} {p q m:Nat} {f f':Nat->Value}
theorem CanSt.below (h:CanSt w W p q m f) (hb:Below W.heap.size W W'):CanSt w W' p q m f:=
 ⟨h.ra.below hb (Nat.lt_of_lt_of_le h.pm h.mw),by obtain⟨z,hz⟩:=h.rb;exact⟨z,hz.below hb (Nat.lt_of_lt_of_le h.qm h.mw)⟩,(beT h.bel hb),h.wp,h.wq,h.ne,h.pm,h.qm,Nat.le_trans h.mw hb.size⟩
theorem CanSt.put (h:CanSt w W p q m f) {i:Nat} (hi:i < 6) {v:Value} (hf:∀ j,j < 6->(if j= i then v else f j)= f' j):CanSt w (W.setCell ⟨p,i,none⟩ v) p q m f':=
 ⟨(h.ra.set hi v).congr hf,by obtain⟨z,hz⟩:=h.rb;exact⟨z,hz.keep (Below.heap_setCell W ⟨p,i,none⟩ v q h.ne.symm)⟩,z2U (vs:=[v]) h.bel h.wp i,h.wp,h.wq,h.ne,h.pm,h.qm,by rw[z3f];exact h.mw⟩
end
theorem six {P:Nat->Prop} (h0:P 0) (h1:P 1) (h2:P 2) (h3:P 3) (h4:P 4) (h5:P 5):∀ j,j < 6->P j:=fun j hj=>by
 match j,hj with
 |0,_=>exact h0
 |1,_=>exact h1
 |2,_=>exact h2
 |3,_=>exact h3
 |4,_=>exact h4
 |5,_=>exact h5
theorem zdE {k n:Int} {f:Nat} {s:ByteArray} {a b:Option Addr} {i j l m:Nat}:∀ v∈[Value.int .i64 k,.int .i64 n,.float .f64 f,.string s,.slice a i j,.slice b l m],v.oneCell'= true:=by
 intro u hu;simp only[List.mem_cons,List.not_mem_nil,or_false] at hu;rcases hu with rfl|rfl|rfl|rfl|rfl|rfl<;>rfl
theorem zag {f:Nat} (h:(Lit.float .f64 f).wf= true):(Lit.float .f64 (zo f)).wf= true:=by
 unfold zo;split
 ·decide
 ·exact h
def z61 (x:VT) (w:World) (e:Ending) (w':World):Prop:=∃ cs',e= .returned (.agg ⟨cs'⟩)/\Kept (fun b=>w.heap.size<=b) w' cs' (z0d x)/\Below w.heap.size w w'
theorem zah {w W2 W3 u u':World} {m:Nat} {k n:Int} {f:Nat} {s:ByteArray} {ns:List ByteArray} {its:List VT} {vn vi:Value} {KL:List zU} (hk:wfI k) (hn:wfI n) (hf:(Lit.float .f64 f).wf= true) (hs:s.size<=maxLen) (hl:its.length<=maxLen)
  (hm:m<=W2.heap.size) (h23:W2.heap.size<=W3.heap.size) (hns:KeptS (fun b=>W2.heap.size<=b) W3 vn ns) (hI:CanInv 52 W3 u vi its its.length KL)
  (hu:∀ b,m<=b->u'.heap[b]?= u.heap[b]?) (hsz:u'.heap.size= u.heap.size) (hwm:w.heap.size<=m):
  Kept (fun b=>w.heap.size<=b) u' [.int .i64 k,.int .i64 n,.float .f64 (zo f),.string s,vn,vi] (z0d (.mk k n f s ns its)):=by
 rw[z0d];have h3:=hI.bel;refine ValAt.of hk hn (zag hf) hs (hns.to (fun b hp hb=>⟨by omega,?_⟩) ?_) (by rw[z2W];exact hl) (hI.row hl (by omega) (fun b hp hb=>hu b (by omega)) (by omega))
 ·rw[hu b (by omega)]
  exact h3.block b hb
 ·have:=h3.size
  omega
theorem z89 (w:World) (T:TypeId) (a b c d e f a' b' c' d' e' f':Value):CanSt w ((w.alloc (.cells ⟨[a,b,c,d,e,f]⟩ T)).alloc (.cells ⟨[a',b',c',d',e',f']⟩ T)) w.heap.size (w.heap.size+1) (w.heap.size+2) (L6 a b c d e f):=by
 have g:(w.alloc (.cells ⟨[a,b,c,d,e,f]⟩ T)).heap.size= w.heap.size+1:=by simp
 have h1:RowF (w.alloc (.cells ⟨[a,b,c,d,e,f]⟩ T)) w.heap.size 6 (L6 a b c d e f):=⟨six (by rw[zH];rfl) (by rw[zH];rfl) (by rw[zH];rfl) (by rw[zH];rfl) (by rw[zH];rfl) (by rw[zH];rfl),fun i _=>z32 _ _ _ _⟩;have h2:=zc w (.cells ⟨[a,b,c,d,e,f]⟩ T);generalize w.alloc (.cells ⟨[a,b,c,d,e,f]⟩ T)= W1 at*;have h3:RowF (W1.alloc (.cells ⟨[a',b',c',d',e',f']⟩ T)) W1.heap.size 6 (L6 a' b' c' d' e' f'):=⟨six (by rw[zH];rfl) (by rw[zH];rfl) (by rw[zH];rfl) (by rw[zH];rfl) (by rw[zH];rfl) (by rw[zH];rfl),fun i _=>z32 _ _ _ _⟩;have h4:=zc W1 (.cells ⟨[a',b',c',d',e',f']⟩ T);have h5:(W1.alloc (.cells ⟨[a',b',c',d',e',f']⟩ T)).heap.size= W1.heap.size+1:=by simp
 rw[g] at h3 h5;exact⟨h1.below h4 (by omega),⟨_,h3⟩,h2.trans (h4.mono (by omega)),Nat.le_refl _,by omega,by omega,by omega,by omega,by omega⟩
theorem z26:(Tryz.prog.info? 52).map (fun i=>(i.zero,i.size,i.bytes))= some (some (.agg #[.int .i64 0,.int .i64 0,.float .f64 0,.string ⟨#[]⟩,.slice none 0 0,.slice none 0 0]),6,88):=by kernel_rfl
theorem zX {P:Program} {e:TypeId} {z:Option Value} {s b:Nat} (h:(P.info? e).map (fun i=>(i.zero,i.size,i.bytes))= some (z,s,b)):∃ i,P.info? e= some i/\i.zero= z/\i.size= s/\i.bytes= b:=by
 cases h2:P.info? e with
 |none=>rw[h2] at h;cases h
 |some i=>
  rw[h2] at h;injection h with h;injection h with h3 h4;injection h4 with h4 h5;exact⟨i,rfl,h3,h4,h5⟩
theorem z2q {α:Type} {P:Program} {ops:Array Oper} {rest:List Oper} {o:Oper} {a:Act} {w:World} {Q:Exit->Act->World->Prop} (hgd:o.guard= none) (s x:Operand) (t:TypeId) (ho:o.op= .call { callee:= .builtin .append,args:= #[s,x],argTypes:= #[t,t] })
  (base:Nat) (e:TypeId) (i:TypeInfo) (z:Value) (k bytes:Nat) (enc:α->List Value) (ht:P.underlying t= some (.slice e)) (hi:P.info? e= some i) (hz:i.zero= some z)
  (hsize:i.size= k) (hby:i.bytes= bytes) (hzs:z.cells.size= k) (hsz:0 < k) (hk:∀ x,(enc x).length= k)
  (v:Value) (l:List α) (hs:a.eval s= v) (hown:OwnSl e k enc w base v l) (nb c:Nat) (y:α) (h1:∀ u∈enc y,u.oneCell'= true) (hx:a.eval x= .slice (some ⟨nb,0,none⟩) 1 c)
  (hc:∀ j u,(enc y)[j]?= some u->w.cell? ⟨nb,j,none⟩= some u) (h63:l.length+1<=maxLen) (hbytes:(l.length+1) *bytes<=140737488355328) (hbase:base<=w.heap.size)
  (h:∀ v' w',OwnSl e k enc w' base v' (l ++ [y])->w.grownBy w' v.ownBlock->(v'.ownBlock= v.ownBlock\/v'.ownBlock= some w.heap.size)->wpList P ops Q rest (a.put o.dst v') w'):wpList P ops Q (o::rest) a w:=by
 obtain⟨v',w',g,k2,k3,_,k5⟩:=run_append_own_at (P:=P) w base t o.type e i z k bytes ht hi hz hsize hby hzs hsz v l.length (flat enc l) hown ⟨nb,0,none⟩ 1 c (enc y) (by rw[hk];omega)
  (fun j u hu=>by rw[Addr.add_mid,Nat.zero_add];exact hc j u hu) h1 h63 hbytes hbase
 refine wpList_plain hgd fun _ hK=> ?_;unfold Oper.wp execOp;simp only[ho,resolve,invoke,builtin,Sem.run_bind,Sem.run_pure,Result.andThen_ok,List.map_toArray,List.map_cons,List.map_nil,hs,hx,g];exact hK _ _ (h v' w' (by unfold OwnSl;rw[z6d,List.length_append];exact k2) k3 k5)
theorem z4G {α:Type} {T:TypeId} {k base:Nat} {enc:α->List Value} {w:World} {v:Value} {l:List α} (h:OwnSl T k enc w base v l):∃ A n c,v= .slice A n c:=by
 rcases h.2 with ⟨rfl,_⟩|⟨g,cap,cur,rfl,_⟩
 ·exact⟨_,_,_,rfl⟩
 ·exact⟨_,_,_,rfl⟩
theorem z63:∀ (t:VT) (cs:List Value) (w:World),Fit t->ValAt w w.heap.size cs t->Calls Tryz.prog 132 #[.agg ⟨cs⟩] w (z61 t w):=by
 intro t
 induction t using VT.ind with
 |h k n f s ns its ih=>
  intro cs w a9 hv;obtain⟨vn,vi,rfl,hk,hn,hf,hs,c5,b9,hi⟩:=hv.inv;obtain⟨b0,b1,b2⟩:=a9.inv;obtain⟨-,A,c,rfl,hA⟩:=hi;obtain⟨-,An,cn,rfl, -⟩:=id c5;have HA:=I hA;have d9:=I c5;have HW:=I (And.intro hk (And.intro hn (And.intro hf (And.intro hs b9))));have d0:=I b0;have IH:Hid (∀ x∈its,∀ cs w,ValAt w w.heap.size cs x->Calls Tryz.prog 132 #[.agg ⟨cs⟩] w (z61 x w)):=I fun x hx cs w h=>ih x hx cs w (b2 x hx) h;have a6:Hid (its.length*88<=140737488351232):=I b1;have g3:Hid (its.length<=9223372036854775807):=I (Nat.le_trans b9 z0L);clear hA hv ih a9 b0 b1 b2 c5 hk hn hf hs b9;go_enter Tryz.func132,Tryz.ntmps132;go_upto_region 1 with (fail);have b7:=I (z89 w 52 (.int .i64 k) (.int .i64 n) (.float .f64 f) (.string s) (.slice An ns.length cn) (.slice A its.length c) (.int .i64 0) (.int .i64 0) (.float .f64 0) (.string ⟨#[]⟩) (.slice none 0 0) (.slice none 0 0));generalize ((w.alloc (.cells ⟨[.int .i64 k,.int .i64 n,.float .f64 f,.string s,.slice An ns.length cn,.slice A its.length c]⟩ 52)).alloc (.cells ⟨[.int .i64 0,.int .i64 0,.float .f64 0,.string ⟨#[]⟩,.slice none 0 0,.slice none 0 0]⟩ 52))= W at*;have HM:Hid (w.heap.size<=w.heap.size+2):=I (by omega);obtain⟨m,hm⟩:∃ m,w.heap.size+2= m:=⟨_,rfl⟩;obtain⟨q,hq⟩:∃ q,w.heap.size+1= q:=⟨_,rfl⟩;obtain⟨p,hp⟩:∃ p,w.heap.size= p:=⟨_,rfl⟩;rw[hm,hq] at b7;rw[hm] at HM;have O:Hid (CanSt w W p q m (L6 (.int .i64 k) (.int .i64 n) (.float .f64 f) (.string s) (.slice An ns.length cn) (.slice A its.length c))):=I (hp▸b7.o);rw[hq,hp];clear b7 hq hm hp;have d2:W.cell? ⟨p,2,none⟩= some (.float .f64 f):=O.o.ra.c 2 (by omega);have f2:W.frozen? ⟨p,2,none⟩= false:=O.o.ra.fz 2 (by omega);go_upto_region 2 with (go_at_call 153;refine(z0m f _).mono ?_;rintro e z ⟨rfl,f9⟩;obtain rfl:=f9.symm;clear f9);have C:Hid (CanSt w (W.setCell ⟨p,2,none⟩ (.float .f64 (zo f))) p q m (L6 (.int .i64 k) (.int .i64 n) (.float .f64 (zo f)) (.string s) (.slice An ns.length cn) (.slice A its.length c))):=I (O.o.put (by omega) (six rfl rfl rfl rfl rfl rfl));clear d2 f2 O;generalize W.setCell ⟨p,2,none⟩ (.float .f64 (zo f))= W2 at*;have d4:W2.cell? ⟨p,4,none⟩= some (.slice An ns.length cn):=C.o.ra.c 4 (by omega);have c9:=I (z1c W2 (.slice An ns.length cn) ns ((d9.o.below C.o.bel fun _ _ _ h=>h).more C.o.bel.size) d0.o);go_upto_region 3 with (go_at_call 130;refine c9.o.mono ?_;rintro e z ⟨v',rfl,hb,hk⟩;obtain⟨-,G,K,rfl, -⟩:=id hk;have X:=I (C.o.below hb);have d6:=I hk;have c8:=I hb;have e4:z.cell? ⟨p,4,none⟩= some (.slice An ns.length cn):=X.o.ra.c 4 (by omega);have f4:z.frozen? ⟨p,4,none⟩= false:=X.o.ra.fz 4 (by omega);clear hk hb d4);have a1:Hid (CanSt w (z.setCell ⟨p,4,none⟩ (.slice G ns.length K)) p q m (L6 (.int .i64 k) (.int .i64 n) (.float .f64 (zo f)) (.string s) (.slice G ns.length K) (.slice A its.length c))):=I (X.o.put (by omega) (six rfl rfl rfl rfl rfl rfl));have g1:Hid (KeptS (fun b=>W2.heap.size<=b) (z.setCell ⟨p,4,none⟩ (.slice G ns.length K)) (.slice G ns.length K) ns):=I (d6.o.to (fun b hb h5=>⟨hb,Below.heap_setCell z ⟨p,4,none⟩ _ b (by
   have h1:=C.o.mw;have h2:=C.o.pm;show b≠p;omega)⟩) (by rw[z3f];exact Nat.le_refl _))
  have e1:Hid (W2.heap.size<=(z.setCell ⟨p,4,none⟩ (.slice G ns.length K)).heap.size):=I (by rw[z3f];exact c8.o.size);have g4:Hid (m<=W2.heap.size):=I C.o.mw;clear C X d6 c8 e4 f4 c9 d9 d0;generalize z.setCell ⟨p,4,none⟩ (.slice G ns.length K)= W3 at*;have d5:W3.cell? ⟨p,5,none⟩= some (.slice A its.length c):=a1.o.ra.c 5 (by omega);go_wp2;clear d5;go_loopg [3,17] its.length (fun g v i u=>∃ (j:Nat) (KL:List zU),j+g= its.length/\i= .int .i64 j/\CanInv 52 W3 u v its j KL);case atStart=>exact⟨0,[],by omega,rfl,CanInv.start _ _ _⟩
  case round=>
   obtain⟨j,KL,hj,rfl,hI⟩:=hrel;have HI:=I hI;clear hI;obtain⟨Av,nv,cv,rfl⟩:=z4G HI.o.own;cases gk with
   |zero=>
    have j7: ¬ ((j:Int) <(its.length:Int)):=by omega
    obtain rfl:j= its.length:=by omega
    have F:=I (a1.o.below HI.o.bel);have g5:wr.cell? ⟨p,5,none⟩= some (.slice A its.length c):=F.o.ra.c 5 (by omega);have f5:wr.frozen? ⟨p,5,none⟩= false:=F.o.ra.fz 5 (by omega);go_upto_region 10 with (fail);have Y:Hid (CanSt w (wr.setCell ⟨p,5,none⟩ (.slice Av nv cv)) p q m (L6 (.int .i64 k) (.int .i64 n) (.float .f64 (zo f)) (.string s) (.slice G ns.length K) (.slice Av nv cv))):=I (F.o.put (by omega) (six rfl rfl rfl rfl rfl rfl));have HP:Hid (∀ b,m<=b->(wr.setCell ⟨p,5,none⟩ (.slice Av nv cv)).heap[b]?= wr.heap[b]?):=I fun b hb=>Below.heap_setCell wr ⟨p,5,none⟩ _ b (by
     have:=F.o.pm;show b≠p;omega)
    have g8:Hid ((wr.setCell ⟨p,5,none⟩ (.slice Av nv cv)).heap.size= wr.heap.size):=I (z3f _ _ _);clear g5 f5;generalize wr.setCell ⟨p,5,none⟩ (.slice Av nv cv)= W9 at*;have g9:Hid (W9.rangeAt p 0 [.int .i64 k,.int .i64 n,.float .f64 (zo f),.string s,.slice G ns.length K,.slice Av nv cv]):=I fun i v hv=>by
     have h1:=(List.getElem?_eq_some_iff.1 hv).1;have h2:=Y.o.ra.c i h1;rw[Nat.zero_add,h2];unfold L6;rw[List.getD_eq_getElem?_getD,hv];rfl
    have e2:Hid (W9.there q 0 6):=I fun i hi=>by
     obtain⟨z,hz⟩:=Y.o.rb;rw[Nat.zero_add,hz.c i hi,hz.fz i hi];exact⟨rfl,rfl⟩
    go_wp2_with (first|((with_reducible refine za tyK52 _ rfl ?_ g9.o rfl ?_ ?_);exact wA rfl;rfl)|((with_reducible refine z3T 52 _ _ rfl ?hwg q 0 [.int .i64 k,.int .i64 n,.float .f64 (zo f),.string s,.slice G ns.length K,.slice Av nv cv] ?hxg ?hyg ?htg ?hig ?h1g ?_);(case hxg=>rfl);(case hyg=>rfl);(case htg=>exact e2.o);(case hwg=>exact wA rfl);(case hig=>kernel_rfl);(case h1g=>exact zdE)))
    (try simp only[Exit.inBlock,Exit.then])
    refine bodyPost_ret (zk rfl Tryz.underlying52 rfl _ _ q [.int .i64 k,.int .i64 n,.float .f64 (zo f),.string s,.slice G ns.length K,.slice Av nv cv] (by kernel_rfl) rfl (World.rangeAt_setCells_same _ _ _ _ e2.o)) rfl ?_;refine⟨_,rfl,?_,?_⟩
    ·refine zah HW.o.1 HW.o.2.1 HW.o.2.2.1 HW.o.2.2.2.1 HW.o.2.2.2.2 g4.o e1.o g1.o HI.o (fun b hb=> ?_) ?_ HM.o
     ·rw[z6f q b (by have:=F.o.qm;omega)]
      exact HP.o b hb
     ·rw[z6x];exact g8.o
    ·exact z2U Y.o.bel Y.o.wq _ 0
   |succ g=>
    have h5:(j:Int) <(its.length:Int):=by omega
    have j8:its.length<=9223372036854775807:=g3.o;have F:=I (a1.o.below HI.o.bel);obtain⟨y,hy⟩:∃ y,its[j]?= some y:=⟨_,List.getElem?_eq_getElem (by omega)⟩;obtain⟨b,o,rfl,h4,hc⟩:=HA.o (by omega);obtain⟨cs,e9,hr,hR⟩:=hc j y hy;have HR:=I (zb hr F.o.bel h4);have a4:=I e9;have HY:=I hy;have HV:=I (hR.next F.o.bel);clear hc hr hR hy e9;go_upto_region 7 with (first|((with_reducible refine za tyK52 _ rfl ?_ HR.o rfl a4.o ?_);exact wA rfl)|((with_reducible refine z1v 52 _ _ rfl ?hw wr ?zn cs ?hwld ?hz ?hx ?hy ?hi ?h1 ?_);(case hwld=>rfl);(case hx=>rfl);(case hy=>rfl);(case hw=>exact wA rfl);(case hz=>exact a4.o);(case hi=>rw[a4.o];kernel_rfl);(case h1=>exact(zp HV.o).2);intro Z e8;have HX:=I e8;clear e8));have d1:=I (IH.o y (List.mem_of_getElem? HY.o) cs Z (HV.o.next HX.o.below));have e0:=I HX.o.range;obtain⟨j0,hi,f6,f7,f8⟩:=zX z26;have d3:=I hi;have e5:=I f6;have e6:=I f7;have h3:=I f8;clear hi f6 f7 f8;go_wp2_with (first|((with_reducible refine za tyK52 _ rfl ?_ e0.o rfl a4.o ?_);exact wA rfl)|(go_at_call 132;fail));refine d1.o.mono ?_;rintro e u6 ⟨N,rfl,c4,e7⟩;obtain⟨f0,f1⟩:=zp c4.val;have g2:=I c4;have b5:=I e7;have a0:=I f0;have g6:=I f1;clear c4 e7 f0 f1 d1 e0 HR;have g0:Hid (∀ i u,(enc6 ⟨N,a0.o⟩)[i]?= some u->(u6.alloc (.cells ⟨N⟩ 52)).cell? ⟨u6.heap.size,i,none⟩= some u):=I (z11 u6 N 52);have b6:=I (zc u6 (.cells ⟨N⟩ 52));have h0:Hid (W3.heap.size<=(u6.alloc (.cells ⟨N⟩ 52)).heap.size):=I (Nat.le_trans HI.o.bel.size (Nat.le_trans HX.o.below.size (Nat.le_trans b5.o.size b6.o.size)));have g7:Hid (OwnSl 52 6 enc6 (u6.alloc (.cells ⟨N⟩ 52)) W3.heap.size (.slice Av nv cv) KL):=I (HI.o.own.below (HX.o.below.trans ((beT b5.o b6.o).mono HX.o.below.size)));have d7:Hid (KL.length+1<=maxLen):=I (by have:=HI.o.len;have:=a6.o;unfold maxLen;omega);have d8:Hid ((KL.length+1) *88<=140737488355328):=I (by have:=HI.o.len;have:=a6.o;omega);go_wp2_with (first|((with_reducible refine z1u 50 _ rfl ?_ 52 j0 _ N ?_ Tryz.underlying50 d3.o e5.o ?_ ?_ ?_ ?_);exact wA rfl;rfl;rw[a0.o];exact e6.o;rw[a0.o];decide;rw[a0.o];decide)|(at_builtin;(refine z2q rfl _ _ 50 rfl W3.heap.size 52 j0 _ 6 88 enc6 Tryz.underlying50 d3.o e5.o e6.o h3.o rfl (by decide) z0J (.slice Av nv cv) KL rfl g7.o u6.heap.size 1 ⟨N,a0.o⟩ g6.o rfl g0.o d7.o d8.o h0.o ?_;intro v' u8 b3 hg a8;have HN:=I (HI.o.next HX.o.below b5.o b6.o HY.o g2.o b3 hg a8);clear b3 hg a8)));go_roundg g;case measure=>omega
    case rel=>exact⟨j+1,_,by omega,by go_num,HN.o⟩
end
end Go.Proofs.YtdjfpcmlffekkaaGreatDoor
