/- Parts of a proof: VCanon, VCanon2. -/
import Derived.Test.YtdjfpcmlffekkaaGreatDoorPackL8
import Derived.Test.YtdjfpcmlffekkaaGreatDoorPackL9
import Derived.Test.YtdjfpcmlffekkaaGreatDoorPackL11
import Derived.Test.YtdjfpcmlffekkaaGreatDoorPackL27
import Derived.Test.YtdjfpcmlffekkaaGreatDoorPackL29
import Derived.Test.YtdjfpcmlffekkaaGreatDoorPackL30
set_option maxHeartbeats 8000000
set_option maxRecDepth 100000
set_option linter.unusedVariables false
set_option linter.unusedSimpArgs false
namespace Go.Proofs.YtdjfpcmlffekkaaGreatDoor
section
open Go Go.RowKit
theorem z0e (f:Nat) (w:World):Calls Tryz.prog 153 #[.float .f64 f] w fun e w'=>e= .returned (.float .f64 (zl f))/\w'= w:=by
 have hn0:nanB f=(FloatKind.f64.format.order f f !=some .eq):=rfl
 cases hn:nanB f with
 |true=>
  have hz:zl f= 9221120237041090560:=by unfold zl;rw[if_pos hn]
  rw[hz]
  have t1:(FloatKind.f64.format.order f f !=some .eq)= true:=hn0.symm.trans hn
  have e1:∀ W:World,(callFunc 172 #[.int .u64 9221120237041090560]).run Tryz.prog W= .ok (.value (.float .f64 9221120237041090560)) W:=fun W=>by
   rw[run_callFunc_extern Tryz.func172 (by kernel_rfl) (by kernel_rfl) (by kernel_rfl) (e:=Extern.MathFloatBits.float64frombits) (by kernel_rfl)]
   rfl
  clear hn0 hn hz
  go_enter Tryz.func153,Tryz.ntmps153
  go_wp2
  go_ret
  exact⟨rfl,rfl⟩
 |false=>
  have hz:zl f= f:=by unfold zl;rw[if_neg (by rw[hn];decide)]
  rw[hz]
  have t1:(FloatKind.f64.format.order f f !=some .eq)= false:=hn0.symm.trans hn
  clear hn0 hn hz
  go_enter Tryz.func153,Tryz.ntmps153
  go_wp2
  go_ret
  exact⟨rfl,rfl⟩
end
section
open Go Go.RowKit
theorem z5e {P:Program} {w:World} {a:Addr} {m:Mode} (k:FloatKind) (x:Nat):(store a (.float k x) m).run P w= stored P w a (.float k x) m:=run_store P w a _ m rfl
attribute [local go_sem] z5e
theorem z3u (w:World) (p:Addr) (v:Value):(w.setCell p v).heap.size= w.heap.size:=by simp[World.setCell]
theorem z70 (b k:Nat) (hk:k≠b):∀ (cs:List Value) (w:World) (i:Nat),(w.setCells b i cs).heap[k]?= w.heap[k]?
 |[],_,_=>rfl
 |v::cs,w,i=>by
  show((w.setCell ⟨b,i,none⟩ v).setCells b (i+1) cs).heap[k]?= _
  rw[z70 b k hk cs]
  exact Below.heap_setCell w ⟨b,i,none⟩ v k hk
def L6 (a b c d e f:Value) (i:Nat):Value:=[a,b,c,d,e,f].getD i undef
structure CanSt (w W:World) (p q m:Nat) (f:Nat->Value):Prop where
 ra:RowF W p 6 f
 rb:∃ z,RowF W q 6 z
 bel:Below w.heap.size w W
 wp:w.heap.size<=p
 wq:w.heap.size<=q
 ne:p≠q
 pm:p < m
 qm:q < m
 mw:m<=W.heap.size
section
variable {w W W':World} {p q m:Nat} {f f':Nat->Value}
theorem CanSt.below (h:CanSt w W p q m f) (hb:Below W.heap.size W W'):CanSt w W' p q m f:=
 ⟨h.ra.below hb (Nat.lt_of_lt_of_le h.pm h.mw),by obtain⟨z,hz⟩:=h.rb;exact⟨z,hz.below hb (Nat.lt_of_lt_of_le h.qm h.mw)⟩,h.bel.trans (hb.mono h.bel.size),h.wp,h.wq,h.ne,h.pm,h.qm,Nat.le_trans h.mw hb.size⟩
theorem CanSt.put (h:CanSt w W p q m f) {i:Nat} (hi:i < 6) {v:Value} (hf:∀ j,j < 6->(if j= i then v else f j)= f' j):CanSt w (W.setCell ⟨p,i,none⟩ v) p q m f':=
 ⟨(h.ra.set hi v).congr hf,by obtain⟨z,hz⟩:=h.rb;exact⟨z,hz.keep (Below.heap_setCell W ⟨p,i,none⟩ v q h.ne.symm)⟩,z39 (vs:=[v]) h.bel h.wp i,h.wp,h.wq,h.ne,h.pm,h.qm,by rw[z3u];exact h.mw⟩
end
theorem six {P:Nat->Prop} (h0:P 0) (h1:P 1) (h2:P 2) (h3:P 3) (h4:P 4) (h5:P 5):∀ j,j < 6->P j:=fun j hj=>by
 match j,hj with
 |0,_=>exact h0
 |1,_=>exact h1
 |2,_=>exact h2
 |3,_=>exact h3
 |4,_=>exact h4
 |5,_=>exact h5
theorem zf2 {k n:Int} {f:Nat} {s:ByteArray} {a b:Option Addr} {i j l m:Nat}:∀ v∈[Value.int .i64 k,.int .i64 n,.float .f64 f,.string s,.slice a i j,.slice b l m],v.oneCell'= true:=by
 intro u hu
 simp only[List.mem_cons,List.not_mem_nil,or_false] at hu
 rcases hu with rfl|rfl|rfl|rfl|rfl|rfl<;>rfl
theorem zco {f:Nat} (h:(Lit.float .f64 f).wf= true):(Lit.float .f64 (zl f)).wf= true:=by
 unfold zl
 split
 ·decide
 ·exact h
def z6r (x:VT) (w:World) (e:Ending) (w':World):Prop:=∃ cs',e= .returned (.agg ⟨cs'⟩)/\Kept (fun b=>w.heap.size<=b) w' cs' (z08 x)/\Below w.heap.size w w'
theorem zaQ {w W2 W3 u u':World} {m:Nat} {k n:Int} {f:Nat} {s:ByteArray} {ns:List ByteArray} {its:List VT} {vn vi:Value} {KL:List zW} (hk:wfI k) (hn:wfI n) (hf:(Lit.float .f64 f).wf= true) (hs:s.size<=maxLen) (hl:its.length<=maxLen)
  (hm:m<=W2.heap.size) (h23:W2.heap.size<=W3.heap.size) (hns:KeptS (fun b=>W2.heap.size<=b) W3 vn ns) (hI:CanInv 52 W3 u vi its its.length KL)
  (hu:∀ b,m<=b->u'.heap[b]?= u.heap[b]?) (hsz:u'.heap.size= u.heap.size) (hwm:w.heap.size<=m):
  Kept (fun b=>w.heap.size<=b) u' [.int .i64 k,.int .i64 n,.float .f64 (zl f),.string s,vn,vi] (z08 (.mk k n f s ns its)):=by
 rw[z08]
 have h3:=hI.bel
 refine ValAt.of hk hn (zco hf) hs (hns.to (fun b hp hb=>⟨by omega,?_⟩) ?_) (by rw[z3h];exact hl) (hI.row hl (by omega) (fun b hp hb=>hu b (by omega)) (by omega))
 ·rw[hu b (by omega)]
  exact h3.block b hb
 ·have:=h3.size
  omega
theorem z8s (w:World) (T:TypeId) (a b c d e f a' b' c' d' e' f':Value):CanSt w ((w.alloc (.cells ⟨[a,b,c,d,e,f]⟩ T)).alloc (.cells ⟨[a',b',c',d',e',f']⟩ T)) w.heap.size (w.heap.size+1) (w.heap.size+2) (L6 a b c d e f):=by
 have hz:(w.alloc (.cells ⟨[a,b,c,d,e,f]⟩ T)).heap.size= w.heap.size+1:=by simp
 have h1:RowF (w.alloc (.cells ⟨[a,b,c,d,e,f]⟩ T)) w.heap.size 6 (L6 a b c d e f):=⟨six (by rw[zB];rfl) (by rw[zB];rfl) (by rw[zB];rfl) (by rw[zB];rfl) (by rw[zB];rfl) (by rw[zB];rfl),fun i _=>z3n _ _ _ _⟩
 have h2:=zd w (.cells ⟨[a,b,c,d,e,f]⟩ T)
 generalize w.alloc (.cells ⟨[a,b,c,d,e,f]⟩ T)= W1 at*
 have h3:RowF (W1.alloc (.cells ⟨[a',b',c',d',e',f']⟩ T)) W1.heap.size 6 (L6 a' b' c' d' e' f'):=⟨six (by rw[zB];rfl) (by rw[zB];rfl) (by rw[zB];rfl) (by rw[zB];rfl) (by rw[zB];rfl) (by rw[zB];rfl),fun i _=>z3n _ _ _ _⟩
 have h4:=zd W1 (.cells ⟨[a',b',c',d',e',f']⟩ T)
 have h5:(W1.alloc (.cells ⟨[a',b',c',d',e',f']⟩ T)).heap.size= W1.heap.size+1:=by simp
 rw[hz] at h3 h5
 exact⟨h1.below h4 (by omega),⟨_,h3⟩,h2.trans (h4.mono (by omega)),Nat.le_refl _,by omega,by omega,by omega,by omega,by omega⟩
theorem z2a:(Tryz.prog.info? 52).map (fun i=>(i.zero,i.size,i.bytes))= some (some (.agg #[.int .i64 0,.int .i64 0,.float .f64 0,.string ⟨#[]⟩,.slice none 0 0,.slice none 0 0]),6,88):=by kernel_rfl
theorem zX {P:Program} {e:TypeId} {z:Option Value} {s b:Nat} (h:(P.info? e).map (fun i=>(i.zero,i.size,i.bytes))= some (z,s,b)):∃ i,P.info? e= some i/\i.zero= z/\i.size= s/\i.bytes= b:=by
 cases h2:P.info? e with
 |none=>rw[h2] at h;cases h
 |some i=>
  rw[h2] at h
  injection h with h
  injection h with h3 h4
  injection h4 with h4 h5
  exact⟨i,rfl,h3,h4,h5⟩
theorem z2o {α:Type} {P:Program} {ops:Array Oper} {rest:List Oper} {o:Oper} {a:Act} {w:World} {Q:Exit->Act->World->Prop} (hgd:o.guard= none) (s x:Operand) (t:TypeId) (ho:o.op= .call { callee:= .builtin .append,args:= #[s,x],argTypes:= #[t,t] })
  (base:Nat) (e:TypeId) (i:TypeInfo) (z:Value) (k bytes:Nat) (enc:α->List Value) (ht:P.underlying t= some (.slice e)) (hi:P.info? e= some i) (hz:i.zero= some z)
  (hsize:i.size= k) (hby:i.bytes= bytes) (hzs:z.cells.size= k) (hsz:0 < k) (hk:∀ x,(enc x).length= k)
  (v:Value) (l:List α) (hs:a.eval s= v) (hown:OwnSl e k enc w base v l) (nb c:Nat) (y:α) (h1:∀ u∈enc y,u.oneCell'= true) (hx:a.eval x= .slice (some ⟨nb,0,none⟩) 1 c)
  (hc:∀ j u,(enc y)[j]?= some u->w.cell? ⟨nb,j,none⟩= some u) (h63:l.length+1<=maxLen) (hbytes:(l.length+1) *bytes<=140737488355328) (hbase:base<=w.heap.size)
  (h:∀ v' w',OwnSl e k enc w' base v' (l ++ [y])->w.grownBy w' v.ownBlock->(v'.ownBlock= v.ownBlock\/v'.ownBlock= some w.heap.size)->wpList P ops Q rest (a.put o.dst v') w'):wpList P ops Q (o::rest) a w:=by
 obtain⟨v',w',hrun,k2,k3,_,k5⟩:=run_append_own_at (P:=P) w base t o.type e i z k bytes ht hi hz hsize hby hzs hsz v l.length (flat enc l) hown ⟨nb,0,none⟩ 1 c (enc y) (by rw[hk];omega)
  (fun j u hu=>by rw[Addr.add_mid,Nat.zero_add];exact hc j u hu) h1 h63 hbytes hbase
 refine wpList_plain hgd fun _ hK=> ?_
 unfold Oper.wp execOp
 simp only[ho,resolve,invoke,builtin,Sem.run_bind,Sem.run_pure,Result.andThen_ok,List.map_toArray,List.map_cons,List.map_nil,hs,hx,hrun]
 exact hK _ _ (h v' w' (by unfold OwnSl;rw[z6X,List.length_append];exact k2) k3 k5)
theorem z4K {α:Type} {T:TypeId} {k base:Nat} {enc:α->List Value} {w:World} {v:Value} {l:List α} (h:OwnSl T k enc w base v l):∃ A n c,v= .slice A n c:=by
 rcases h.2 with ⟨rfl,_⟩|⟨g,cap,cur,rfl,_⟩
 ·exact⟨_,_,_,rfl⟩
 ·exact⟨_,_,_,rfl⟩
theorem z6J:∀ (t:VT) (cs:List Value) (w:World),Fit t->ValAt w w.heap.size cs t->Calls Tryz.prog 132 #[.agg ⟨cs⟩] w (z6r t w):=by
 intro t
 induction t using VT.ind with
 |h k n f s ns its ih=>
  intro cs w hfit hv
  obtain⟨vn,vi,rfl,hk,hn,hf,hs,hns,hil,hi⟩:=hv.inv
  obtain⟨hft1,hft2,hft3⟩:=hfit.inv
  obtain⟨-,A,c,rfl,hA⟩:=hi
  obtain⟨-,An,cn,rfl, -⟩:=id hns
  have HA:=I hA
  have HNS:=I hns
  have HW:=I (And.intro hk (And.intro hn (And.intro hf (And.intro hs hil))))
  have HFN:=I hft1
  have IH:Hid (∀ x∈its,∀ cs w,ValAt w w.heap.size cs x->Calls Tryz.prog 132 #[.agg ⟨cs⟩] w (z6r x w)):=I fun x hx cs w h=>ih x hx cs w (hft3 x hx) h
  have HB88:Hid (its.length*88<=140737488351232):=I hft2
  have HLN:Hid (its.length<=9223372036854775807):=I (Nat.le_trans hil z0V)
  clear hA hv ih hfit hft1 hft2 hft3 hns hk hn hf hs hil
  go_enter Tryz.func132,Tryz.ntmps132
  go_upto_region 1 with (fail)
  have HST:=I (z8s w 52 (.int .i64 k) (.int .i64 n) (.float .f64 f) (.string s) (.slice An ns.length cn) (.slice A its.length c) (.int .i64 0) (.int .i64 0) (.float .f64 0) (.string ⟨#[]⟩) (.slice none 0 0) (.slice none 0 0))
  generalize ((w.alloc (.cells ⟨[.int .i64 k,.int .i64 n,.float .f64 f,.string s,.slice An ns.length cn,.slice A its.length c]⟩ 52)).alloc (.cells ⟨[.int .i64 0,.int .i64 0,.float .f64 0,.string ⟨#[]⟩,.slice none 0 0,.slice none 0 0]⟩ 52))= W at*
  have HM:Hid (w.heap.size<=w.heap.size+2):=I (by omega)
  obtain⟨m,hm⟩:∃ m,w.heap.size+2= m:=⟨_,rfl⟩
  obtain⟨q,hq⟩:∃ q,w.heap.size+1= q:=⟨_,rfl⟩
  obtain⟨p,hp⟩:∃ p,w.heap.size= p:=⟨_,rfl⟩
  rw[hm,hq] at HST
  rw[hm] at HM
  have HST':Hid (CanSt w W p q m (L6 (.int .i64 k) (.int .i64 n) (.float .f64 f) (.string s) (.slice An ns.length cn) (.slice A its.length c))):=I (hp▸HST.o)
  rw[hq,hp]
  clear HST hq hm hp
  have d2:W.cell? ⟨p,2,none⟩= some (.float .f64 f):=HST'.o.ra.c 2 (by omega)
  have f2:W.frozen? ⟨p,2,none⟩= false:=HST'.o.ra.fz 2 (by omega)
  go_upto_region 2 with (go_at_call 153;refine(z0e f _).mono ?_;rintro e z ⟨rfl,hzw⟩;obtain rfl:=hzw.symm;clear hzw)
  have HST2:Hid (CanSt w (W.setCell ⟨p,2,none⟩ (.float .f64 (zl f))) p q m (L6 (.int .i64 k) (.int .i64 n) (.float .f64 (zl f)) (.string s) (.slice An ns.length cn) (.slice A its.length c))):=I (HST'.o.put (by omega) (six rfl rfl rfl rfl rfl rfl))
  clear d2 f2 HST'
  generalize W.setCell ⟨p,2,none⟩ (.float .f64 (zl f))= W2 at*
  have d4:W2.cell? ⟨p,4,none⟩= some (.slice An ns.length cn):=HST2.o.ra.c 4 (by omega)
  have HCN:=I (z1l W2 (.slice An ns.length cn) ns ((HNS.o.below HST2.o.bel fun _ _ _ h=>h).more HST2.o.bel.size) HFN.o)
  go_upto_region 3 with (go_at_call 130;refine HCN.o.mono ?_;rintro e z ⟨v',rfl,hb,hk⟩;obtain⟨-,An',cn',rfl, -⟩:=id hk;have HST3:=I (HST2.o.below hb);have HKN:=I hk;have HBZ:=I hb;have e4:z.cell? ⟨p,4,none⟩= some (.slice An ns.length cn):=HST3.o.ra.c 4 (by omega);have f4:z.frozen? ⟨p,4,none⟩= false:=HST3.o.ra.fz 4 (by omega);clear hk hb d4)
  have HST4:Hid (CanSt w (z.setCell ⟨p,4,none⟩ (.slice An' ns.length cn')) p q m (L6 (.int .i64 k) (.int .i64 n) (.float .f64 (zl f)) (.string s) (.slice An' ns.length cn') (.slice A its.length c))):=I (HST3.o.put (by omega) (six rfl rfl rfl rfl rfl rfl))
  have HK3:Hid (KeptS (fun b=>W2.heap.size<=b) (z.setCell ⟨p,4,none⟩ (.slice An' ns.length cn')) (.slice An' ns.length cn') ns):=I (HKN.o.to (fun b hb hlt=>⟨hb,Below.heap_setCell z ⟨p,4,none⟩ _ b (by
   have h1:=HST2.o.mw
   have h2:=HST2.o.pm
   show b≠p
   omega)⟩) (by rw[z3u];exact Nat.le_refl _))
  have HSZ3:Hid (W2.heap.size<=(z.setCell ⟨p,4,none⟩ (.slice An' ns.length cn')).heap.size):=I (by rw[z3u];exact HBZ.o.size)
  have HM2:Hid (m<=W2.heap.size):=I HST2.o.mw
  clear HST2 HST3 HKN HBZ e4 f4 HCN HNS HFN
  generalize z.setCell ⟨p,4,none⟩ (.slice An' ns.length cn')= W3 at*
  have d5:W3.cell? ⟨p,5,none⟩= some (.slice A its.length c):=HST4.o.ra.c 5 (by omega)
  go_wp2
  clear d5
  go_loopg [3,17] its.length (fun g v i u=>∃ (j:Nat) (KL:List zW),j+g= its.length/\i= .int .i64 j/\CanInv 52 W3 u v its j KL)
  case atStart=>exact⟨0,[],by omega,rfl,CanInv.start _ _ _⟩
  case round=>
   obtain⟨j,KL,hj,rfl,hI⟩:=hrel
   have HI:=I hI
   clear hI
   obtain⟨Av,nv,cv,rfl⟩:=z4K HI.o.own
   cases gk with
   |zero=>
    have hge: ¬ ((j:Int) <(its.length:Int)):=by omega
    obtain rfl:j= its.length:=by omega
    have HST5:=I (HST4.o.below HI.o.bel)
    have g5:wr.cell? ⟨p,5,none⟩= some (.slice A its.length c):=HST5.o.ra.c 5 (by omega)
    have f5:wr.frozen? ⟨p,5,none⟩= false:=HST5.o.ra.fz 5 (by omega)
    go_upto_region 10 with (fail)
    have HST6:Hid (CanSt w (wr.setCell ⟨p,5,none⟩ (.slice Av nv cv)) p q m (L6 (.int .i64 k) (.int .i64 n) (.float .f64 (zl f)) (.string s) (.slice An' ns.length cn') (.slice Av nv cv))):=I (HST5.o.put (by omega) (six rfl rfl rfl rfl rfl rfl))
    have HP:Hid (∀ b,m<=b->(wr.setCell ⟨p,5,none⟩ (.slice Av nv cv)).heap[b]?= wr.heap[b]?):=I fun b hb=>Below.heap_setCell wr ⟨p,5,none⟩ _ b (by
     have:=HST5.o.pm
     show b≠p
     omega)
    have HPS:Hid ((wr.setCell ⟨p,5,none⟩ (.slice Av nv cv)).heap.size= wr.heap.size):=I (z3u _ _ _)
    clear g5 f5
    generalize wr.setCell ⟨p,5,none⟩ (.slice Av nv cv)= W9 at*
    have HR9:Hid (W9.rangeAt p 0 [.int .i64 k,.int .i64 n,.float .f64 (zl f),.string s,.slice An' ns.length cn',.slice Av nv cv]):=I fun i v hv=>by
     have h1:=(List.getElem?_eq_some_iff.1 hv).1
     have h2:=HST6.o.ra.c i h1
     rw[Nat.zero_add,h2]
     unfold L6
     rw[List.getD_eq_getElem?_getD,hv]
     rfl
    have HT9:Hid (W9.there q 0 6):=I fun i hi=>by
     obtain⟨z,hz⟩:=HST6.o.rb
     rw[Nat.zero_add,hz.c i hi,hz.fz i hi]
     exact⟨rfl,rfl⟩
    go_wp2_with (first|((with_reducible refine za 52 _ rfl ?_ p 0 [.int .i64 k,.int .i64 n,.float .f64 (zl f),.string s,.slice An' ns.length cn',.slice Av nv cv] _ rfl HR9.o Tryz.underlying52 rfl ?_ ?_);exact wA rfl;kernel_rfl)|((with_reducible refine z47 52 _ _ rfl ?hwg q 0 [.int .i64 k,.int .i64 n,.float .f64 (zl f),.string s,.slice An' ns.length cn',.slice Av nv cv] ?hxg ?hyg ?htg ?hig ?h1g ?_);(case hxg=>rfl);(case hyg=>rfl);(case htg=>exact HT9.o);(case hwg=>exact wA rfl);(case hig=>kernel_rfl);(case h1g=>exact zf2)))
    (try simp only[Exit.inBlock,Exit.then])
    refine bodyPost_ret (zi rfl Tryz.underlying52 rfl _ _ q [.int .i64 k,.int .i64 n,.float .f64 (zl f),.string s,.slice An' ns.length cn',.slice Av nv cv] (by kernel_rfl) rfl (World.rangeAt_setCells_same _ _ _ _ HT9.o)) rfl ?_
    refine⟨_,rfl,?_,?_⟩
    ·refine zaQ HW.o.1 HW.o.2.1 HW.o.2.2.1 HW.o.2.2.2.1 HW.o.2.2.2.2 HM2.o HSZ3.o HK3.o HI.o (fun b hb=> ?_) ?_ HM.o
     ·rw[z70 q b (by have:=HST5.o.qm;omega)]
      exact HP.o b hb
     ·rw[z6Q];exact HPS.o
    ·exact z39 HST6.o.bel HST6.o.wq _ 0
   |succ g=>
    have hlt:(j:Int) <(its.length:Int):=by omega
    have hln:its.length<=9223372036854775807:=HLN.o
    have HST5:=I (HST4.o.below HI.o.bel)
    obtain⟨y,hy⟩:∃ y,its[j]?= some y:=⟨_,List.getElem?_eq_getElem (by omega)⟩
    obtain⟨b,o,rfl,hbb,hc⟩:=HA.o (by omega)
    obtain⟨cs,hcl,hr,hR⟩:=hc j y hy
    have HR:=I (zc hr HST5.o.bel hbb)
    have HCL:=I hcl
    have HY:=I hy
    have HV:=I (hR.next HST5.o.bel)
    clear hc hr hR hy hcl
    go_upto_region 7 with (first|((with_reducible refine za 52 _ rfl ?_ b (o+j*6) cs _ rfl HR.o Tryz.underlying52 rfl ?_ ?_);exact wA rfl;rw[HCL.o];kernel_rfl)|((with_reducible refine zJ 52 _ _ rfl ?hw wr ?zn cs ?hwld ?hz ?hx ?hy ?hi ?h1 ?_);(case hwld=>rfl);(case hx=>rfl);(case hy=>rfl);(case hw=>exact wA rfl);(case hz=>exact HCL.o);(case hi=>rw[HCL.o];kernel_rfl);(case h1=>exact(zo HV.o).2);intro Z hbx;have HX:=I hbx;clear hbx))
    have HIY:=I (IH.o y (List.mem_of_getElem? HY.o) cs Z (HV.o.next HX.o.below))
    have HRZ:=I HX.o.range
    obtain⟨j0,hi,hz0,hz1,hz2⟩:=zX z2a
    have HJ0:=I hi
    have HY0:=I hz0
    have HY1:=I hz1
    have HY2:=I hz2
    clear hi hz0 hz1 hz2
    go_wp2_with (first|((with_reducible refine za 52 _ rfl ?_ wr.heap.size 0 cs _ rfl HRZ.o Tryz.underlying52 rfl ?_ ?_);exact wA rfl;rw[HCL.o];kernel_rfl)|(go_at_call 132;fail))
    refine HIY.o.mono ?_
    rintro e u6 ⟨cs',rfl,hk6,hb6⟩
    obtain⟨hl6,ho6⟩:=zo hk6.val
    have HK6:=I hk6
    have HB6:=I hb6
    have HL6:=I hl6
    have HO6:=I ho6
    clear hk6 hb6 hl6 ho6 HIY HRZ HR
    have HC7:Hid (∀ i u,(enc6 ⟨cs',HL6.o⟩)[i]?= some u->(u6.alloc (.cells ⟨cs'⟩ 52)).cell? ⟨u6.heap.size,i,none⟩= some u):=I (z16 u6 cs' 52)
    have HB7:=I (zd u6 (.cells ⟨cs'⟩ 52))
    have HS7:Hid (W3.heap.size<=(u6.alloc (.cells ⟨cs'⟩ 52)).heap.size):=I (Nat.le_trans HI.o.bel.size (Nat.le_trans HX.o.below.size (Nat.le_trans HB6.o.size HB7.o.size)))
    have HOW:Hid (OwnSl 52 6 enc6 (u6.alloc (.cells ⟨cs'⟩ 52)) W3.heap.size (.slice Av nv cv) KL):=I (HI.o.own.below (HX.o.below.trans ((HB6.o.trans (HB7.o.mono HB6.o.size)).mono HX.o.below.size)))
    have HM63:Hid (KL.length+1<=maxLen):=I (by have:=HI.o.len;have:=HB88.o;unfold maxLen;omega)
    have HM88:Hid ((KL.length+1) *88<=140737488355328):=I (by have:=HI.o.len;have:=HB88.o;omega)
    go_wp2_with (first|((with_reducible refine z1u 50 _ rfl ?_ 52 j0 _ cs' ?_ Tryz.underlying50 HJ0.o HY0.o ?_ ?_ ?_ ?_);exact wA rfl;rfl;rw[HL6.o];exact HY1.o;rw[HL6.o];decide;rw[HL6.o];decide)|(at_builtin;(refine z2o rfl _ _ 50 rfl W3.heap.size 52 j0 _ 6 88 enc6 Tryz.underlying50 HJ0.o HY0.o HY1.o HY2.o rfl (by decide) z0N (.slice Av nv cv) KL rfl HOW.o u6.heap.size 1 ⟨cs',HL6.o⟩ HO6.o rfl HC7.o HM63.o HM88.o HS7.o ?_;intro v' u8 hown hg hblk;have HN:=I (HI.o.next HX.o.below HB6.o HB7.o HY.o HK6.o hown hg hblk);clear hown hg hblk)))
    go_roundg g
    case measure=>omega
    case rel=>exact⟨j+1,_,by omega,by go_num,HN.o⟩
end
end Go.Proofs.YtdjfpcmlffekkaaGreatDoor
