/- Parts of a proof: Awake10, Zero10, Const10, TypK, Awk10, Law10K, Law10G, Two10, JoinP, RJoin. -/
import Derived.Deep.DeepCutAuto
import Derived.Test.YtmpbepjjbaeebaaGreatDoorPackS5
import Derived.Test.YtmpbepjjbaeebaaGreatDoorPackS7
import Derived.Test.YtmpbepjjbaeebaaGreatDoorPackS11
import Derived.Test.YtmpbepjjbaeebaaGreatDoorPackS21
import Derived.Test.YtmpbepjjbaeebaaGreatDoorPackS24
import Derived.Test.YtmpbepjjbaeebaaGreatDoorPackS35
import Derived.Test.YtmpbepjjbaeebaaGreatDoorPackS38
set_option maxHeartbeats 8000000
set_option maxRecDepth 100000
set_option linter.unusedVariables false
set_option linter.unusedSimpArgs false
namespace Go.Proofs.YtmpbepjjbaeebaaGreatDoor
section
open Go Go.RowKit
def EvC (r:Res) (w:World) (e:Ending) (w':World):Prop:=
 ∃ cs,e= .returned (.tuple #[.agg ⟨cs⟩,.int .i64 (resV r).2])/\Kept (fun b=>w.heap.size<=b) w' cs (resV r).1/\(∀ v,r= .ok v->zp v= true)/\Below w.heap.size w w'
theorem ev_c {r:Res} {w:World} {e:Ending} {w':World} (h:EvTop r w e w'):EvC r w e w':=by
 rcases h with ⟨v,cs,rfl,rfl,h1,h2,h3⟩|⟨n,rfl,rfl,h3⟩
 ·exact⟨cs,rfl,h1,fun u hu=>by injection hu with hu;subst hu;exact h2,h3⟩
 ·exact⟨zV6,rfl,ValAt.of (zf 0 (by decide +kernel)) (zf 0 (by decide +kernel)) (by decide +kernel) (Nat.zero_le _) (SlAt.nil _ _ _ _) (Nat.zero_le _) (SlAt.nil _ _ _ _),(fun u hu=>by cases hu),h3⟩
theorem zaZ (t:ET) (E:List VarT) (V:List VT) (cs:List Value) (va vb:Value) (w:World) (hx:ExpAt w w.heap.size cs t) (hE:SlAt w w.heap.size 11 (VarAt w w.heap.size) va E) (hV:SlAt w w.heap.size 6 (ValAt w w.heap.size) vb V) (hEl:E.length<=10000) (hVl:V.length<=10000) (htb:TabP w):
  Calls Tryz.prog 14 #[.agg ⟨cs⟩,va,vb] w (EvC (evalT t E V) w):=(zcG t E V cs va vb w hx hE hV hEl hVl htb).mono fun _ _ h=>ev_c h
theorem z7N {α:Type} {w:World} {B k b:Nat} {R:List Value->α->Prop} {x:α} {cs:List Value} (hl:cs.length= k) (hr:w.rangeAt b 0 cs) (h:R cs x) (hb:b < B):SlAt w B k R (.slice (some ⟨b,0,none⟩) 1 1) [x]:=
 ⟨by show 1<=_;decide,_,_,rfl,fun _=>⟨b,0,rfl,hb,fun i y hy=>by
  have hi:=(List.getElem?_eq_some_iff.1 hy).1
  simp only[List.length_singleton] at hi
  have:i= 0:=by omega
  subst this
  obtain rfl:x= y:=by simpa using hy
  exact⟨cs,hl,by rw[Nat.zero_mul];exact hr,h⟩⟩⟩
theorem zes (w:World) (B:Nat):ValAt w B zV6 v0:=ValAt.of (zf 0 (by decide +kernel)) (zf 0 (by decide +kernel)) (by decide +kernel) (Nat.zero_le _) (SlAt.nil _ _ _ _) (Nat.zero_le _) (SlAt.nil _ _ _ _)
def nmV (s:ByteArray):VarT:=⟨s,0,.mk 0 [] [],v0⟩
def nmVC (s:ByteArray):List Value:=[.string s,.int .i64 0,.int .i64 0,.slice none 0 0,.slice none 0 0,.int .i64 0,.int .i64 0,.float .f64 0,.string ⟨#[]⟩,.slice none 0 0,.slice none 0 0]
theorem zeg (s:ByteArray) (hs:s.size<=maxLen) (w:World) (B:Nat):VarAt w B (nmVC s) (nmV s):=
 ⟨⟨[.int .i64 0,.slice none 0 0,.slice none 0 0],zV6,rfl,rfl,rfl,TypAt.of (zf 0 (by decide +kernel)) (SlAt.nil _ _ _ _) (Nat.zero_le _) (SlAt.nil _ _ _ _),zes w B⟩,hs,zf 0 (by decide +kernel)⟩
def intVC (n:Int):List Value:=[.int .i64 2,.int .i64 n,.float .f64 0,.string ⟨#[]⟩,.slice none 0 0,.slice none 0 0]
theorem zd8 (n:Int) (hn:wfI n) (w:World) (B:Nat):ValAt w B (intVC n) (.mk 2 n 0 ⟨#[]⟩ [] []):=ValAt.of (zf 2 (by decide +kernel)) hn (by decide +kernel) (Nat.zero_le _) (SlAt.nil _ _ _ _) (Nat.zero_le _) (SlAt.nil _ _ _ _)
theorem zaD:(Tryz.prog.info? 47).map (fun i=>(i.zero,i.size,i.bytes))= some (some (.agg (nmVC ⟨#[]⟩).toArray),11,168):=by kernel_rfl
theorem z90 {fn:Func} {p u:Tmp} (h:fn.results= #[.cell p 26,.tmp u]) (tmps:Array Value) (w:World) (g:Nat) (cs:List Value) (hl:cs.length= 6) (x:Value)
  (hp:tmps.getD p undef= .pointer (some ⟨g,0,none⟩)) (hm:Whole 26 w g cs) (hu:tmps.getD u undef= x):(results fn tmps).run Tryz.prog w= .ok (.tuple #[.agg ⟨cs⟩,x]) w:=by
 have hp':tmps[p]?.getD undef= .pointer (some ⟨g,0,none⟩):=by simpa using hp
 have hu':tmps[u]?.getD undef= x:=by simpa using hu
 have hl:=run_loadVar_mid (P:=Tryz.prog) w g 0 26 cs _ hm.range Tryz.underlying26 rfl (by rw[hl];kernel_rfl)
 simp[results,h,hp',hu',asAddr,hl]
def xE:List VarT:=[nmV ⟨#[120]⟩]
def sevE:List VT:=[.mk 2 7 0 ⟨#[]⟩ [] []]
def z29 (s:ByteArray) (r:VT × Int):Prop:=∀ w,TabP w->Calls Tryz.prog 34 #[.string s] w fun e w'=>∃ cs,e= .returned (.tuple #[.agg ⟨cs⟩,.int .i64 r.2])/\ValAt w' w'.heap.size cs r.1/\Below w.heap.size w w'
theorem z2D (s:ByteArray) (t:ET) (hp:∀ w,Calls Tryz.prog 57 #[.string s] w fun e w'=>∃ cs,e= .returned (.tuple #[.agg ⟨cs⟩,.int .i64 0,.int .i64 0])/\KeptP (fun b=>w.heap.size<=b) w' cs t/\Below w.heap.size w w'):z29 s (resV (evalT t xE sevE)):=fun w htb=>by
 have HP:=I hp
 have HTB:=I htb
 obtain⟨j1,hi,hz0,hz1,hz2⟩:=zT zaD
 have HI1:=I hi
 have HZ1:=I hz0
 have HS1:=I hz1
 clear hi hz0 hz1 hz2
 obtain⟨j2,hi,hz0,hz1,hz2⟩:=zT z1l
 have HI2:=I hi
 have HZ2:=I hz0
 have HS2:=I hz1
 clear hi hz0 hz1 hz2 hp htb
 go_enter Tryz.func34,Tryz.ntmps34
 go_upto_region 1 with (fail)
 have HB0:=I (zd w (.cells zV6.toArray 26))
 have HW0:=I (Whole.new w zV6 26)
 rw[z0v]
 generalize w.alloc (.cells zV6.toArray 26)= W at*
 have HPW:=I (HP.o W)
 go_upto_region 2 with (first|(go_at_call 57;refine HPW.o.mono ?_;rintro e z ⟨cs,rfl,hv,hb⟩;have HKL:=I (eslen hv.exp);have HON:=I hv.exp.one;have HV:=I hv;have HB1:=I hb;clear hv hb)|((with_reducible refine zR 29 _ _ rfl ?hwx z ?zz cs ?hwld ?hz ?hx ?hy ?hi ?h1 ?_);(case hwld=>rfl);(case hx=>rfl);(case hy=>rfl);(case hwx=>(exact wA rfl));(case hz=>rw[HKL.o];rfl);(case hi=>rw[HKL.o];kernel_rfl);(case h1=>exact HON.o);intro Z hZ;have HX:=I hZ;clear hZ))
 have HRZ:=I HX.o.range
 have HBZ:Hid (Below w.heap.size w Z):=I ((HB0.o.trans (HB1.o.mono HB0.o.size)).trans (HX.o.below.mono (Nat.le_trans HB0.o.size HB1.o.size)))
 have HW1:Hid (Whole 26 Z w.heap.size zV6):=I ((HW0.o.keep (HB1.o.block _ HW0.o.lt)).keep (HX.o.below.block _ (Nat.lt_of_lt_of_le HW0.o.lt HB1.o.size)))
 have hb1:=zd Z (.cells (nmVC ⟨#[120]⟩).toArray 47)
 have hw1:=Whole.new Z (nmVC ⟨#[120]⟩) 47
 have hs1:(Z.alloc (.cells (nmVC ⟨#[120]⟩).toArray 47)).heap.size= Z.heap.size+1:=by simp
 have hb2:=zd (Z.alloc (.cells (nmVC ⟨#[120]⟩).toArray 47)) (.cells (intVC 7).toArray 26)
 have hw2:=Whole.new (Z.alloc (.cells (nmVC ⟨#[120]⟩).toArray 47)) (intVC 7) 26
 have hs2:((Z.alloc (.cells (nmVC ⟨#[120]⟩).toArray 47)).alloc (.cells (intVC 7).toArray 26)).heap.size= Z.heap.size+1+1:=by simp
 have hb12:Below Z.heap.size Z _:=hb1.trans (hb2.mono (by omega))
 rw[hs1] at hw2
 have hv1:=hw1.keep (hb2.block _ (by omega))
 have HB12:=I hb12
 have HXT:Hid (ExpAt Z Z.heap.size cs t):=I ((HV.o.to (q:=fun _=>True) (fun b _ hlt=>⟨trivial,HX.o.below.block b hlt⟩) HX.o.below.size).exp)
 have HEV:=I (zaZ t xE sevE cs (.slice (some ⟨Z.heap.size,0,none⟩) 1 1) (.slice (some ⟨Z.heap.size+1,0,none⟩) 1 1) _ ((HXT.o.under hb12).more hb12.size)
  (z7N rfl hv1.range (zeg ⟨#[120]⟩ (by decide +kernel) _ _) (by omega)) (z7N rfl hw2.range (zd8 7 (zf 7 (by decide +kernel)) _ _) (by omega)) (by decide) (by decide) (HTB.o.next (HBZ.o.trans (hb12.mono HBZ.o.size))))
 clear hb1 hw1 hs1 hb2 hw2 hs2 hb12 hv1
 go_wp2_with (first|((with_reducible refine za 29 _ rfl ?_ z.heap.size 0 cs _ rfl HRZ.o Tryz.underlying29 rfl ?_ ?_);(exact wA rfl);rw[HKL.o];kernel_rfl)|((with_reducible refine z0M 30 _ rfl ?_ 47 j1 _ (nmVC ⟨#[120]⟩) ?_ Tryz.underlying30 HI1.o HZ1.o ?_ ?_ ?_ ?_);(exact wA rfl);rfl;exact HS1.o;decide;decide)|((with_reducible refine z0M 24 _ rfl ?_ 26 j2 _ (intVC 7) ?_ Tryz.underlying24 HI2.o HZ2.o ?_ ?_ ?_ ?_);(exact wA rfl);rfl;exact HS2.o;decide;decide)|(go_at_call 14;refine HEV.o.mono ?_;rintro e y ⟨cs',rfl,hk,hr,hb⟩;have HCL:=I (zj hk.val).1;have HOV:=I (zj hk.val).2;have HK:=I hk;have HBY:=I (HB12.o.trans (hb.mono HB12.o.size));have HWY:=I (HW1.o.keep (HBY.o.block _ HW1.o.lt));clear hk hr hb)|((with_reducible refine ze 26 _ _ rfl rfl ?_ w.heap.size zV6 cs' HWY.o ?_ ?_ ?_ ?_ ?_ ?_);(exact wA rfl);rw[HCL.o];rfl;rfl;rfl;rw[HCL.o];kernel_rfl;exact HOV.o;intro Z2 hZw hZb;have HZW:=I hZw;have HZB:=I hZb;clear hZw hZb))
 (try simp only[Exit.inBlock,Exit.then])
 refine bodyPost_ret (z90 rfl _ _ w.heap.size cs' HCL.o _ rfl HZW.o rfl) rfl ?_
 have hB:=HBZ.o.trans (HBY.o.mono HBZ.o.size)
 have hlt:=HW1.o.lt
 refine⟨cs',rfl,?_,⟨HZB.o.os.trans hB.os,HZB.o.tape.trans hB.tape,HZB.o.output.trans hB.output,Nat.le_trans hB.size HZB.o.size,fun b hb=>(HZB.o.block b (by have:=hB.size;omega) (by omega) (by omega)).trans (hB.block b hb)⟩⟩
 exact(HK.o.to (q:=fun _=>True) (fun b hp hlt2=>⟨trivial,HZB.o.block b hlt2 (by have h3:=HB12.o.size;have h4:=Nat.le_trans h3 hp;omega) (by have h3:=HB12.o.size;have h4:=Nat.le_trans h3 hp;omega)⟩) HZB.o.size).val
end
section
open Go Go.RowKit
theorem Whole.putM {T:TypeId} {w:World} {b:Nat} {pre post:List Value} {v0 v:Value} (h:Whole T w b (pre ++ v0::post)):Whole T (w.setCell ⟨b,pre.length,none⟩ v) b (pre ++ v::post):=by
 show(w.heap.modify b _)[b]?= _
 rw[Array.getElem?_modify,if_pos rfl,(show w.heap[b]?= _ from h)]
 simp
theorem zaY:(Tryz.prog.info? 9).map (fun i=>(i.zero,i.size,i.bytes))= some (some (.string ⟨#[]⟩),1,16):=by kernel_rfl
end
section
open Go Go.RowKit
theorem z7r:∀ (l:List TT) (m:Nat),(∀ x∈l,∀ n,n < 500->n < cntT x n)->m<=200->cntTL l m<=200->m+l.length<=200/\∀ x∈l,∃ n,n<=200/\cntT x n<=200
 |[],m,_,h,_=>⟨by simpa using h,fun x hx=>by cases hx⟩
 |a::l,m,hx,hm,h=>by
  rw[cntTL,if_neg (by omega)] at h
  have h1:=hx a (by simp) m (by omega)
  have h2:cntT a m<=200:=by
   rcases Nat.lt_or_ge 200 (cntT a m) with h3|h3
   ·exfalso
    have key:∀ (l:List TT) (k:Nat),(∀ x∈l,∀ n,n < 500->n < cntT x n)->200 < k->200 < cntTL l k:=by
     intro l
     induction l with
     |nil=>intro k _ hk;rw[cntTL];exact hk
     |cons b r ih=>
      intro k hb hk
      rw[cntTL]
      split
      ·exact hk
      ·exact ih _ (fun x hx=>hb x (List.mem_cons_of_mem _ hx)) (by have:=hb b (by simp) k (by omega);omega)
    have:=key l _ (fun x hxx=>hx x (List.mem_cons_of_mem _ hxx)) h3
    omega
   ·exact h3
  obtain⟨h3,h4⟩:=z7r l (cntT a m) (fun x hxx=>hx x (List.mem_cons_of_mem _ hxx)) h2 h
  refine⟨by rw[List.length_cons];omega,fun x hxx=> ?_⟩
  rcases List.mem_cons.1 hxx with rfl|hxx
  ·exact⟨m,hm,h2⟩
  ·exact h4 x hxx
theorem z8E (t:TT):∀ n,n < 500->n < cntT t n:=by
 induction t using TT.ind with
 |h k ns its ih=>
  intro n hn
  rw[cntT]
  have key:∀ (l:List TT) (m:Nat),(∀ x∈l,∀ n,n < 500->n < cntT x n)->m<=cntTL l m:=by
   intro l
   induction l with
   |nil=>intro m _;rw[cntTL];exact Nat.le_refl _
   |cons a l ihl=>
    intro m hx
    rw[cntTL]
    split
    ·exact Nat.le_refl _
    ·have h1:=hx a (by simp) m (by omega)
     have h2:=ihl (cntT a m) fun x hxx=>hx x (List.mem_cons_of_mem _ hxx)
     omega
  have:=key its (n+1) ih
  omega
end
section
open Go Go.RowKit
def KeptT (p:Nat->Prop) (w:World) (cs:List Value) (t:TT):Prop:=TypAt (only w p) w.heap.size cs t
theorem TypAt.cells {w w':World} {B:Nat} {cs:List Value} {t:TT} (h:TypAt w B cs t) (hb:∀ a v,w.cell? a= some v->w'.cell? a= some v):TypAt w' B cs t:=by
 induction h with
 |mk b o css hk hns hl hA hc hi ih=>
  refine .mk b o css hk ?_ hl hA (fun i h=>⟨(hc i h).1,fun j v hv=>hb _ _ ((hc i h).2 j v hv)⟩) ih
  obtain⟨h0,A,c,rfl,h1⟩:=hns
  refine⟨h0,A,c,rfl,fun hp=> ?_⟩
  obtain⟨b,o,rfl,hlt,h2⟩:=h1 hp
  refine⟨b,o,rfl,hlt,fun i x hx=> ?_⟩
  obtain⟨cs,h3,h4,h5⟩:=h2 i x hx
  exact⟨cs,h3,fun j v hv=>hb _ _ (h4 j v hv),h5⟩
theorem KeptT.typ {p:Nat->Prop} {w:World} {cs:List Value} {t:TT} (h:KeptT p w cs t):TypAt w w.heap.size cs t:=TypAt.cells h fun a v hv=>(zu.1 hv).2
theorem z3w {p q:Nat->Prop} {w w':World} (hb:∀ b,p b->b < w.heap.size->q b/\w'.heap[b]?= w.heap[b]?):∀ a v,(only w p).cell? a= some v->(only w' q).cell? a= some v:=fun a v hv=>by
 obtain⟨h1,h2⟩:=zu.1 hv
 have hlt:a.block < w.heap.size:=by
  rcases Nat.lt_or_ge a.block w.heap.size with h|h
  ·exact h
  ·unfold World.cell? at h2;rw[Array.getElem?_eq_none h] at h2;cases h2
 obtain⟨h3,h4⟩:=hb a.block h1 hlt
 exact zu.2 ⟨h3,(World.cell?_of_block h4).trans h2⟩
theorem KeptT.to {p q:Nat->Prop} {w w':World} {cs:List Value} {t:TT} (h:KeptT p w cs t) (hb:∀ b,p b->b < w.heap.size->q b/\w'.heap[b]?= w.heap[b]?) (hs:w.heap.size<=w'.heap.size):KeptT q w' cs t:=
 (TypAt.cells h (z3w hb)).more hs
theorem KeptT.all {w:World} {cs:List Value} {t:TT} (h:TypAt w w.heap.size cs t):KeptT (fun _=>True) w cs t:=TypAt.cells h fun a v hv=>zu.2 ⟨trivial,hv⟩
abbrev z0W:= { cs:List Value // cs.length= 3 }
def enc3 (k:z0W):List Value:=k.1
theorem z3u (k:z0W):(enc3 k).length= 3:=k.2
structure RowT (p:Nat->Prop) (B:Nat) (u:World) (v:Value) (vs:List TT) (KL:List z0W):Prop where
 own:OwnSl 45 3 enc3 u B v KL
 len:KL.length= vs.length
 sz:B<=u.heap.size
 els:∀ (j:Nat) k x,KL[j]?= some k->vs[j]?= some x->KeptT (fun b=>(p b\/B<=b)/\some b≠v.ownBlock) u k.1 x
theorem RowT.start (p:Nat->Prop) {B:Nat} {u:World} (h:B<=u.heap.size):RowT p B u (.slice none 0 0) [] []:=⟨OwnSl.nil _ _,rfl,h,fun j k x hk _=>by cases hk⟩
theorem RowT.next {p:Nat->Prop} {B:Nat} {u u6 u7 u8:World} {v v':Value} {vs:List TT} {KL:List z0W} (h:RowT p B u v vs KL) (hpB:∀ b,p b->b < B) (h6:Below u.heap.size u u6) (h7:Below u6.heap.size u6 u7) {k:z0W} {x:TT}
  (hk:KeptT (fun b=>p b\/u.heap.size<=b) u6 k.1 x) (hown:OwnSl 45 3 enc3 u8 B v' (KL ++ [k])) (hg:u7.grownBy u8 v.ownBlock) (hb:v'.ownBlock= v.ownBlock\/v'.ownBlock= some u7.heap.size):
  RowT p B u8 v' (vs ++ [x]) (KL ++ [k]):=by
 have h57:=h6.trans (h7.mono h6.size)
 have hsz:=h.sz
 have hblk:∀ b,b < u.heap.size->some b≠v.ownBlock->some b≠v'.ownBlock/\u8.heap[b]?= u.heap[b]?:=fun b hlt hne=>by
  have e1:=h57.block b hlt
  have e2:=hg.block b (Nat.lt_of_lt_of_le hlt h57.size) hne
  refine⟨?_,e2.trans e1⟩
  rcases hb with hb|hb
  ·rw[hb];exact hne
  ·rw[hb]
   intro e
   injection e with e
   have:=h57.size
   omega
 have hnew:∀ b,(p b\/u.heap.size<=b)->b < u6.heap.size->some b≠v'.ownBlock/\u8.heap[b]?= u6.heap[b]?:=fun b hge hlt=>by
  have hne:some b≠v.ownBlock:=fun e=>by
   have h1:=z0B h.own e.symm
   have h2:=h.own.block e.symm
   rcases hge with hp|hge
   ·have:=hpB b hp;omega
   ·omega
  have e1:=h7.block b hlt
  have e2:=hg.block b (Nat.lt_of_lt_of_le hlt h7.size) hne
  refine⟨?_,e2.trans e1⟩
  rcases hb with hb|hb
  ·rw[hb];exact hne
  ·rw[hb]
   intro e
   injection e with e
   have:=h7.size
   omega
 refine⟨hown,by rw[List.length_append,List.length_append,h.len];rfl,?_,fun j k' y hk' hy=> ?_⟩
 ·have:=hg.size
  have:=h57.size
  omega
 ·rcases Nat.lt_or_ge j KL.length with hj|hj
  ·rw[List.getElem?_append_left hj] at hk'
   rw[List.getElem?_append_left (by rw[← h.len];exact hj)] at hy
   refine(h.els j k' y hk' hy).to (fun b hp hlt=>⟨⟨hp.1,(hblk b hlt hp.2).1⟩,(hblk b hlt hp.2).2⟩) ?_
   have:=hg.size
   have:=h57.size
   omega
  ·rw[List.getElem?_append_right hj] at hk'
   have hj2:j= KL.length:=by
    have:=(List.getElem?_eq_some_iff.1 hk').1
    simp only[List.length_singleton] at this
    omega
   rw[hj2,Nat.sub_self] at hk'
   injection hk' with hk'
   subst hk'
   have e:y= x:=by
    rw[hj2,h.len,List.getElem?_append_right (Nat.le_refl _),Nat.sub_self] at hy
    injection hy with hy
    exact hy.symm
   subst e
   refine hk.to (fun b hp hlt=>⟨⟨hp.imp id fun h=>by omega,(hnew b hp hlt).1⟩,(hnew b hp hlt).2⟩) ?_
   have:=hg.size
   have:=h7.size
   omega
theorem RowT.store {p:Nat->Prop} {B q:Nat} {u u':World} {v:Value} {vs:List TT} {KL:List z0W} (h:RowT p B u v vs KL) (hb:But u u' q q) (hq:q < B) (hpq: ¬ p q):RowT p B u' v vs KL:=by
 refine⟨World.ownsRow.kept h.own (row:=some q) ⟨hb.os,hb.tape,hb.output,hb.size,fun i hi hne=>hb.block i hi (fun e=>hne (by rw[e])) (fun e=>hne (by rw[e]))⟩ ?_,h.len,Nat.le_trans h.sz hb.size,fun j k x hk hx=> ?_⟩
 ·exact .inr fun e=>by have:=h.own.block e;omega
 ·refine(h.els j k x hk hx).to (fun b hq2 hlt=> ?_) hb.size
  have hne:b≠q:=fun e=>by
   subst e
   rcases hq2.1 with h|h
   ·exact hpq h
   ·omega
  exact⟨hq2,hb.block b hlt hne hne⟩
theorem RowT.below {p:Nat->Prop} {B:Nat} {u u':World} {v:Value} {vs:List TT} {KL:List z0W} (h:RowT p B u v vs KL) (hb:Below u.heap.size u u'):RowT p B u' v vs KL:=
 ⟨h.own.below hb,h.len,Nat.le_trans h.sz hb.size,fun j k x hk hx=>(h.els j k x hk hx).to (fun b hq hlt=>⟨hq,hb.block b hlt⟩) hb.size⟩
theorem RowT.row {p q:Nat->Prop} {B:Nat} {u u':World} {v:Value} {vs:List TT} {KL:List z0W} (h:RowT p B u v vs KL) (hl:vs.length<=maxLen) (hk:∀ b,(p b\/B<=b)->b < u.heap.size->q b/\u'.heap[b]?= u.heap[b]?) (hs:u.heap.size<=u'.heap.size):
  SlAt (only u' q) u'.heap.size 3 (TypAt (only u' q) u'.heap.size) v vs:=by
 refine⟨Nat.le_trans hl z0X,?_⟩
 rcases h.own.2 with ⟨rfl,h0⟩|⟨g,cap,cur,hv,hg,_,_⟩
 ·rw[h.len] at h0
  exact⟨none,0,by rw[← h0],fun h1=>by omega⟩
 ·refine⟨some ⟨g,0,none⟩,cap,by rw[hv,h.len],fun _=> ?_⟩
  have hown:v.ownBlock= some g:=by rw[hv];rfl
  have hlt:=z0B h.own hown
  refine⟨g,0,rfl,by omega,fun i x hx=> ?_⟩
  have hi:=(List.getElem?_eq_some_iff.1 hx).1
  have hki:KL[i]?= some (KL[i]'(by rw[h.len];exact hi)):=List.getElem?_eq_getElem _
  refine⟨_,(KL[i]'(by rw[h.len];exact hi)).2,fun j c hc=> ?_,?_⟩
  ·refine zu.2 ⟨(hk g (.inr hg) hlt).1,?_⟩
   refine(World.cell?_of_block (a:=⟨g,_,none⟩) (hk g (.inr hg) hlt).2).trans ?_
   have:=World.ownsRow.cells h.own hown (i*3+j) c (z0K z3u KL i _ hki j c hc)
   rw[Addr.add_mid] at this
   rw[show 0+i*3+j= 0+ (i*3+j) by omega];exact this
  ·exact(h.els i _ x hki hx).to (fun b hp hb=>hk b hp.1 hb) hs
def tyC (k:Int) (vn vi:Value):List Value:=[.int .i64 k,vn,vi]
def zT3:List Value:=tyC 0 (.slice none 0 0) (.slice none 0 0)
theorem zx (k:Int) (A B:Option Addr) (a b c d:Nat):∀ v∈tyC k (.slice A a b) (.slice B c d),v.oneCell'= true:=by
 intro v hv
 simp only[tyC,List.mem_cons,List.not_mem_nil,or_false] at hv
 rcases hv with rfl|rfl|rfl<;>rfl
theorem zJ {p:Nat->Prop} {w:World} {k:Int} (hk:wfI k):KeptT p w (tyC k (.slice none 0 0) (.slice none 0 0)) (pT k):=TypAt.of hk (SlAt.nil _ _ _ _) (Nat.zero_le _) (SlAt.nil _ _ _ _)
theorem z5e {p:Nat->Prop} {w:World} {k:Int} {vn vi:Value} {ns:List ByteArray} {its:List TT} (hk:wfI k) (hn:KeptS p w vn ns) (hl:its.length<=maxLen) (hi:SlAt (only w p) w.heap.size 3 (TypAt (only w p) w.heap.size) vi its):KeptT p w (tyC k vn vi) (.mk k ns its):=TypAt.of hk hn hl hi
theorem z9n {fn:Func} {p:Tmp} (h:fn.results= #[.cell p 45]) (tmps:Array Value) (w:World) (g:Nat) (cs:List Value) (hl:cs.length= 3)
  (hp:tmps.getD p undef= .pointer (some ⟨g,0,none⟩)) (hm:Whole 45 w g cs):(results fn tmps).run Tryz.prog w= .ok (.agg ⟨cs⟩) w:=by
 have hp':tmps[p]?.getD undef= .pointer (some ⟨g,0,none⟩):=by simpa using hp
 have hl:=run_loadVar_mid (P:=Tryz.prog) w g 0 45 cs _ hm.range Tryz.underlying45 rfl (by rw[hl];kernel_rfl)
 simp[results,h,hp',asAddr,hl]
theorem zi {fn:Func} {p u:Tmp} (h:fn.results= #[.cell p 45,.tmp u]) (tmps:Array Value) (w:World) (g:Nat) (cs:List Value) (hl:cs.length= 3) (x:Value)
  (hp:tmps.getD p undef= .pointer (some ⟨g,0,none⟩)) (hm:Whole 45 w g cs) (hu:tmps.getD u undef= x):(results fn tmps).run Tryz.prog w= .ok (.tuple #[.agg ⟨cs⟩,x]) w:=by
 have hp':tmps[p]?.getD undef= .pointer (some ⟨g,0,none⟩):=by simpa using hp
 have hu':tmps[u]?.getD undef= x:=by simpa using hu
 have hl:=run_loadVar_mid (P:=Tryz.prog) w g 0 45 cs _ hm.range Tryz.underlying45 rfl (by rw[hl];kernel_rfl)
 simp[results,h,hp',hu',asAddr,hl]
theorem z2G:(Tryz.prog.info? 45).map (fun i=>(i.zero,i.size,i.bytes))= some (some (.agg zT3.toArray),3,56):=by kernel_rfl
end
section
open Go Go.RowKit
theorem r_sum:resV (evalT z4e xE sevE)=(.mk 1 1 0 ⟨#[]⟩ [] [],0):=by kernel_rfl
theorem zbZ:z29 z0C (.mk 1 1 0 ⟨#[]⟩ [] [],0):=by
 have h:=z2D z0C z4e (fun w=>z1D z0C z7T z4e 2 (by decide +kernel) ze0 (by decide) (by decide) (fun pb tb c=>zdV pb tb c _) (by decide) zdX w)
 rw[r_sum] at h
 exact h
theorem r_nan:resV (evalT z3K xE sevE)=(.mk 1 0 0 ⟨#[]⟩ [] [],0):=by kernel_rfl
theorem zcB:z29 z14 (.mk 1 0 0 ⟨#[]⟩ [] [],0):=by
 have h:=z2D z14 z3K (fun w=>z1D z14 z73 z3K 2 (by decide +kernel) zen (by decide) (by decide) (fun pb tb c=>zdF pb tb c _) (by decide) ze4 w)
 rw[r_nan] at h
 exact h
theorem r_big:resV (evalT z3S xE sevE)=(.mk 0 0 0 ⟨#[]⟩ [] [],7):=by kernel_rfl
theorem zcA:z29 z26 (.mk 0 0 0 ⟨#[]⟩ [] [],7):=by
 have h:=z2D z26 z3S (fun w=>z1D z26 z7y z3S 2 (by decide +kernel) zem (by decide) (by decide) (fun pb tb c=>zdP pb tb c _) (by decide) zek w)
 rw[r_big] at h
 exact h
theorem r_cor:resV (evalT z3U xE sevE)=(.mk 1 1 0 ⟨#[]⟩ [] [],0):=by kernel_rfl
theorem zcr:z29 z1s (.mk 1 1 0 ⟨#[]⟩ [] [],0):=by
 have h:=z2D z1s z3U (fun w=>z1D z1s z7p z3U 2 (by decide +kernel) ze2 (by decide) (by decide) (fun pb tb c=>zd6 pb tb c _) (by decide) zed w)
 rw[r_cor] at h
 exact h
theorem r_non:resV (evalT z3F xE sevE)=(.mk 0 0 0 ⟨#[]⟩ [] [],11):=by kernel_rfl
theorem zcy:z29 z2f (.mk 0 0 0 ⟨#[]⟩ [] [],11):=by
 have h:=z2D z2f z3F (fun w=>z1D z2f z81 z3F 2 (by decide +kernel) zeh (by decide) (by decide) (fun pb tb c=>zdL pb tb c _) (by decide) zet w)
 rw[r_non] at h
 exact h
theorem r_idx:resV (evalT z4c xE sevE)=(.mk 0 0 0 ⟨#[]⟩ [] [],9):=by kernel_rfl
theorem zcc:z29 z0T (.mk 0 0 0 ⟨#[]⟩ [] [],9):=by
 have h:=z2D z0T z4c (fun w=>z1D z0T z7x z4c 4 (by decide +kernel) zea (by decide) (by decide) (fun pb tb c=>zda pb tb c _) (by decide) zev w)
 rw[r_idx] at h
 exact h
theorem z1Q {s:ByteArray} {k n:Int} {e:Int} (h:z29 s (.mk k n 0 ⟨#[]⟩ [] [],e)) (w:World) (htb:TabP w):Calls Tryz.prog 34 #[.string s] w fun r w'=>∃ vn vi,vn.oneCell'= true/\vi.oneCell'= true/\r= .returned (.tuple #[.agg #[.int .i64 k,.int .i64 n,.float .f64 0,.string ⟨#[]⟩,vn,vi],.int .i64 e])/\Below w.heap.size w w':=
 (h w htb).mono fun r w' ⟨cs,h1,h2,h3⟩=>by
  obtain⟨vn,vi,rfl,_,_,_,_,h4,_,h5⟩:=h2.inv
  exact⟨vn,vi,h4.one,h5.one,h1,h3⟩
theorem z2v {k n:Int} {vn vi:Value} (h1:vn.oneCell'= true) (h2:vi.oneCell'= true):∀ v∈[Value.int .i64 k,.int .i64 n,.float .f64 0,.string ⟨#[]⟩,vn,vi],v.oneCell'= true:=by
 intro v hv
 simp only[List.mem_cons,List.not_mem_nil,or_false] at hv
 rcases hv with rfl|rfl|rfl|rfl|rfl|rfl<;>first|rfl|exact h1|exact h2
theorem z4g (w:World) (htb:TabP w):Calls Tryz.prog 10 #[] w fun e w'=>e= .returned (.bool true)/\Below w.heap.size w w':=by
 have HTB:=I htb
 have HB0:Hid (Below w.heap.size w w):=I (Below.refl _ w)
 clear htb
 go_enter Tryz.func10,Tryz.ntmps10
 go_upto_region 1 with (fail)
 have HT1:=I (z1Q zbZ w (HTB.o.next HB0.o))
 go_upto_region 2 with (first|(go_at_call 34;refine HT1.o.mono ?_;rintro e z1 ⟨vn1,vi1,hn1,hi1,rfl,hb1⟩;have HN1:=I hn1;have HI1:=I hi1;have HC1:=I hb1;clear hn1 hi1 hb1)|((with_reducible refine zR 26 _ _ rfl ?hwx z1 ?zz [.int .i64 1,.int .i64 1,.float .f64 0,.string ⟨#[]⟩,vn1,vi1] ?hwld ?hz ?hx ?hy ?hi ?h1 ?_);(case hwld=>rfl);(case hx=>rfl);(case hy=>rfl);(case hwx=>(exact wA rfl));(case hz=>rfl);(case hi=>kernel_rfl);(case h1=>exact z2v HN1.o HI1.o);intro Z1 hZ;have HX1:=I hZ;clear hZ))
 have HB1:Hid (Below w.heap.size w Z1):=I (HB0.o.trans ((HC1.o.trans (HX1.o.below.mono HC1.o.size)).mono HB0.o.size))
 have HL1:Hid (z1.heap.size < Z1.heap.size):=I HX1.o.size
 have HT2:=I (z1Q zcB Z1 (HTB.o.next HB1.o))
 go_upto_region 3 with (first|(go_at_call 34;refine HT2.o.mono ?_;rintro e z2 ⟨vn2,vi2,hn2,hi2,rfl,hb2⟩;have HN2:=I hn2;have HI2:=I hi2;have HC2:=I hb2;clear hn2 hi2 hb2)|((with_reducible refine zR 26 _ _ rfl ?hwx z2 ?zz [.int .i64 1,.int .i64 0,.float .f64 0,.string ⟨#[]⟩,vn2,vi2] ?hwld ?hz ?hx ?hy ?hi ?h1 ?_);(case hwld=>rfl);(case hx=>rfl);(case hy=>rfl);(case hwx=>(exact wA rfl));(case hz=>rfl);(case hi=>kernel_rfl);(case h1=>exact z2v HN2.o HI2.o);intro Z2 hZ;have HX2:=I hZ;clear hZ))
 have HB2:Hid (Below w.heap.size w Z2):=I (HB1.o.trans ((HC2.o.trans (HX2.o.below.mono HC2.o.size)).mono HB1.o.size))
 have HL2:Hid (z2.heap.size < Z2.heap.size):=I HX2.o.size
 have HT3:=I (z1Q zcA Z2 (HTB.o.next HB2.o))
 go_upto_region 4 with (first|(go_at_call 34;refine HT3.o.mono ?_;rintro e z3 ⟨vn3,vi3,hn3,hi3,rfl,hb3⟩;have HN3:=I hn3;have HI3:=I hi3;have HC3:=I hb3;clear hn3 hi3 hb3)|((with_reducible refine zR 26 _ _ rfl ?hwx z3 ?zz [.int .i64 0,.int .i64 0,.float .f64 0,.string ⟨#[]⟩,vn3,vi3] ?hwld ?hz ?hx ?hy ?hi ?h1 ?_);(case hwld=>rfl);(case hx=>rfl);(case hy=>rfl);(case hwx=>(exact wA rfl));(case hz=>rfl);(case hi=>kernel_rfl);(case h1=>exact z2v HN3.o HI3.o);intro Z3 hZ;have HX3:=I hZ;clear hZ))
 have HB3:Hid (Below w.heap.size w Z3):=I (HB2.o.trans ((HC3.o.trans (HX3.o.below.mono HC3.o.size)).mono HB2.o.size))
 have HL3:Hid (z3.heap.size < Z3.heap.size):=I HX3.o.size
 have HT4:=I (z1Q zcr Z3 (HTB.o.next HB3.o))
 go_upto_region 5 with (first|(go_at_call 34;refine HT4.o.mono ?_;rintro e z4 ⟨vn4,vi4,hn4,hi4,rfl,hb4⟩;have HN4:=I hn4;have HI4:=I hi4;have HC4:=I hb4;clear hn4 hi4 hb4)|((with_reducible refine zR 26 _ _ rfl ?hwx z4 ?zz [.int .i64 1,.int .i64 1,.float .f64 0,.string ⟨#[]⟩,vn4,vi4] ?hwld ?hz ?hx ?hy ?hi ?h1 ?_);(case hwld=>rfl);(case hx=>rfl);(case hy=>rfl);(case hwx=>(exact wA rfl));(case hz=>rfl);(case hi=>kernel_rfl);(case h1=>exact z2v HN4.o HI4.o);intro Z4 hZ;have HX4:=I hZ;clear hZ))
 have HB4:Hid (Below w.heap.size w Z4):=I (HB3.o.trans ((HC4.o.trans (HX4.o.below.mono HC4.o.size)).mono HB3.o.size))
 have HL4:Hid (z4.heap.size < Z4.heap.size):=I HX4.o.size
 have HT5:=I (z1Q zcy Z4 (HTB.o.next HB4.o))
 go_upto_region 6 with (first|(go_at_call 34;refine HT5.o.mono ?_;rintro e z5 ⟨vn5,vi5,hn5,hi5,rfl,hb5⟩;have HN5:=I hn5;have HI5:=I hi5;have HC5:=I hb5;clear hn5 hi5 hb5)|((with_reducible refine zR 26 _ _ rfl ?hwx z5 ?zz [.int .i64 0,.int .i64 0,.float .f64 0,.string ⟨#[]⟩,vn5,vi5] ?hwld ?hz ?hx ?hy ?hi ?h1 ?_);(case hwld=>rfl);(case hx=>rfl);(case hy=>rfl);(case hwx=>(exact wA rfl));(case hz=>rfl);(case hi=>kernel_rfl);(case h1=>exact z2v HN5.o HI5.o);intro Z5 hZ;have HX5:=I hZ;clear hZ))
 have HB5:Hid (Below w.heap.size w Z5):=I (HB4.o.trans ((HC5.o.trans (HX5.o.below.mono HC5.o.size)).mono HB4.o.size))
 have HL5:Hid (z5.heap.size < Z5.heap.size):=I HX5.o.size
 have HT6:=I (z1Q zcc Z5 (HTB.o.next HB5.o))
 go_upto_region 7 with (first|(go_at_call 34;refine HT6.o.mono ?_;rintro e z6 ⟨vn6,vi6,hn6,hi6,rfl,hb6⟩;have HN6:=I hn6;have HI6:=I hi6;have HC6:=I hb6;clear hn6 hi6 hb6)|((with_reducible refine zR 26 _ _ rfl ?hwx z6 ?zz [.int .i64 0,.int .i64 0,.float .f64 0,.string ⟨#[]⟩,vn6,vi6] ?hwld ?hz ?hx ?hy ?hi ?h1 ?_);(case hwld=>rfl);(case hx=>rfl);(case hy=>rfl);(case hwx=>(exact wA rfl));(case hz=>rfl);(case hi=>kernel_rfl);(case h1=>exact z2v HN6.o HI6.o);intro Z6 hZ;have HX6:=I hZ;clear hZ))
 have HB6:Hid (Below w.heap.size w Z6):=I (HB5.o.trans ((HC6.o.trans (HX6.o.below.mono HC6.o.size)).mono HB5.o.size))
 have HL6:Hid (z6.heap.size < Z6.heap.size):=I HX6.o.size
 have HJ1_1:Hid (Below Z1.heap.size Z1 Z1):=I (Below.refl _ _)
 have HJ1_2:Hid (Below Z1.heap.size Z1 Z2):=I (HJ1_1.o.trans ((HC2.o.trans (HX2.o.below.mono HC2.o.size)).mono HJ1_1.o.size))
 have HJ1_3:Hid (Below Z1.heap.size Z1 Z3):=I (HJ1_2.o.trans ((HC3.o.trans (HX3.o.below.mono HC3.o.size)).mono HJ1_2.o.size))
 have HJ1_4:Hid (Below Z1.heap.size Z1 Z4):=I (HJ1_3.o.trans ((HC4.o.trans (HX4.o.below.mono HC4.o.size)).mono HJ1_3.o.size))
 have HJ1_5:Hid (Below Z1.heap.size Z1 Z5):=I (HJ1_4.o.trans ((HC5.o.trans (HX5.o.below.mono HC5.o.size)).mono HJ1_4.o.size))
 have HJ1_6:Hid (Below Z1.heap.size Z1 Z6):=I (HJ1_5.o.trans ((HC6.o.trans (HX6.o.below.mono HC6.o.size)).mono HJ1_5.o.size))
 have c10:=(HJ1_6.o.cell (p:=⟨z1.heap.size,0,none⟩) HL1.o).trans (HX1.o.range 0 _ rfl)
 have c11:=(HJ1_6.o.cell (p:=⟨z1.heap.size,0+1,none⟩) HL1.o).trans (HX1.o.range 1 _ rfl)
 rw[Nat.zero_add] at c11
 have HJ2_2:Hid (Below Z2.heap.size Z2 Z2):=I (Below.refl _ _)
 have HJ2_3:Hid (Below Z2.heap.size Z2 Z3):=I (HJ2_2.o.trans ((HC3.o.trans (HX3.o.below.mono HC3.o.size)).mono HJ2_2.o.size))
 have HJ2_4:Hid (Below Z2.heap.size Z2 Z4):=I (HJ2_3.o.trans ((HC4.o.trans (HX4.o.below.mono HC4.o.size)).mono HJ2_3.o.size))
 have HJ2_5:Hid (Below Z2.heap.size Z2 Z5):=I (HJ2_4.o.trans ((HC5.o.trans (HX5.o.below.mono HC5.o.size)).mono HJ2_4.o.size))
 have HJ2_6:Hid (Below Z2.heap.size Z2 Z6):=I (HJ2_5.o.trans ((HC6.o.trans (HX6.o.below.mono HC6.o.size)).mono HJ2_5.o.size))
 have c20:=(HJ2_6.o.cell (p:=⟨z2.heap.size,0,none⟩) HL2.o).trans (HX2.o.range 0 _ rfl)
 have c21:=(HJ2_6.o.cell (p:=⟨z2.heap.size,0+1,none⟩) HL2.o).trans (HX2.o.range 1 _ rfl)
 rw[Nat.zero_add] at c21
 have HJ4_4:Hid (Below Z4.heap.size Z4 Z4):=I (Below.refl _ _)
 have HJ4_5:Hid (Below Z4.heap.size Z4 Z5):=I (HJ4_4.o.trans ((HC5.o.trans (HX5.o.below.mono HC5.o.size)).mono HJ4_4.o.size))
 have HJ4_6:Hid (Below Z4.heap.size Z4 Z6):=I (HJ4_5.o.trans ((HC6.o.trans (HX6.o.below.mono HC6.o.size)).mono HJ4_5.o.size))
 have c40:=(HJ4_6.o.cell (p:=⟨z4.heap.size,0,none⟩) HL4.o).trans (HX4.o.range 0 _ rfl)
 have c41:=(HJ4_6.o.cell (p:=⟨z4.heap.size,0+1,none⟩) HL4.o).trans (HX4.o.range 1 _ rfl)
 rw[Nat.zero_add] at c41
 go_wp2
 go_ret
 exact⟨rfl,HB6.o⟩
end
section
open Go Go.RowKit
section
variable {P:Program} {ops:Array Oper} {S:World->Prop} {Q:Exit->Act->World->Prop} {i:Nat} {r:List (Nat × Bool)} {a:Act} {w:World}
variable {t u:OrdT} {j:Nat}
theorem z2o (h1:zX P ops S Q (.act i t) a w) (h2:zX P ops S Q (.act j u) a w):zX P ops S Q (.two i j t u) a w:=⟨h1,h2⟩
theorem z0P (d:Option Tmp) (v:Value) (w':World) (o:Oper) (hi:ops[i]?= some o) (hd:o.dst= d) (hw:Region.wanted o (yielded ops a.tmps)= true)
  (hrun:(execOp a.eval o).run P w= .ok (.value v) w') (hS:S w') (h:zX P ops S Q t (a.put d v) w'):zX P ops S Q (.act i t) a w:=by
 subst hd
 refine z4Q o hi hw fun K hK=> ?_
 unfold Oper.wp
 rw[hrun]
 exact hK _ _ hS h
theorem z0g (d:Option Tmp) (T:TypeId) (o:Oper) (x y:Operand) (hi:ops[i]?= some o) (ho:o.op= .store T x y) (hd:o.dst= d) (hw:Region.wanted o (yielded ops a.tmps)= true) (b:Nat) (cs0 cs:List Value) (hb:Whole T w b cs0) (hl:cs0.length= cs.length)
  (hx:a.eval x= .pointer (some ⟨b,0,none⟩)) (hy:a.eval y= .agg cs.toArray) (hi2:(P.info? T).map (·.size)= some cs.length) (h1:∀ v∈cs,v.oneCell'= true)
  (h:∀ Z,Whole T Z b cs->But w Z b b->S Z/\zX P ops S Q t (a.put d undef) Z):zX P ops S Q (.act i t) a w:=by
 subst hd
 refine z4Q o hi hw fun K hK=> ?_
 have hz:=h (w.setCells b 0 cs) (z1M b T cs [] cs0 w hb hl) (z3r b cs w 0)
 exact wp_store_mid T x y ho b 0 cs.toArray hx hy (by rw[List.size_toArray,← hl];exact hb.there) (by simpa using hi2) (all_oneCell_toArray h1) (by simpa using hK _ _ hz.1 hz.2)
end
end
section
open Go Go.RowKit
structure InitInv (TV:TypeId) (W u:World) (v:Value) (E:List VarT) (j:Nat) (KL:List zL):Prop where
 own:OwnSl TV 6 enc6 u W.heap.size v KL
 len:KL.length= j
 bel:Below W.heap.size W u
 els:∀ (i:Nat) k x,KL[i]?= some k->E[i]?= some x->ValAt W W.heap.size k.1 x.init
theorem InitInv.start (TV:TypeId) (W:World) (E:List VarT):InitInv TV W W (.slice none 0 0) E 0 []:=⟨OwnSl.nil _ _,rfl,Below.refl _ _,fun i k x hk _=>by cases hk⟩
theorem InitInv.next {TV:TypeId} {W u u7 u8:World} {v v':Value} {E:List VarT} {j:Nat} {KL:List zL} (h:InitInv TV W u v E j KL) (hb:Below u.heap.size u u7) {k:zL} {x:VarT} (hx:E[j]?= some x)
  (hk:ValAt W W.heap.size k.1 x.init) (hown:OwnSl TV 6 enc6 u8 W.heap.size v' (KL ++ [k])) (hg:u7.grownBy u8 v.ownBlock):InitInv TV W u8 v' E (j+1) (KL ++ [k]):=by
 refine⟨hown,by rw[List.length_append,h.len];rfl,?_,fun i k' y hk' hy=> ?_⟩
 ·exact(h.bel.trans (hb.mono h.bel.size)).grown hg (Nat.le_trans h.bel.size hb.size) fun b hb=>h.own.block hb
 ·rcases Nat.lt_or_ge i KL.length with hi|hi
  ·rw[List.getElem?_append_left hi] at hk'
   exact h.els i k' y hk' hy
  ·rw[List.getElem?_append_right hi] at hk'
   have hi2:i= KL.length:=by
    have:=(List.getElem?_eq_some_iff.1 hk').1
    simp only[List.length_singleton] at this
    omega
   subst hi2
   rw[Nat.sub_self] at hk'
   injection hk' with hk'
   subst hk'
   rw[h.len,hx] at hy
   injection hy with hy
   subst hy
   exact hk
theorem InitInv.row {TV:TypeId} {W u z:World} {v:Value} {E:List VarT} {KL:List zL} (h:InitInv TV W u v E E.length KL) (hl:E.length<=9223372036854775807) (hz:Below u.heap.size u z):SlAt z z.heap.size 6 (ValAt z z.heap.size) v (E.map VarT.init):=by
 have hWz:=h.bel.trans (hz.mono h.bel.size)
 refine⟨by rw[List.length_map];exact hl,?_⟩
 rw[List.length_map]
 rcases h.own.2 with ⟨rfl,h0⟩|⟨g,cap,cur,hv,hg,_,_⟩
 ·rw[h.len] at h0
  exact⟨none,0,by rw[← h0],fun h1=>by omega⟩
 ·refine⟨some ⟨g,0,none⟩,cap,by rw[hv,h.len],fun _=> ?_⟩
  have hown:v.ownBlock= some g:=by rw[hv];rfl
  have hlt:=z0B h.own hown
  refine⟨g,0,rfl,Nat.lt_of_lt_of_le hlt hz.size,fun i x hx=> ?_⟩
  rw[List.getElem?_map] at hx
  cases hy:E[i]? with
  |none=>rw[hy] at hx;cases hx
  |some y=>
   rw[hy] at hx
   injection hx with hx
   subst hx
   have hi:=(List.getElem?_eq_some_iff.1 hy).1
   have hki:KL[i]?= some (KL[i]'(by rw[h.len];exact hi)):=List.getElem?_eq_getElem _
   refine⟨_,(KL[i]'(by rw[h.len];exact hi)).2,fun j c hc=> ?_,((h.els i _ y hki hy).under hWz).more hWz.size⟩
   refine(hz.cell (p:=⟨g,_,none⟩) hlt).trans ?_
   have:=World.ownsRow.cells h.own hown (i*6+j) c (z0K z0z KL i _ hki j c hc)
   rw[Addr.add_mid] at this
   rw[show 0+i*6+j= 0+ (i*6+j) by omega];exact this
end
section
open Go Go.RowKit
def Apart (x y:Value):Prop:=∀ b,x.ownBlock= some b->y.ownBlock≠some b
theorem Apart.ne {x y:Value} (h:Apart x y):y.ownBlock= none\/y.ownBlock≠x.ownBlock:=by
 cases hy:y.ownBlock with
 |none=>exact .inl rfl
 |some b=>exact .inr fun e=>h b e.symm hy
theorem Apart.symm {x y:Value} (h:Apart x y):Apart y x:=fun b h1 h2=>h b h2 h1
theorem Apart.next {x x' y:Value} {n:Nat} (h:Apart x y) (hblk:x'.ownBlock= x.ownBlock\/x'.ownBlock= some n) (hy:∀ b,y.ownBlock= some b->b < n):Apart x' y:=fun b h1 h2=>by
 rcases hblk with e|e
 ·exact h b (e▸h1) h2
 ·rw[e] at h1
  injection h1 with h1
  have:=hy b h2
  omega
theorem InitInv.lt {TV:TypeId} {W u:World} {v:Value} {E:List VarT} {j:Nat} {KL:List zL} (h:InitInv TV W u v E j KL):∀ b,v.ownBlock= some b->b < u.heap.size:=fun b hb=>z0B h.own hb
theorem InitInv.ge {TV:TypeId} {W u:World} {v:Value} {E:List VarT} {j:Nat} {KL:List zL} (h:InitInv TV W u v E j KL):∀ b,v.ownBlock= some b->W.heap.size<=b:=fun b hb=>h.own.block hb
end
section
open Go Go.RowKit
mutual
def jok:TT->Bool
 | .mk k ns its=>decide (ns.length<=1000/\its.length<=1000/\(k= 6->ns.length= its.length)) && jokL its
def jokL:List TT->Bool
 |[]=>true
 |a::l=>jok a && jokL l
end
theorem z7E:∀ {l:List TT},jokL l= true↔∀ x∈l,jok x= true
 |[]=>⟨fun _ x hx=>(by cases hx),fun _=>rfl⟩
 |a::l=>by
  rw[jokL,Bool.and_eq_true,z7E]
  constructor
  ·rintro⟨h1,h2⟩ x hx
   rcases List.mem_cons.1 hx with rfl|hx
   ·exact h1
   ·exact h2 x hx
  ·exact fun h=>⟨h a (by simp),fun x hx=>h x (List.mem_cons_of_mem _ hx)⟩
theorem z1T {k:Int} {ns:List ByteArray} {its:List TT}:jok (.mk k ns its)= true↔(ns.length<=1000/\its.length<=1000/\(k= 6->ns.length= its.length))/\∀ x∈its,jok x= true:=by
 rw[jok,Bool.and_eq_true,decide_eq_true_eq,z7E]
theorem zaf (t:TT):∀ n d,n<=200->cntT t n<=200->zY t d= true->jok t= true:=by
 induction t using TT.ind with
 |h k ns its ih=>
  intro n d hn hc ht
  have hg:=z8E (.mk k ns its) n (by omega)
  rw[cntT] at hc
  have hn1:n+1<=200:=by rw[cntT] at hg;omega
  obtain⟨h1,h2⟩:=z7r its (n+1) (fun x _=>z8E x) hn1 hc
  have hns:ns.length<=1000/\(k= 6->ns.length= its.length)/\∀ x∈its,∃ e,zY x e= true:=by
   rw[zY] at ht
   by_cases hd:12 < d
   ·rw[if_pos hd] at ht;cases ht
   ·rw[if_neg hd] at ht
    by_cases h5:k= 5
    ·rw[if_pos h5] at ht
     simp only[Bool.and_eq_true,beq_iff_eq] at ht
     exact⟨by omega,fun h=>by omega,fun x hx=>⟨d+1,z1K ht.2.2 x hx⟩⟩
    ·rw[if_neg h5] at ht
     by_cases h6:k= 6
     ·rw[if_pos h6] at ht
      simp only[Bool.and_eq_true,beq_iff_eq] at ht
      exact⟨by omega,fun _=>ht.1,fun x hx=>⟨d+1,z1K ht.2.2 x hx⟩⟩
     ·rw[if_neg h6] at ht
      by_cases h7:k= 1\/k= 2\/k= 3\/k= 4\/k= 7
      ·rw[if_pos h7] at ht
       simp only[Bool.and_eq_true,beq_iff_eq] at ht
       obtain⟨h8,h9⟩:=ht
       have:its=[]:=List.eq_nil_of_length_eq_zero h9
       subst this
       exact⟨by omega,fun h=>absurd h h6,fun x hx=>by cases hx⟩
      ·rw[if_neg h7] at ht;cases ht
  refine z1T.2 ⟨⟨hns.1,by omega,hns.2.1⟩,fun x hx=> ?_⟩
  obtain⟨m,hm,hcm⟩:=h2 x hx
  obtain⟨e,he⟩:=hns.2.2 x hx
  exact ih x hx m e hm hcm he
theorem zcw {t:TT} (h:typeT t= true):jok t= true:=by
 unfold typeT at h
 rw[Bool.and_eq_true,decide_eq_true_eq] at h
 exact zaf t 0 1 (by omega) h.1 h.2
theorem zct (a:TT):∀ b t,jok a= true->jok b= true->joinT a b= some t->jok t= true:=by
 induction a using TT.ind with
 |h ka na ia ih=>
  intro b t ha hb h
  cases b with
  |mk kb nb ib=>
   rw[joinT] at h
   by_cases h1:ka= 7
   ·rw[if_pos h1] at h;injection h with h;subst h;exact hb
   rw[if_neg h1] at h
   by_cases h2:kb= 7
   ·rw[if_pos h2] at h;injection h with h;subst h;exact ha
   rw[if_neg h2] at h
   by_cases h3:ka≠kb\/ia.length≠ib.length
   ·rw[if_pos h3] at h;cases h
   rw[if_neg h3] at h
   by_cases h4:ka= 6/\na≠nb
   ·rw[if_pos h4] at h;cases h
   rw[if_neg h4] at h
   cases hl:z0c ia ib with
   |none=>rw[hl] at h;cases h
   |some l=>
    rw[hl] at h
    injection h with h
    subst h
    obtain⟨hn,hat⟩:=z2P hl
    have hA:=z1T.1 ha
    have hB:=z1T.1 hb
    refine z1T.2 ⟨⟨?_,by omega,fun h=> ?_⟩,fun x hx=> ?_⟩
    ·by_cases h6:ka= 6
     ·rw[if_pos h6];exact hA.1.1
     ·rw[if_neg h6];simp
    ·rw[if_pos h,hn];exact hA.1.2.2 h
    ·obtain⟨i,hi⟩:=List.mem_iff_getElem?.1 hx
     have hlt:=(List.getElem?_eq_some_iff.1 hi).1
     have h5:ia.length= ib.length:=by
      rcases Decidable.em (ia.length= ib.length) with h|h
      ·exact h
      ·exact absurd (.inr h) h3
     obtain⟨y,hy⟩:∃ y,ia[i]?= some y:=⟨_,List.getElem?_eq_getElem (by omega)⟩
     obtain⟨z,hz⟩:∃ z,ib[i]?= some z:=⟨_,List.getElem?_eq_getElem (by omega)⟩
     obtain⟨t',ht',hj⟩:=hat i y z hy hz
     rw[hi] at ht'
     injection ht' with ht'
     subst ht'
     exact ih y (List.mem_of_getElem? hy) z x (hA.2 y (List.mem_of_getElem? hy)) (hB.2 z (List.mem_of_getElem? hz)) hj
def encN1 (s:ByteArray):List Value:=[.string s]
theorem z6O (s:ByteArray):(encN1 s).length= 1:=rfl
theorem z2Z {u u7 u8:World} {o:Option Nat} (hb:Below u.heap.size u u7) (hg:u7.grownBy u8 o):u.grownBy u8 o:=
 ⟨hg.os.trans hb.os,hg.tape.trans hb.tape,hg.output.trans hb.output,Nat.le_trans hb.size hg.size,fun k hk hne=>(hg.block k (Nat.lt_of_lt_of_le hk hb.size) hne).trans (hb.block k hk)⟩
structure JoinInv (p:Nat->Prop) (W U u:World) (q:Nat) (k:Int) (nv iv:Value) (ns:List ByteArray) (ts:List TT) (KL:List z0W):Prop where
 nown:OwnSl 9 1 encN1 u U.heap.size nv ns
 iown:OwnSl 45 3 enc3 u U.heap.size iv KL
 len:KL.length= ts.length
 sz:U.heap.size<=u.heap.size
 ap:Apart nv iv
 els:∀ (j:Nat) c x,KL[j]?= some c->ts[j]?= some x->KeptT (fun b=>(p b\/U.heap.size<=b)/\some b≠iv.ownBlock/\some b≠nv.ownBlock) u c.1 x
 box:Whole 45 u q (tyC k nv iv)
 bel:Below W.heap.size W u
 sam:∀ b,b < U.heap.size->b≠q->u.heap[b]?= U.heap[b]?
 lo:W.heap.size<=q
 hi:q < U.heap.size
 WU:W.heap.size<=U.heap.size
 pq:∀ b,p b->b < W.heap.size
theorem JoinInv.start {p:Nat->Prop} {W U:World} {q:Nat} {k:Int} (hbox:Whole 45 U q (tyC k (.slice none 0 0) (.slice none 0 0))) (hbel:Below W.heap.size W U) (hlo:W.heap.size<=q) (hp:∀ b,p b->b < W.heap.size):JoinInv p W U U q k (.slice none 0 0) (.slice none 0 0) [] [] []:=
 ⟨OwnSl.nil _ _,OwnSl.nil _ _,rfl,Nat.le_refl _,fun b h=>(by cases h),fun j c x h=>(by cases h),hbox,hbel,fun _ _ _=>rfl,hlo,hbox.lt,hbel.size,hp⟩
section
variable {p:Nat->Prop} {W U u u7 u8:World} {q:Nat} {k:Int} {nv iv v':Value} {ns:List ByteArray} {ts:List TT} {KL:List z0W}
theorem JoinInv.nb (h:JoinInv p W U u q k nv iv ns ts KL) {b:Nat} (hb:nv.ownBlock= some b):U.heap.size<=b/\b < u.heap.size:=⟨h.nown.block hb,z0B h.nown hb⟩
theorem JoinInv.ib (h:JoinInv p W U u q k nv iv ns ts KL) {b:Nat} (hb:iv.ownBlock= some b):U.heap.size<=b/\b < u.heap.size:=⟨h.iown.block hb,z0B h.iown hb⟩
theorem JoinInv.below (h:JoinInv p W U u q k nv iv ns ts KL) (hb:Below u.heap.size u u7):JoinInv p W U u7 q k nv iv ns ts KL:=
 ⟨h.nown.below hb,h.iown.below hb,h.len,Nat.le_trans h.sz hb.size,h.ap,fun j c x hc hx=>(h.els j c x hc hx).to (fun b hp hlt=>⟨hp,hb.block b hlt⟩) hb.size,h.box.keep (hb.block _ h.box.lt),h.bel.trans (hb.mono h.bel.size),fun b hb1 hne=>(hb.block b (Nat.lt_of_lt_of_le hb1 h.sz)).trans (h.sam b hb1 hne),h.lo,h.hi,h.WU,h.pq⟩
theorem JoinInv.name (h:JoinInv p W U u q k nv iv ns ts KL) (hg:u.grownBy u8 nv.ownBlock) {s:ByteArray} {n7:Nat} (hown:OwnSl 9 1 encN1 u8 U.heap.size v' (ns ++ [s])) (hblk:v'.ownBlock= nv.ownBlock\/v'.ownBlock= some n7) (hn7:u.heap.size<=n7):
  JoinInv p W U (u8.setCell ⟨q,1,none⟩ v') q k v' iv (ns ++ [s]) ts KL:=by
 have hbut:=But.set1 u8 q q 1 v'
 have hqu:q < u.heap.size:=Nat.lt_of_lt_of_le h.hi h.sz
 have hsame:∀ b,b < u.heap.size->some b≠nv.ownBlock->b≠q->(u8.setCell ⟨q,1,none⟩ v').heap[b]?= u.heap[b]?:=fun b hb hne hq=>(hbut.block b (Nat.lt_of_lt_of_le hb hg.size) hq hq).trans (hg.block b hb hne)
 have hqn:some q≠nv.ownBlock:=fun e=>by have:=(h.nb e.symm).1;have:=h.hi;omega
 have hgq:u8.grownBy (u8.setCell ⟨q,1,none⟩ v') (some q):=⟨hbut.os,hbut.tape,hbut.output,hbut.size,fun i hi hne=>hbut.block i hi (fun e=>hne (by rw[e])) (fun e=>hne (by rw[e]))⟩
 have hnq:v'.ownBlock= none\/v'.ownBlock≠some q:= .inr fun e=>by have:=hown.block e;have:=h.hi;omega
 refine⟨World.ownsRow.kept hown hgq hnq,World.ownsRow.kept (World.ownsRow.kept h.iown hg h.ap.ne) hgq (.inr fun e=>by have:=(h.ib e).1;have:=h.hi;omega),h.len,Nat.le_trans h.sz (Nat.le_trans hg.size hbut.size),h.ap.next hblk (fun b hb=>Nat.lt_of_lt_of_le (h.ib hb).2 hn7),fun j c x hc hx=> ?_,?_,?_,fun b hb hne=> ?_,h.lo,h.hi,h.WU,h.pq⟩
 ·refine(h.els j c x hc hx).to (fun b hp hlt=>⟨⟨hp.1,hp.2.1,?_⟩,hsame b hlt hp.2.2 ?_⟩) (Nat.le_trans hg.size hbut.size)
  ·rcases hblk with e|e
   ·rw[e];exact hp.2.2
   ·rw[e];intro e;injection e with e;omega
  ·intro e
   subst e
   rcases hp.1 with h1|h1
   ·have:=h.pq _ h1;have:=h.lo;omega
   ·have:=h.hi;omega
 ·exact Whole.putM (pre:=[.int .i64 k]) (post:=[iv]) (h.box.keep (hg.block q hqu hqn))
 ·refine⟨hbut.os.trans (hg.os.trans h.bel.os),hbut.tape.trans (hg.tape.trans h.bel.tape),hbut.output.trans (hg.output.trans h.bel.output),Nat.le_trans h.bel.size (Nat.le_trans hg.size hbut.size),fun b hb=> ?_⟩
  have h1:=h.bel.size
  exact(hsame b (Nat.lt_of_lt_of_le hb h1) (fun e=>by have:=(h.nb e.symm).1;have:=h.WU;omega) (by have:=h.lo;omega)).trans (h.bel.block b hb)
 ·exact(hsame b (Nat.lt_of_lt_of_le hb h.sz) (fun e=>by have:=(h.nb e.symm).1;omega) hne).trans (h.sam b hb hne)
theorem JoinInv.item (h:JoinInv p W U u q k nv iv ns ts KL) (hb7:Below u.heap.size u u7) (hg7:u7.grownBy u8 iv.ownBlock) {c:z0W} {x:TT} (hk:KeptT (fun b=>p b\/u.heap.size<=b) u7 c.1 x) (hown:OwnSl 45 3 enc3 u8 U.heap.size v' (KL ++ [c])) (hblk:v'.ownBlock= iv.ownBlock\/v'.ownBlock= some u7.heap.size):
  JoinInv p W U (u8.setCell ⟨q,2,none⟩ v') q k nv v' ns (ts ++ [x]) (KL ++ [c]):=by
 have hg:=z2Z hb7 hg7
 have hbut:=But.set1 u8 q q 2 v'
 have hqu:q < u.heap.size:=Nat.lt_of_lt_of_le h.hi h.sz
 have hsame:∀ b,b < u.heap.size->some b≠iv.ownBlock->b≠q->(u8.setCell ⟨q,2,none⟩ v').heap[b]?= u.heap[b]?:=fun b hb hne hq=>(hbut.block b (Nat.lt_of_lt_of_le hb hg.size) hq hq).trans (hg.block b hb hne)
 have hqn:some q≠iv.ownBlock:=fun e=>by have:=(h.ib e.symm).1;have:=h.hi;omega
 have hgq:u8.grownBy (u8.setCell ⟨q,2,none⟩ v') (some q):=⟨hbut.os,hbut.tape,hbut.output,hbut.size,fun i hi hne=>hbut.block i hi (fun e=>hne (by rw[e])) (fun e=>hne (by rw[e]))⟩
 have hnq:v'.ownBlock= none\/v'.ownBlock≠some q:= .inr fun e=>by have:=hown.block e;have:=h.hi;omega
 have hpq: ¬ p q:=fun e=>by have:=h.pq _ e;have:=h.lo;omega
 refine⟨World.ownsRow.kept (World.ownsRow.kept h.nown hg h.ap.symm.ne) hgq (.inr fun e=>by have:=(h.nb e).1;have:=h.hi;omega),World.ownsRow.kept hown hgq hnq,by rw[List.length_append,List.length_append,h.len];rfl,Nat.le_trans h.sz (Nat.le_trans hg.size hbut.size),(h.ap.symm.next hblk (fun b hb=>Nat.lt_of_lt_of_le (h.nb hb).2 hb7.size)).symm,fun j c' y hc hx=> ?_,?_,?_,fun b hb hne=> ?_,h.lo,h.hi,h.WU,h.pq⟩
 ·rcases Nat.lt_or_ge j KL.length with hj|hj
  ·rw[List.getElem?_append_left hj] at hc
   rw[List.getElem?_append_left (by rw[← h.len];exact hj)] at hx
   refine(h.els j c' y hc hx).to (fun b hp hlt=>⟨⟨hp.1,?_,hp.2.2⟩,hsame b hlt hp.2.1 ?_⟩) (Nat.le_trans hg.size hbut.size)
   ·rcases hblk with e|e
    ·rw[e];exact hp.2.1
    ·rw[e];intro e;injection e with e;have:=hb7.size;omega
   ·intro e
    subst e
    rcases hp.1 with h1|h1
    ·exact hpq h1
    ·have:=h.hi;omega
  ·rw[List.getElem?_append_right hj] at hc
   have hj2:j= KL.length:=by
    have:=(List.getElem?_eq_some_iff.1 hc).1
    simp only[List.length_singleton] at this
    omega
   rw[hj2,Nat.sub_self] at hc
   injection hc with hc
   subst hc
   have e:y= x:=by
    rw[hj2,h.len,List.getElem?_append_right (Nat.le_refl _),Nat.sub_self] at hx
    injection hx with hx
    exact hx.symm
   subst e
   have hz:=h.sz
   refine hk.to (fun b hp hlt=> ?_) (Nat.le_trans hg7.size hbut.size)
   have hni:some b≠iv.ownBlock:=fun e=>by
    have h1:=h.ib e.symm
    rcases hp with h2|h2
    ·have:=h.pq _ h2;have:=h.WU;omega
    ·omega
   have hnn:some b≠nv.ownBlock:=fun e=>by
    have h1:=h.nb e.symm
    rcases hp with h2|h2
    ·have:=h.pq _ h2;have:=h.WU;omega
    ·omega
   have hbq:b≠q:=fun e=>by
    subst e
    rcases hp with h2|h2
    ·exact hpq h2
    ·omega
   refine⟨⟨hp.imp id fun h=>by omega,?_,hnn⟩,(hbut.block b (Nat.lt_of_lt_of_le hlt hg7.size) hbq hbq).trans (hg7.block b hlt hni)⟩
   rcases hblk with e|e
   ·rw[e];exact hni
   ·rw[e];intro e;injection e with e;omega
 ·exact Whole.putM (pre:=[.int .i64 k,nv]) (post:=[]) (h.box.keep (hg.block q hqu hqn))
 ·refine⟨hbut.os.trans (hg.os.trans h.bel.os),hbut.tape.trans (hg.tape.trans h.bel.tape),hbut.output.trans (hg.output.trans h.bel.output),Nat.le_trans h.bel.size (Nat.le_trans hg.size hbut.size),fun b hb=> ?_⟩
  have h1:=h.bel.size
  exact(hsame b (Nat.lt_of_lt_of_le hb h1) (fun e=>by have:=(h.ib e.symm).1;have:=h.WU;omega) (by have:=h.lo;omega)).trans (h.bel.block b hb)
 ·exact(hsame b (Nat.lt_of_lt_of_le hb h.sz) (fun e=>by have:=(h.ib e.symm).1;omega) hne).trans (h.sam b hb hne)
theorem JoinInv.done (h:JoinInv p W U u q k nv iv ns ts KL) (hk:wfI k) (hs:∀ s∈ns,s.size<=maxLen) (hnl:ns.length<=1000) (hl:ts.length<=1000) {r:Nat} (hb:But u u8 r r) (hr:W.heap.size<=r) (hrU:r < U.heap.size):KeptT (fun b=>p b\/W.heap.size<=b) u8 (tyC k nv iv) (.mk k ns ts):=by
 have hWU:=h.WU
 have hsame:∀ b,(p b\/U.heap.size<=b)->b < u.heap.size->(p b\/W.heap.size<=b)/\u8.heap[b]?= u.heap[b]?:=fun b hp hlt=>by
  have hne:b≠r:=fun e=>by
   subst e
   rcases hp with h1|h1
   ·have:=h.pq _ h1;omega
   ·omega
  exact⟨hp.imp id fun h=>by omega,hb.block b hlt hne hne⟩
 refine z5e hk ?_ (by unfold maxLen;omega) ?_
 ·rcases h.nown.2 with ⟨rfl,h0⟩|⟨g,cap,cur,hv,hg,_,_⟩
  ·have:ns=[]:=List.eq_nil_of_length_eq_zero h0
   subst this
   exact SlAt.nil _ _ _ _
  ·have hown:nv.ownBlock= some g:=by rw[hv];rfl
   have hlt:=z0B h.nown hown
   refine⟨by omega,some ⟨g,0,none⟩,cap,by rw[hv],fun _=>⟨g,0,rfl,Nat.lt_of_lt_of_le hlt hb.size,fun i s hx=>⟨[.string s],rfl,fun j c hc=> ?_,rfl,hs s (List.mem_of_getElem? hx)⟩⟩⟩
   refine zu.2 ⟨(hsame g (.inr hg) hlt).1,?_⟩
   refine(World.cell?_of_block (a:=⟨g,_,none⟩) (hsame g (.inr hg) hlt).2).trans ?_
   have:=World.ownsRow.cells h.nown hown (i*1+j) c (z0K z6O ns i _ hx j c hc)
   rw[Addr.add_mid] at this
   rw[show 0+i*1+j= 0+ (i*1+j) by omega];exact this
 ·refine⟨by omega,?_⟩
  rcases h.iown.2 with ⟨rfl,h0⟩|⟨g,cap,cur,hv,hg,_,_⟩
  ·rw[h.len] at h0
   exact⟨none,0,by rw[← h0],fun h1=>by omega⟩
  ·have hown:iv.ownBlock= some g:=by rw[hv];rfl
   have hlt:=z0B h.iown hown
   refine⟨some ⟨g,0,none⟩,cap,by rw[hv,h.len],fun _=>⟨g,0,rfl,Nat.lt_of_lt_of_le hlt hb.size,fun i x hx=> ?_⟩⟩
   have hi:=(List.getElem?_eq_some_iff.1 hx).1
   have hki:KL[i]?= some (KL[i]'(by rw[h.len];exact hi)):=List.getElem?_eq_getElem _
   refine⟨_,(KL[i]'(by rw[h.len];exact hi)).2,fun j c hc=> ?_,?_⟩
   ·refine zu.2 ⟨(hsame g (.inr hg) hlt).1,?_⟩
    refine(World.cell?_of_block (a:=⟨g,_,none⟩) (hsame g (.inr hg) hlt).2).trans ?_
    have:=World.ownsRow.cells h.iown hown (i*3+j) c (z0K z3u KL i _ hki j c hc)
    rw[Addr.add_mid] at this
    rw[show 0+i*3+j= 0+ (i*3+j) by omega];exact this
   ·exact(h.els i _ x hki hx).to (fun b hp hlt=>hsame b hp.1 hlt) hb.size
end
end
section
open Go Go.RowKit
theorem KeptT.inv {p:Nat->Prop} {w:World} {cs:List Value} {k:Int} {ns:List ByteArray} {its:List TT} (h:KeptT p w cs (.mk k ns its)):∃ NA nc A c,cs=[.int .i64 k,.slice NA ns.length nc,.slice A its.length c]/\wfI k/\
  (0 < ns.length->∃ b o,NA= some ⟨b,o,none⟩/\b < w.heap.size/\∀ (i:Nat) s,ns[i]?= some s->w.cell? ⟨b,o+i,none⟩= some (.string s))/\(∀ s∈ns,s.size<=maxLen)/\
  (0 < its.length->∃ b o,A= some ⟨b,o,none⟩/\b < w.heap.size/\∀ (i:Nat) x,its[i]?= some x->∃ ks:List Value,ks.length= 3/\w.rangeAt b (o+i*3) ks/\KeptT p w ks x):=by
 obtain⟨vn,vi,rfl,hk,hns,_,hi⟩:=TypAt.inv h
 obtain⟨_,NA,nc,rfl,h1⟩:=hns
 obtain⟨_,A,c,rfl,h2⟩:=hi
 refine⟨NA,nc,A,c,rfl,hk,fun h0=> ?_,fun s hs=> ?_,fun h0=> ?_⟩
 ·obtain⟨b,o,e,hb,hc⟩:=h1 h0
  refine⟨b,o,e,hb,fun i s hs=> ?_⟩
  obtain⟨ks,hl,hr,hks,_⟩:=hc i s hs
  have:=hr 0 (.string s) (by rw[hks];rfl)
  rw[Nat.mul_one,Nat.add_zero] at this
  exact(zu.1 this).2
 ·obtain⟨i,hi⟩:=List.mem_iff_getElem?.1 hs
  obtain⟨b,o,e,hb,hc⟩:=h1 (by have:=(List.getElem?_eq_some_iff.1 hi).1;omega)
  obtain⟨ks,hl,hr,_,h⟩:=hc i s hi
  exact h
 ·obtain⟨b,o,e,hb,hc⟩:=h2 h0
  refine⟨b,o,e,hb,fun i x hx=> ?_⟩
  obtain⟨ks,hl,hr,hks⟩:=hc i x hx
  exact⟨ks,hl,fun j v hv=>(zu.1 (hr j v hv)).2,hks⟩
theorem KeptT.next {p:Nat->Prop} {w u:World} {cs:List Value} {t:TT} (h:KeptT p w cs t) (hb:Below w.heap.size w u):KeptT p u cs t:=h.to (fun b hp hl=>⟨hp,hb.block b hl⟩) hb.size
def z2E (p:Nat->Prop) (r:Option TT) (w:World) (e:Ending) (w':World):Prop:=∃ cs,e= .returned (.tuple #[.agg ⟨cs⟩,.bool r.isSome])/\KeptT (fun b=>p b\/w.heap.size<=b) w' cs (r.getD (pT 0))/\Below w.heap.size w w'
theorem z4A:∀ {a b ts:List TT} {j:Nat} {x y t:TT},z0c (a.take j) (b.take j)= some ts->a[j]?= some x->b[j]?= some y->joinT x y= some t->z0c (a.take (j+1)) (b.take (j+1))= some (ts ++ [t])
 |[],_,_,_,_,_,_,_,hx,_,_=>by cases hx
 |_::_,[],_,_,_,_,_,_,_,hy,_=>by cases hy
 |a::l,b::r,ts,0,x,y,t,h,hx,hy,ht=>by
  simp only[List.getElem?_cons_zero,Option.some.injEq] at hx hy
  subst hx hy
  simp only[List.take_zero,z0c,Option.some.injEq] at h
  subst h
  simp[z0c,ht]
 |a::l,b::r,ts,j+1,x,y,t,h,hx,hy,ht=>by
  simp only[List.getElem?_cons_succ] at hx hy
  rw[List.take_succ_cons,List.take_succ_cons,z0c] at h
  cases hab:joinT a b with
  |none=>rw[hab] at h;cases h
  |some u=>
   rw[hab] at h
   dsimp only at h
   cases hl:z0c (l.take j) (r.take j) with
   |none=>rw[hl] at h;cases h
   |some us=>
    rw[hl] at h
    injection h with h
    subst h
    rw[List.take_succ_cons,List.take_succ_cons,z0c,hab]
    dsimp only
    rw[z4A hl hx hy ht]
    rfl
theorem z4I:∀ {a b:List TT} {j:Nat} {x y:TT},a[j]?= some x->b[j]?= some y->joinT x y= none->z0c a b= none
 |[],_,_,_,_,hx,_,_=>by cases hx
 |_::_,[],_,_,_,_,hy,_=>by cases hy
 |a::l,b::r,0,x,y,hx,hy,ht=>by
  simp only[List.getElem?_cons_zero,Option.some.injEq] at hx hy
  subst hx hy
  rw[z0c,ht]
 |a::l,b::r,j+1,x,y,hx,hy,ht=>by
  simp only[List.getElem?_cons_succ] at hx hy
  rw[z0c,z4I hx hy ht]
  cases joinT a b<;>rfl
theorem z22 {ka kb : Int} {na nb : List ByteArray} {ia ib : List TT} (h1 : ¬ ka = 7) (h2 : ¬ kb = 7) : joinT (.mk ka na ia) (.mk kb nb ib) = if ka ≠ kb \/ ia.length ≠ ib.length then none else if ka = 6 /\ na ≠ nb then none else match z0c ia ib with
      | none => none
      | some l => some (.mk ka (if ka = 6 then na else []) l) := by rw [joinT, if_neg h1, if_neg h2]; rfl
section
variable {P:Program} {ops:Array Oper} {S:World->Prop} {Q:Exit->Act->World->Prop} {i:Nat} {r:List (Nat × Bool)} {a:Act} {w:World} {o:Oper}
theorem z7R (t:TypeId) (x:Operand) (ho:o.op= .buildSlice t 1 #[(0,x)]) (e:TypeId) (i:TypeInfo) (z:Value) (s:ByteArray) (hx:a.eval x= .string s)
  (ht:P.underlying t= some (.slice e)) (hi:P.info? e= some i) (hz:i.zero= some z) (hsz:i.size= 1):(execOp a.eval o).run P w= .ok (.value (.slice (some ⟨w.heap.size,0,none⟩) 1 1)) (w.alloc (.cells ⟨[.string s]⟩ e)):=by
 have hr:(Instr.buildSlice t 1 #[(0,.string s)]).run P w= .ok (.slice (some ⟨w.heap.size,0,none⟩) 1 1) (w.alloc (.cells ⟨[.string s]⟩ e)):=by
  have hs:(sizeOf e).run P w= .ok 1 w:=by simp[sizeOf,typeInfo,hi,hsz]
  have hzv:(zeroValue e).run P w= .ok z w:=by simp[zeroValue,typeInfo,hi,hz]
  have hf:∀ cells:Array Value,cells.size= 1->Instr.fill (fun i=>some (i*1,1)) cells [(0,.string s)]= some #[.string s]:=fun cells hc=>z7B 1 [.string s] cells rfl hc
  unfold Instr.buildSlice
  simp only[Sem.run_bind,run_underlying ht,Result.andThen_ok,hs,Nat.one_mul]
  rw[if_neg (by omega),if_neg (by omega)]
  simp only[Sem.run_bind,Sem.run_pure,Result.andThen_ok,hzv]
  rw[hf _ (by simp)]
  simp[newRow]
 unfold execOp
 simp only[ho,List.map_toArray,List.map_cons,List.map_nil,hx,Sem.run_bind,Sem.run_pure,Result.andThen_ok,hr]
end
theorem z0L (k:Int) (hk:wfI k) (w:World):Calls Tryz.prog 81 #[.int .i64 k] w fun e w'=>e= .returned (.agg ⟨tyC k (.slice none 0 0) (.slice none 0 0)⟩)/\Below w.heap.size w w':=by
 go_enter Tryz.func81,Tryz.ntmps81
 go_upto_region 1 with (fail)
 have HW:=I (Whole.new w zT3 45)
 have HBL:=I (zd w (.cells zT3.toArray 45))
 have hz3:(#[Value.int IntKind.i64 0,Value.slice none 0 0,Value.slice none 0 0]:Array Value)= zT3.toArray:=rfl
 rw[hz3]
 clear hz3
 generalize w.alloc (.cells zT3.toArray 45)= W at*
 go_wp2_with (first|((with_reducible refine ze 45 _ _ rfl rfl ?_ (w.heap.size) (zT3) (tyC k (.slice none 0 0) (.slice none 0 0)) HW.o ?_ ?_ ?_ ?_ ?_ ?_);(exact wA rfl);rfl;rfl;rfl;kernel_rfl;exact(zx _ _ _ _ _ _ _);intro Z hz hb;have HZZ:=I hz;have HBZ:=I hb;clear hz hb))
 (try simp only[Exit.inBlock,Exit.then])
 refine bodyPost_ret (z9n rfl _ _ w.heap.size (tyC k (.slice none 0 0) (.slice none 0 0)) rfl rfl HZZ.o) rfl ?_
 exact⟨rfl,HBL.o.trans (HBZ.o.below HBL.o.size (Nat.le_refl _) (Nat.le_refl _))⟩
theorem z4f:∀ (a b:TT),jok a= true->jok b= true->∀ (p:Nat->Prop) (ca cb:List Value) (w:World),(∀ b,p b->b < w.heap.size)->KeptT p w ca a->KeptT p w cb b->
  Calls Tryz.prog 82 #[.agg ⟨ca⟩,.agg ⟨cb⟩] w (z2E p (joinT a b) w):=by
 intro a
 induction a using TT.ind with
 |h ka na ia ih=>
  intro b hja hjb p ca cb w hp hka hkb
  cases b with
  |mk kb nb ib=>
   have IH:=I ih
   have HP:=I hp
   have HKA:=I hka
   have HKB:=I hkb
   obtain⟨hA,hA2⟩:=z1T.1 hja
   obtain⟨hB,hB2⟩:=z1T.1 hjb
   have HJA:=I hA2
   have HJB:=I hB2
   obtain⟨NA,nc,A,c,rfl,hwa,h1,h2,h3⟩:=hka.inv
   obtain⟨NB,nd,B,d,rfl,hwb,h4,h5,h6⟩:=hkb.inv
   have HNA:=I h1
   have HNM:=I h2
   have HIA:=I h3
   have HNB:=I h4
   have HIB:=I h6
   have HWA:=I hwa
   have HI1000:=I hA.2.1
   have HN1000:=I hA.1
   have HNL:=I (And.intro hA.2.2 hB.2.2)
   have HL3:Hid (∀ a b c:Value,[a,b,c].length= 3):=I fun _ _ _=>rfl
   have hin:ia.length<=1000:=hA.2.1
   have hnn:na.length<=1000:=hA.1
   have hin2:ib.length<=1000:=hB.2.1
   have hnn2:nb.length<=1000:=hB.1
   clear ih hp hka hkb hja hjb hA hA2 hB hB2 h1 h2 h3 h4 h5 h6 hwa hwb
   go_enter Tryz.func82,Tryz.ntmps82
   go_upto_region 1 with (fail)
   have hz3:(#[Value.int IntKind.i64 0,Value.slice none 0 0,Value.slice none 0 0]:Array Value)= zT3.toArray:=rfl
   rw[hz3]
   clear hz3
   have g1:=zd w (.cells ⟨[.int .i64 ka,.slice NA na.length nc,.slice A ia.length c]⟩ 45)
   have g2:=zd (w.alloc (.cells ⟨[.int .i64 ka,.slice NA na.length nc,.slice A ia.length c]⟩ 45)) (.cells ⟨[.int .i64 kb,.slice NB nb.length nd,.slice B ib.length d]⟩ 45)
   have g3:=zd ((w.alloc (.cells ⟨[.int .i64 ka,.slice NA na.length nc,.slice A ia.length c]⟩ 45)).alloc (.cells ⟨[.int .i64 kb,.slice NB nb.length nd,.slice B ib.length d]⟩ 45)) (.cells zT3.toArray 45)
   have hA:=((Whole.new w [.int .i64 ka,.slice NA na.length nc,.slice A ia.length c] 45).keep (g2.block _ (by simp))).keep (g3.block _ (by simp;omega))
   have hB:=(Whole.new (w.alloc (.cells ⟨[.int .i64 ka,.slice NA na.length nc,.slice A ia.length c]⟩ 45)) [.int .i64 kb,.slice NB nb.length nd,.slice B ib.length d] 45).keep (g3.block _ (by simp))
   have hR:=Whole.new ((w.alloc (.cells ⟨[.int .i64 ka,.slice NA na.length nc,.slice A ia.length c]⟩ 45)).alloc (.cells ⟨[.int .i64 kb,.slice NB nb.length nd,.slice B ib.length d]⟩ 45)) zT3 45
   rw[show(w.alloc (.cells ⟨[.int .i64 ka,.slice NA na.length nc,.slice A ia.length c]⟩ 45)).heap.size= w.heap.size+1 by simp] at hB
   rw[show((w.alloc (.cells ⟨[.int .i64 ka,.slice NA na.length nc,.slice A ia.length c]⟩ 45)).alloc (.cells ⟨[.int .i64 kb,.slice NB nb.length nd,.slice B ib.length d]⟩ 45)).heap.size= w.heap.size+2 by simp] at hR
   have hbl:Below w.heap.size w (((w.alloc (.cells ⟨[.int .i64 ka,.slice NA na.length nc,.slice A ia.length c]⟩ 45)).alloc (.cells ⟨[.int .i64 kb,.slice NB nb.length nd,.slice B ib.length d]⟩ 45)).alloc (.cells zT3.toArray 45)):=g1.trans ((g2.mono g1.size).trans (g3.mono (Nat.le_trans g1.size g2.size)))
   have hsz:(((w.alloc (.cells ⟨[.int .i64 ka,.slice NA na.length nc,.slice A ia.length c]⟩ 45)).alloc (.cells ⟨[.int .i64 kb,.slice NB nb.length nd,.slice B ib.length d]⟩ 45)).alloc (.cells zT3.toArray 45)).heap.size= w.heap.size+3:=by simp
   have HA:=I hA
   have HB:=I hB
   have HR:=I hR
   have HBL:=I hbl
   have HSZ:=I hsz
   clear g1 g2 g3 hA hB hR hbl hsz
   generalize ((w.alloc (.cells ⟨[.int .i64 ka,.slice NA na.length nc,.slice A ia.length c]⟩ 45)).alloc (.cells ⟨[.int .i64 kb,.slice NB nb.length nd,.slice B ib.length d]⟩ 45)).alloc (.cells zT3.toArray 45)= W at*
   obtain⟨r,hr⟩:∃ r,w.heap.size+2= r:=⟨_,rfl⟩
   have HRE:=I hr
   have HRG:Hid (w.heap.size<=r):=I (by omega)
   rw[hr] at HR
   rw[hr]
   clear hr
   have a0:W.cell? ⟨w.heap.size,0,none⟩= some (.int .i64 ka):=HA.o.range 0 _ rfl
   have b0:W.cell? ⟨w.heap.size+1,0,none⟩= some (.int .i64 kb):=HB.o.range 0 _ rfl
   have a2:W.cell? ⟨w.heap.size,2,none⟩= some (.slice A ia.length c):=HA.o.range 2 _ rfl
   have b2:W.cell? ⟨w.heap.size+1,2,none⟩= some (.slice B ib.length d):=HB.o.range 2 _ rfl
   by_cases h7:ka= 7
   ·subst h7
    have HJ:Hid (joinT (.mk 7 na ia) (.mk kb nb ib)= some (.mk kb nb ib)):=I (by rw[joinT,if_pos rfl])
    go_wp2_with (first|((with_reducible refine za 45 _ rfl ?_ (w.heap.size+1) (0) ([.int .i64 kb,.slice NB nb.length nd,.slice B ib.length d]) _ rfl HB.o.range Tryz.underlying45 rfl ?_ ?_);(exact wA rfl);rw[HL3.o];kernel_rfl)|((with_reducible refine ze 45 _ _ rfl rfl ?_ (r) (zT3) ([.int .i64 kb,.slice NB nb.length nd,.slice B ib.length d]) HR.o ?_ ?_ ?_ ?_ ?_ ?_);(exact wA rfl);rfl;rfl;rfl;kernel_rfl;exact(zx _ _ _ _ _ _ _);intro Z hz hb;have HZZ:=I hz;have HBZ:=I hb;clear hz hb))
    (try simp only[Exit.inBlock,Exit.then])
    refine bodyPost_ret (zi rfl _ _ r ([.int .i64 kb,.slice NB nb.length nd,.slice B ib.length d]) rfl (.bool true) rfl HZZ.o rfl) rfl ?_
    refine⟨_,by rw[HJ.o];rfl,?_,HBL.o.trans (HBZ.o.below HBL.o.size HRG.o HRG.o)⟩
    rw[HJ.o]
    exact HKB.o.to (fun b hb hl=>⟨.inl hb,(HBZ.o.block b (Nat.lt_of_lt_of_le hl HBL.o.size) (by have:=HRE.o;omega) (by have:=HRE.o;omega)).trans (HBL.o.block b hl)⟩) (Nat.le_trans HBL.o.size HBZ.o.size)
   have h7b:(ka ==7)= false:=by rw[beq_eq_false_iff_ne];exact h7
   by_cases h8:kb= 7
   ·subst h8
    have HJ:Hid (joinT (.mk ka na ia) (.mk 7 nb ib)= some (.mk ka na ia)):=I (by rw[joinT,if_neg h7,if_pos rfl])
    go_wp2_with (first|((with_reducible refine za 45 _ rfl ?_ (w.heap.size) (0) ([.int .i64 ka,.slice NA na.length nc,.slice A ia.length c]) _ rfl HA.o.range Tryz.underlying45 rfl ?_ ?_);(exact wA rfl);rw[HL3.o];kernel_rfl)|((with_reducible refine ze 45 _ _ rfl rfl ?_ (r) (zT3) ([.int .i64 ka,.slice NA na.length nc,.slice A ia.length c]) HR.o ?_ ?_ ?_ ?_ ?_ ?_);(exact wA rfl);rfl;rfl;rfl;kernel_rfl;exact(zx _ _ _ _ _ _ _);intro Z hz hb;have HZZ:=I hz;have HBZ:=I hb;clear hz hb))
    (try simp only[Exit.inBlock,Exit.then])
    refine bodyPost_ret (zi rfl _ _ r ([.int .i64 ka,.slice NA na.length nc,.slice A ia.length c]) rfl (.bool true) rfl HZZ.o rfl) rfl ?_
    refine⟨_,by rw[HJ.o];rfl,?_,HBL.o.trans (HBZ.o.below HBL.o.size HRG.o HRG.o)⟩
    rw[HJ.o]
    exact HKA.o.to (fun b hb hl=>⟨.inl hb,(HBZ.o.block b (Nat.lt_of_lt_of_le hl HBL.o.size) (by have:=HRE.o;omega) (by have:=HRE.o;omega)).trans (HBL.o.block b hl)⟩) (Nat.le_trans HBL.o.size HBZ.o.size)
   have h8b:(kb ==7)= false:=by rw[beq_eq_false_iff_ne];exact h8
   by_cases hkk:ka= kb
   case neg=>
    have kne:(ka !=kb)= true:=by simpa using hkk
    have HNO:Hid (joinT (.mk ka na ia) (.mk kb nb ib)= none):=I (by rw[z22 h7 h8,if_pos (.inl hkk)])
    go_wp2_with (first|((with_reducible refine ze 45 _ _ rfl rfl ?_ (r) (zT3) (zT3) HR.o ?_ ?_ ?_ ?_ ?_ ?_);(exact wA rfl);rfl;rfl;rfl;kernel_rfl;exact(zx _ _ _ _ _ _ _);intro Z hz hb;have HZZ:=I hz;have HBZ:=I hb;clear hz hb))
    (try simp only[Exit.inBlock,Exit.then])
    refine bodyPost_ret (zi rfl _ _ r (zT3) rfl (.bool false) rfl HZZ.o rfl) rfl ?_
    exact⟨zT3,by rw[HNO.o];rfl,by rw[HNO.o];exact zJ (zf 0 (by decide +kernel)),HBL.o.trans (HBZ.o.below HBL.o.size HRG.o HRG.o)⟩
   subst hkk
   have keq:(ka !=ka)= false:=by simp
   by_cases hll:ia.length= ib.length
   case neg=>
    have lne:((ia.length:Int) !=(ib.length:Int))= true:=by simp;omega
    have HNO:Hid (joinT (.mk ka na ia) (.mk ka nb ib)= none):=I (by rw[z22 h7 h7,if_pos (.inr hll)])
    go_wp2_with (first|((with_reducible refine ze 45 _ _ rfl rfl ?_ (r) (zT3) (zT3) HR.o ?_ ?_ ?_ ?_ ?_ ?_);(exact wA rfl);rfl;rfl;rfl;kernel_rfl;exact(zx _ _ _ _ _ _ _);intro Z hz hb;have HZZ:=I hz;have HBZ:=I hb;clear hz hb))
    (try simp only[Exit.inBlock,Exit.then])
    refine bodyPost_ret (zi rfl _ _ r (zT3) rfl (.bool false) rfl HZZ.o rfl) rfl ?_
    exact⟨zT3,by rw[HNO.o];rfl,by rw[HNO.o];exact zJ (zf 0 (by decide +kernel)),HBL.o.trans (HBZ.o.below HBL.o.size HRG.o HRG.o)⟩
   have leq:((ia.length:Int) !=(ib.length:Int))= false:=by simp;omega
   have HLEN:=I hll
   have H7:=I h7
   clear hll
   go_upto_region 8 with (first|((with_reducible refine ze 45 _ _ rfl rfl ?_ (W.heap.size) zT3 (tyC ka (.slice none 0 0) (.slice none 0 0)) ?_ ?_ ?_ ?_ ?_ ?_ ?_);(exact wA rfl);exact Whole.new W zT3 45;rfl;rfl;rfl;kernel_rfl;exact zx _ _ _ _ _ _ _;intro U hz hb;have HWB:=I hz;have HXB:=I hb;clear hz hb))
   have HXU:Hid (Below W.heap.size W U):=I ((zd W (.cells zT3.toArray 45)).trans (HXB.o.below (zd W (.cells zT3.toArray 45)).size (Nat.le_refl _) (Nat.le_refl _)))
   have HBU:Hid (Below w.heap.size w U):=I (HBL.o.trans (HXU.o.mono HBL.o.size))
   have HQE:Hid (W.heap.size= w.heap.size+3):=HSZ
   obtain⟨q,hq⟩:∃ q,W.heap.size= q:=⟨_,rfl⟩
   have HAU:=I (HA.o.keep (HXU.o.block _ HA.o.lt))
   have HBU2:=I (HB.o.keep (HXU.o.block _ HB.o.lt))
   have HRU:=I (HR.o.keep (HXU.o.block _ HR.o.lt))
   rw[hq] at HWB HQE
   rw[hq]
   clear hq
   have HRR:Hid (∀ u,(∀ b,b < U.heap.size->b≠q->u.heap[b]?= U.heap[b]?)->Whole 45 u r zT3):=I fun u h=>HRU.o.keep (h r HRU.o.lt (by have:=HRE.o;have:=HQE.o;omega))
   have HAA:Hid (∀ u,(∀ b,b < U.heap.size->b≠q->u.heap[b]?= U.heap[b]?)->Whole 45 u w.heap.size [.int .i64 ka,.slice NA na.length nc,.slice A ia.length c]):=I fun u h=>HAU.o.keep (h _ HAU.o.lt (by have:=HQE.o;omega))
   have HBB:Hid (∀ u,(∀ b,b < U.heap.size->b≠q->u.heap[b]?= U.heap[b]?)->Whole 45 u (w.heap.size+1) [.int .i64 ka,.slice NB nb.length nd,.slice B ib.length d]):=I fun u h=>HBU2.o.keep (h _ HBU2.o.lt (by have:=HQE.o;omega))
   obtain⟨jt,hi,hy0,hy1,hy2⟩:=zT z2G
   have HT0:=I hi
   have HT1:=I hy0
   have HT2:=I hy1
   have HT3:=I hy2
   have HD:Hid (∀ (i:Nat) v,([.int .i64 ka,.slice NA na.length nc,.slice A ia.length c]:List Value)[i]?= some v->∀ u:World,(∀ b,b < U.heap.size->b≠q->u.heap[b]?= U.heap[b]?)->u.cell? ⟨w.heap.size,i,none⟩= some v):=I fun i v hv u hu=>by have:=(HAA.o u hu).range i v hv;rwa [Nat.zero_add] at this
   have HE:Hid (∀ (i:Nat) v,([.int .i64 ka,.slice NB nb.length nd,.slice B ib.length d]:List Value)[i]?= some v->∀ u:World,(∀ b,b < U.heap.size->b≠q->u.heap[b]?= U.heap[b]?)->u.cell? ⟨w.heap.size+1,i,none⟩= some v):=I fun i v hv u hu=>by have:=(HBB.o u hu).range i v hv;rwa [Nat.zero_add] at this
   have HD0:=I (HD.o 0 _ rfl)
   have HD1:=I (HD.o 1 _ rfl)
   have HD2:=I (HD.o 2 _ rfl)
   have HE1:=I (HE.o 1 _ rfl)
   have HE2:=I (HE.o 2 _ rfl)
   clear HD HE hi hy0 hy1 hy2 a0 b0 a2 b2
   have d2:U.cell? ⟨w.heap.size,2,none⟩= some (.slice A ia.length c):=HD2.o U (fun _ _ _=>rfl)
   go_wp2
   clear d2
   go_loopg [7] ia.length (fun g i u=>∃ (j:Nat) (nv iv:Value) (ns:List ByteArray) (ts:List TT) (KL:List z0W),j+g= ia.length/\i= .int .i64 j/\JoinInv p w U u q ka nv iv ns ts KL/\z0c (ia.take j) (ib.take j)= some ts/\(ns= if ka= 6 then na.take j else[])/\(ka= 6->na.take j= nb.take j))
   case atStart=>exact⟨0,_,_,[],[],[],by omega,rfl,JoinInv.start HWB.o HBU.o (by have:=HQE.o;omega) HP.o,by simp[z0c],by split<;>rfl,fun _=>rfl⟩
   case round=>
    obtain⟨j,nv,iv,ns,ts,KL,hj,rfl,hji,hts,hnx,hnn3⟩:=hrel
    have HJI:=I hji
    have HTS:=I hts
    have HNX:=I (And.intro hnx hnn3)
    clear hji hts hnx hnn3
    have HTL:Hid (ts.length= j):=I (by have h:=(z2P HTS.o).1;rw[List.length_take] at h;omega)
    obtain⟨V,hV⟩:∃ z,z= wr:=⟨_,rfl⟩
    subst hV
    have HPA:Hid (w.heap.size < V.heap.size):=I (HAA.o V HJI.o.sam).lt
    have HPB:Hid (w.heap.size+1 < V.heap.size):=I (HBB.o V HJI.o.sam).lt
    cases gk with
    |zero=>
     obtain rfl:j= ia.length:=by omega
     have hge: ¬ ((ia.length:Int) <(ia.length:Int)):=by omega
     have HJ:Hid (joinT (.mk ka na ia) (.mk ka nb ib)= some (.mk ka ns ts)):=I (by
      have h1:=HTS.o
      rw[List.take_of_length_le (Nat.le_refl _),List.take_of_length_le (by rw[HLEN.o];exact Nat.le_refl _)] at h1
      rw[z22 H7.o H7.o,if_neg (fun h=>h.elim (fun h=>h rfl) fun h=>h HLEN.o),if_neg,h1,HNX.o.1]
      ·by_cases h6:ka= 6
       ·rw[if_pos h6,if_pos h6,List.take_of_length_le (by rw[HNL.o.1 h6];exact Nat.le_refl _)]
       ·rw[if_neg h6,if_neg h6]
      ·rintro⟨h6,hne⟩
       have h2:=HNX.o.2 h6
       rw[List.take_of_length_le (by rw[HNL.o.1 h6];exact Nat.le_refl _),List.take_of_length_le (by rw[HNL.o.2 h6,← HLEN.o];exact Nat.le_refl _)] at h2
       exact hne h2)
     have d2:=HD2.o V HJI.o.sam
     have HRX:=I (HRR.o V HJI.o.sam)
     have HB6:=I HJI.o.bel
     have HT3:Hid ((tyC ka nv iv).length= 3):=I rfl
     obtain⟨N1,n1,hn1⟩:=z0O HJI.o.nown
     obtain⟨I1,i1,hi1⟩:=z0O HJI.o.iown
     have HO1:Hid (∀ v∈tyC ka nv iv,v.oneCell'= true):=I (by rw[hn1,hi1];exact zx _ _ _ _ _ _ _)
     clear hn1 hi1
     go_wp2_with (first|((with_reducible refine za 45 _ rfl ?_ (q) (0) (tyC ka nv iv) _ rfl HJI.o.box.range Tryz.underlying45 rfl ?_ ?_);(exact wA rfl);rw[HT3.o];kernel_rfl)|((with_reducible refine ze 45 _ _ rfl rfl ?_ (r) (zT3) (tyC ka nv iv) HRX.o ?_ ?_ ?_ ?_ ?_ ?_);(exact wA rfl);rfl;rfl;rfl;kernel_rfl;exact HO1.o;intro Z hz hb;have HZZ:=I hz;have HBZ:=I hb;clear hz hb))
     (try simp only[Exit.inBlock,Exit.then])
     refine bodyPost_ret (zi rfl _ _ r (tyC ka nv iv) rfl (.bool true) rfl HZZ.o rfl) rfl ?_
     refine⟨_,by rw[HJ.o];rfl,?_,HB6.o.trans (HBZ.o.below HB6.o.size HRG.o HRG.o)⟩
     rw[HJ.o]
     refine HJI.o.done HWA.o (fun s hs=>HNM.o s ?_) ?_ (by rw[HTL.o];exact HI1000.o) HBZ.o HRG.o HRU.o.lt
     ·have h:=HNX.o.1
      rw[h] at hs
      by_cases h6:ka= 6
      ·rw[if_pos h6] at hs;exact List.mem_of_mem_take hs
      ·rw[if_neg h6] at hs;cases hs
     ·rw[HNX.o.1]
      by_cases h6:ka= 6
      ·rw[if_pos h6,List.length_take];have:=HN1000.o;omega
      ·rw[if_neg h6];simp
    |succ g=>
     have hlt:(j:Int) <(ia.length:Int):=by omega
     have d0:=HD0.o V HJI.o.sam
     have d2:=HD2.o V HJI.o.sam
     go_upto_if 45 with (fail)
     clear d0 d2
     go_cut [] (fun z=>∃ (nv:Value) (ns:List ByteArray),JoinInv p w U z q ka nv iv ns ts KL/\(ns= if ka= 6 then na.take (j+1) else[])/\(ka= 6->na.take (j+1)= nb.take (j+1)))
     case first=>
      by_cases h6:ka= 6
      ·subst h6
       have HN6:Hid (ns= na.take j):=I (by rw[HNX.o.1,if_pos rfl])
       have HN7:Hid (na.take j= nb.take j):=I (HNX.o.2 rfl)
       have HQA:Hid (na.length= ia.length):=I (HNL.o.1 rfl)
       have HQB:Hid (nb.length= ib.length):=I (HNL.o.2 rfl)
       obtain⟨s,hs⟩:∃ s,na[j]?= some s:=⟨_,List.getElem?_eq_getElem (by have:=HQA.o;omega)⟩
       obtain⟨s',hs'⟩:∃ s,nb[j]?= some s:=⟨_,List.getElem?_eq_getElem (by have:=HLEN.o;have:=HQB.o;omega)⟩
       obtain⟨b1,o1,rfl,hb1,hc1⟩:=HNA.o (by have:=HQA.o;omega)
       obtain⟨b2,o2,rfl,hb2,hc2⟩:=HNB.o (by have:=HLEN.o;have:=HQB.o;omega)
       have HS1:=I (fun z (hz:Below w.heap.size w z)=>(hz.cell (p:=⟨b1,o1+j,none⟩) hb1).trans (hc1 j s hs))
       have HS2:=I (fun z (hz:Below w.heap.size w z)=>(hz.cell (p:=⟨b2,o2+j,none⟩) hb2).trans (hc2 j s' hs'))
       have nlt1:j < na.length:=by have:=HQA.o;omega
       have nlt2:j < nb.length:=by have:=HLEN.o;have:=HQB.o;omega
       have d1:=HD1.o V HJI.o.sam
       have e1:=HE1.o V HJI.o.sam
       have s1:=HS1.o V HJI.o.bel
       have s2:=HS2.o V HJI.o.bel
       obtain⟨bq,hbq⟩:∃ b,(s.toList ==s'.toList)= b:=⟨_,rfl⟩
       have hbn:(s.toList !=s'.toList)=!bq:=by rw[← hbq];rfl
       have HBQ:=I hbq
       have HSS:=I (And.intro hs hs')
       clear hs hs' hc1 hc2
       go_upto_region 12 with (fail)
       cases bq with
       |false=>
        have HNO:Hid (joinT (.mk 6 na ia) (.mk 6 nb ib)= none):=I (by
         rw[z22 (by decide) (by decide)]
         split
         ·rfl
         ·rw[if_pos ⟨rfl,fun e=>by
           have h1:=HSS.o.1
           rw[e,HSS.o.2] at h1
           injection h1 with h1
           have:=HBQ.o
           rw[h1] at this
           simp at this⟩])
        have HRX:=I (HRR.o V HJI.o.sam)
        have HBX:=I HJI.o.bel
        have HQ:Hid (∀ n,Below V.heap.size V (V.drewN n)):=I fun n=>⟨rfl,rfl,rfl,Nat.le_refl _,fun _ _=>rfl⟩
        have HRQ:Hid (∀ n,Whole 45 (V.drewN n) r zT3):=I fun n=>HRX.o
        go_quiet (fail)
        go_wp2_with (first|((with_reducible refine ze 45 _ _ rfl rfl ?_ (r) (zT3) (zT3) (HRQ.o _) ?_ ?_ ?_ ?_ ?_ ?_);(exact wA rfl);rfl;rfl;rfl;kernel_rfl;exact(zx _ _ _ _ _ _ _);intro Z hz hb;have HZZ:=I hz;have HBZ:=I hb;clear hz hb))
        (try simp only[Exit.inBlock,Exit.then])
        refine bodyPost_ret (zi rfl _ _ r (zT3) rfl (.bool false) rfl HZZ.o rfl) rfl ?_
        exact⟨zT3,by rw[HNO.o];rfl,by rw[HNO.o];exact zJ (zf 0 (by decide +kernel)),(HBX.o.trans ((HQ.o _).mono HBX.o.size)).trans (HBZ.o.below (Nat.le_trans HBX.o.size (HQ.o _).size) HRG.o HRG.o)⟩
       |true=>
        have hse:s= s':=by
         have h:=eq_of_beq HBQ.o
         obtain⟨⟨l⟩⟩:=s
         obtain⟨⟨l'⟩⟩:=s'
         rw[toList_eq,toList_eq] at h
         rw[show l= l' from h]
        have HSE:=I hse
        clear hse
        have HQ:Hid (∀ n,Below V.heap.size V (V.drewN n)):=I fun n=>⟨rfl,rfl,rfl,Nat.le_refl _,fun _ _=>rfl⟩
        go_quiet (fail)
        go_upto_region 14 with (fail)
        obtain⟨N1,n1,hnv⟩:=z0O HJI.o.nown
        subst hnv
        obtain⟨is,hi,hy0,hy1,hy2⟩:=zT zaY
        have HI0:=I hi
        have HI1:=I hy0
        have HI2:=I hy1
        have HI3:=I hy2
        clear hi hy0 hy1 hy2 d1 e1 s1 s2
        obtain⟨Y,hY⟩:∃ Y,V.drewN nq= Y:=⟨_,rfl⟩
        have HJY:=I (HJI.o.below (hY▸HQ.o nq))
        rw[hY]
        clear hY
        refine zy 9 [(0,true),(1,true),(2,true),(3,true),(4,true),(5,true),(6,true),(7,false),(8,false)] (fun z=>z.cell? ⟨q,1,none⟩= some (Value.slice N1 ns.length n1)/\z.cell? ⟨w.heap.size,1,none⟩= some (Value.slice (some ⟨b1,o1,none⟩) na.length nc)/\z.cell? ⟨b1,o1+j,none⟩= some (Value.string s)) (by kernel_rfl) (by kernel_rfl) rfl (by intro c a d v w h;cases d<;>exact h) ?_
        have HJD:=I (HJY.o.below (Below.refl _ Y).drew)
        obtain⟨D,hD⟩:∃ D,Y.drew= D:=⟨_,rfl⟩
        have HJ:Hid (JoinInv p w U D q 6 (.slice N1 ns.length n1) iv ns ts KL):=I (hD▸HJD.o)
        rw[hD]
        clear hD HJY HJD
        have hs:D.cell? ⟨q,1,none⟩= some (Value.slice N1 ns.length n1)/\D.cell? ⟨w.heap.size,1,none⟩= some (Value.slice (some ⟨b1,o1,none⟩) na.length nc)/\D.cell? ⟨b1,o1+j,none⟩= some (Value.string s):=⟨by have:=HJ.o.box.range 1 (Value.slice N1 ns.length n1) rfl;rwa [Nat.zero_add] at this,HD1.o D HJ.o.sam,HS1.o D HJ.o.bel⟩
        refine z8 (some 58) (.pointer (some ⟨q,1,none⟩)) _ rfl rfl (by exact wA rfl) hs (fun z hz=>by go_simp) ?_
        go_frame
        refine z8 (some 59) (.slice N1 ns.length n1) _ rfl rfl (by exact wA rfl) hs (fun z hz=>by have d1:=hz.1;clear hz;go_simp) ?_
        go_frame
        refine z8 (some 60) (.pointer (some ⟨w.heap.size,1,none⟩)) _ rfl rfl (by exact wA rfl) hs (fun z hz=>by go_simp) ?_
        go_frame
        refine z8 (some 61) (.slice (some ⟨b1,o1,none⟩) na.length nc) _ rfl rfl (by exact wA rfl) hs (fun z hz=>by have d1:=hz.2.1;clear hz;go_simp) ?_
        go_frame
        refine zg (some 62) (.int .i64 j) _ _ rfl rfl rfl (by exact wA rfl) hs rfl ?_
        go_frame
        refine z8 (some 63) (.pointer (some ⟨b1,o1+j,none⟩)) _ rfl rfl (by exact wA rfl) hs (fun z hz=>by go_simp) ?_
        go_frame
        refine z8 (some 64) (.string s) _ rfl rfl (by exact wA rfl) hs (fun z hz=>by have d1:=hz.2.2;clear hz;go_simp) ?_
        go_frame
        have HBA:=I (zd D (.cells ⟨[Value.string s]⟩ 9))
        have hs2:(D.alloc (.cells ⟨[Value.string s]⟩ 9)).cell? ⟨q,1,none⟩= some (Value.slice N1 ns.length n1)/\(D.alloc (.cells ⟨[Value.string s]⟩ 9)).cell? ⟨w.heap.size,1,none⟩= some (Value.slice (some ⟨b1,o1,none⟩) na.length nc)/\(D.alloc (.cells ⟨[Value.string s]⟩ 9)).cell? ⟨b1,o1+j,none⟩= some (Value.string s):=⟨(HBA.o.cell (p:=⟨q,1,none⟩) HJ.o.box.lt).trans hs.1,(HBA.o.cell (p:=⟨w.heap.size,1,none⟩) (HAA.o D HJ.o.sam).lt).trans hs.2.1,(HBA.o.cell (p:=⟨b1,o1+j,none⟩) (Nat.lt_of_lt_of_le hb1 HJ.o.bel.size)).trans hs.2.2⟩
        refine z0I (some 65) (.slice (some ⟨D.heap.size,0,none⟩) 1 1) (D.alloc (.cells ⟨[Value.string s]⟩ 9)) _ rfl rfl (by exact wA rfl) (z7R 23 _ rfl 9 is _ s rfl Tryz.underlying23 HI0.o HI1.o HI2.o) hs2 ?_
        go_frame
        have HNN:Hid (ns.length<=1000):=I (by rw[HN6.o,List.length_take];have:=HN1000.o;omega)
        refine zbF (some 66) _ _ _ 23 rfl rfl rfl (by exact wA rfl) U.heap.size 9 is (.string ⟨#[]⟩) 1 16 encN1 Tryz.underlying23 HI0.o HI1.o HI2.o HI3.o rfl (by decide) z6O (.slice N1 ns.length n1) ns rfl (HJ.o.nown.below HBA.o) D.heap.size 1 s (by intro u hu;simp only[encN1,List.mem_singleton] at hu;rw[hu];rfl) rfl (z0w D [Value.string s] 9) (by have:=HNN.o;unfold maxLen;omega) (by have:=HNN.o;omega) (Nat.le_trans HJ.o.sz HBA.o.size) ?_
        intro v' u8 hown hg hblk
        have HJN:=I (HJ.o.name (z2Z HBA.o hg) hown hblk HBA.o.size)
        have hgD:=z2Z HBA.o hg
        have hq8:u8.heap[q]?= D.heap[q]?:=hgD.block q HJ.o.box.lt (fun e=>by have:=(HJ.o.nb e.symm).1;have:=HJ.o.hi;omega)
        have hw8:u8.heap[w.heap.size]?= D.heap[w.heap.size]?:=hgD.block _ (HAA.o D HJ.o.sam).lt (fun e=>by have:=(HJ.o.nb e.symm).1;have:=HAU.o.lt;omega)
        have hb8:u8.heap[b1]?= D.heap[b1]?:=hgD.block _ (Nat.lt_of_lt_of_le hb1 HJ.o.bel.size) (fun e=>by have:=(HJ.o.nb e.symm).1;have:=HJ.o.WU;omega)
        have hse:u8.cell? ⟨q,1,none⟩= some (Value.slice N1 ns.length n1)/\u8.cell? ⟨w.heap.size,1,none⟩= some (Value.slice (some ⟨b1,o1,none⟩) na.length nc)/\u8.cell? ⟨b1,o1+j,none⟩= some (Value.string s):=⟨(World.cell?_of_block (a:=⟨q,1,none⟩) hq8).trans hs.1,(World.cell?_of_block (a:=⟨w.heap.size,1,none⟩) hw8).trans hs.2.1,(World.cell?_of_block (a:=⟨b1,o1+j,none⟩) hb8).trans hs.2.2⟩
        have f5:u8.frozen? ⟨q,1,none⟩= false:=(HJ.o.box.keep hq8).frozV (j:=1) (show 1 < 3 by decide)
        obtain⟨XA,xc,rfl⟩:=z0O hown
        rw[List.length_append] at HJN
        clear hown hg hblk hgD hq8 hw8 hb8
        refine⟨hse,?_⟩
        go_frame
        refine z0h ?_
        have d5:=hse.1
        clear hse hs hs2
        go_wp2
        go_meet
        case rel=>
         refine⟨_,ns ++ [s],HJN.o,?_,fun _=> ?_⟩
         ·(first|rw[if_pos rfl]|rw[if_pos trivial]|simp only[if_true]);rw[List.take_add_one,HSS.o.1,HN6.o];rfl
         ·rw[List.take_add_one,List.take_add_one,HSS.o.1,HSS.o.2,HSE.o,HN7.o]
      ·have h6b:(ka ==6)= false:=by rw[beq_eq_false_iff_ne];exact h6
       go_wp2
       go_meet
       case rel=>exact⟨nv,ns,HJI.o,by rw[if_neg h6,HNX.o.1,if_neg h6],fun h=>absurd h h6⟩
     case rest=>
     obtain⟨nv2,ns2,hji2,hnx2,hnn4⟩:=hcut
     obtain⟨V,hV⟩:∃ z,z= wc:=⟨_,rfl⟩
     subst hV
     have HJI:=I hji2
     have HNX:=I (And.intro hnx2 hnn4)
     have HPA:Hid (w.heap.size < V.heap.size):=I (HAA.o V HJI.o.sam).lt
     have HPB:Hid (w.heap.size+1 < V.heap.size):=I (HBB.o V HJI.o.sam).lt
     clear hji2 hnx2 hnn4
     obtain⟨x,hx⟩:∃ x,ia[j]?= some x:=⟨_,List.getElem?_eq_getElem (by omega)⟩
     obtain⟨y,hy⟩:∃ x,ib[j]?= some x:=⟨_,List.getElem?_eq_getElem (by have:=HLEN.o;omega)⟩
     obtain⟨b3,o3,rfl,hb3,hc3⟩:=HIA.o (by omega)
     obtain⟨b4,o4,rfl,hb4,hc4⟩:=HIB.o (by have:=HLEN.o;omega)
     obtain⟨c1x,hl1x,hr1x,hk1x⟩:=hc3 j x hx
     obtain⟨c2x,hl2x,hr2x,hk2x⟩:=hc4 j y hy
     have HBV:Hid (Below w.heap.size w V):=I HJI.o.bel
     have HR3:=I (fun z (hz:Below V.heap.size V z)=>zc hr1x (HBV.o.trans (hz.mono HBV.o.size)) hb3)
     have HR4:=I (fun z (hz:Below V.heap.size V z)=>zc hr2x (HBV.o.trans (hz.mono HBV.o.size)) hb4)
     have HL3x:=I hl1x
     have HL4x:=I hl2x
     have HCA:=I (fun z (hz:Below V.heap.size V z)=>(hz.cell (p:=⟨w.heap.size,2,none⟩) HPA.o).trans (HD2.o V HJI.o.sam))
     have HCB:=I (fun z (hz:Below V.heap.size V z)=>(hz.cell (p:=⟨w.heap.size+1,2,none⟩) HPB.o).trans (HE2.o V HJI.o.sam))
     obtain⟨bj,hbj⟩:∃ b,(joinT x y).isSome= b:=⟨_,rfl⟩
     have HJC0:=I (fun z (hz:Below V.heap.size V z)=>IH.o x (List.mem_of_getElem? hx) y (HJA.o x (List.mem_of_getElem? hx)) (HJB.o y (List.mem_of_getElem? hy)) p c1x c2x z (fun b hb=>Nat.lt_of_lt_of_le (HP.o b hb) (Nat.le_trans HBV.o.size hz.size)) (hk1x.next (HBV.o.trans (hz.mono HBV.o.size))) (hk2x.next (HBV.o.trans (hz.mono HBV.o.size))))
     have HJC:Hid (∀ z,Below V.heap.size V z->Calls Tryz.prog 82 #[.agg ⟨c1x⟩,.agg ⟨c2x⟩] z fun e w'=>∃ cs,e= .returned (.tuple #[.agg ⟨cs⟩,.bool bj])/\KeptT (fun b=>p b\/z.heap.size<=b) w' cs ((joinT x y).getD (pT 0))/\Below z.heap.size z w'):=I (fun z hz=>by have h:=HJC0.o z hz;unfold z2E at h;rw[hbj] at h;exact h)
     have HBJ:=I hbj
     have HX:=I hx
     have HY:=I hy
     clear hx hy hc3 hc4 hl1x hr1x hk1x hl2x hr2x hk2x HJC0 hbj hb3 hb4
     have ilt1:j < ia.length:=by omega
     have ilt2:j < ib.length:=by have:=HLEN.o;omega
     have d2:=HD2.o V HJI.o.sam
     have e2:=HE2.o V HJI.o.sam
     go_upto_region 15 with (fail)
     clear d2 e2
     have hs:Below V.heap.size V V.drew:=(Below.refl _ _).drew
     go_cut [8,9] (fun v n z=>∃ q c,v= .pointer (some ⟨q,0,none⟩)/\n= .bool bj/\Whole 45 z q c/\c.length= 3/\(∀ u∈c,u.oneCell'= true)/\KeptT (fun b=>(p) b\/V.heap.size<=b) z c ((joinT x y).getD (pT 0))/\Below V.heap.size V z)
     case first=>
      refine z0S (.take 0 (.take 1 (.take 2 (.take 3 (.take 4 (.take 5 (.take 6 (.take 7 (.take 8 (.take 9 (.two 10 14 (.take 11 (.take 12 (.take 13 (.act 14 (.act 15 (.take 16 .done)))))) (.act 10 (.take 11 (.take 12 (.take 13 (.act 15 (.take 16 .done))))))))))))))))) (fun z=>Below V.heap.size V z) (by kernel_rfl) (by kernel_rfl) (by kernel_rfl) rfl (by intro c a d v w h;cases d<;>exact h) ?_
      refine zq (some 69) (.pointer (some ⟨w.heap.size,2,none⟩)) _ rfl rfl (by exact wA rfl) hs (fun z hz=>by go_simp) ?_
      go_frame
      refine zq (some 70) (.slice (some ⟨b3,o3,none⟩) ia.length c) _ rfl rfl (by exact wA rfl) hs (fun z hz=>by have d1:=HCA.o z hz;clear hz;go_simp) ?_
      go_frame
      refine z02 (some 71) (.int .i64 j) _ _ rfl rfl rfl (by exact wA rfl) hs rfl ?_
      go_frame
      refine zq (some 72) (.pointer (some ⟨b3,o3+j*3,none⟩)) _ rfl rfl (by exact wA rfl) hs (fun z hz=>by go_simp) ?_
      go_frame
      refine zq (some 73) (.agg ⟨c1x⟩) _ rfl rfl (by exact wA rfl) hs (fun z hz=>zt 45 rfl (b3) (o3+j*3) (c1x) _ rfl (HR3.o z hz) Tryz.underlying45 rfl (by rw[HL3x.o];kernel_rfl)) ?_
      go_frame
      refine zq (some 74) (.pointer (some ⟨w.heap.size+1,2,none⟩)) _ rfl rfl (by exact wA rfl) hs (fun z hz=>by go_simp) ?_
      go_frame
      refine zq (some 75) (.slice (some ⟨b4,o4,none⟩) ib.length d) _ rfl rfl (by exact wA rfl) hs (fun z hz=>by have d1:=HCB.o z hz;clear hz;go_simp) ?_
      go_frame
      refine z02 (some 76) (.int .i64 j) _ _ rfl rfl rfl (by exact wA rfl) hs rfl ?_
      go_frame
      refine zq (some 77) (.pointer (some ⟨b4,o4+j*3,none⟩)) _ rfl rfl (by exact wA rfl) hs (fun z hz=>by go_simp) ?_
      go_frame
      refine zq (some 78) (.agg ⟨c2x⟩) _ rfl rfl (by exact wA rfl) hs (fun z hz=>zt 45 rfl (b4) (o4+j*3) (c2x) _ rfl (HR4.o z hz) Tryz.underlying45 rfl (by rw[HL4x.o];kernel_rfl)) ?_
      go_frame
      refine z2o ?_ ?_
      ·have h0c1:Below V.heap.size V V.drew:=hs
       refine z1m (some 79) 82 Tryz.func82 (by kernel_rfl) (by kernel_rfl) [.agg ⟨c1x⟩,.agg ⟨c2x⟩] _ _ _ rfl rfl rfl (by exact wA rfl) rfl ?_
       refine(HJC.o V.drew hs).mono ?_
       rintro e w1 ⟨c1,rfl,hkc1,hbc1⟩
       have hlc1:=(zo hkc1.typ).1
       have hoc1:=(zo hkc1.typ).2
       have hs:Below V.heap.size V w1:=hs.trans (hbc1.mono hs.size)
       refine⟨_,rfl,hs,?_⟩
       go_frame
       refine z02 (some 68) (.tuple #[.agg ⟨c1⟩,.bool bj]) _ _ rfl rfl rfl (by exact wA rfl) hs rfl ?_
       go_frame
       refine zq (some 80) (.agg ⟨c1⟩) _ rfl rfl (by exact wA rfl) hs (fun z hz=>by go_simp) ?_
       go_frame
       refine zq (some 81) (.bool bj) _ rfl rfl (by exact wA rfl) hs (fun z hz=>by go_simp) ?_
       go_frame
       refine z0P (some 8) (.pointer (some ⟨w1.heap.size,0,none⟩)) (w1.alloc (.cells zT3.toArray 45)) _ rfl rfl (by exact wA rfl) (z0f 45 rfl _ _ HT0.o HT1.o) (hs.trans ((zd w1 _).mono hs.size)) ?_
       go_frame
       have hbw2:=zd w1 (.cells zT3.toArray 45)
       have hww2:Whole 45 (w1.alloc (.cells zT3.toArray 45)) w1.heap.size zT3:=Whole.new w1 zT3 45
       have hgw2:V.heap.size<=w1.heap.size:=hs.size
       have hs:Below V.heap.size V (w1.alloc (.cells zT3.toArray 45)):=hs.trans (hbw2.mono hs.size)
       have hzw2:w1.heap.size <(w1.alloc (.cells zT3.toArray 45)).heap.size:=hww2.lt
       generalize w1.alloc (.cells zT3.toArray 45)= w2 at*
       refine z0g none 45 _ _ _ rfl rfl rfl (by exact wA rfl) (w1.heap.size) zT3 c1 hww2 (by rw[hlc1];rfl) rfl rfl (by rw[hlc1];kernel_rfl) hoc1 ?_
       intro wf hwf hbf
       have hsf:Below V.heap.size V wf:=hs.trans (hbf.below hs.size hgw2 hgw2)
       refine⟨hsf,?_⟩
       go_frame
       refine z0s (some 9) (.bool bj) _ _ rfl rfl rfl (by exact wA rfl) hsf rfl ?_
       go_frame
       refine z12 ?_
       go_wp2
       go_meet
       case rel=>exact⟨_,c1,rfl,rfl,hwf,hlc1,hoc1,hkc1.to (fun b h1 h2=>⟨h1.imp id fun h=>Nat.le_trans h0c1.size h,(hbf.block b (Nat.lt_trans h2 hzw2) (Nat.ne_of_lt h2) (Nat.ne_of_lt h2)).trans (hbw2.block b h2)⟩) (Nat.le_trans hbw2.size hbf.size),hsf⟩
      ·refine z0P (some 8) (.pointer (some ⟨V.drew.heap.size,0,none⟩)) (V.drew.alloc (.cells zT3.toArray 45)) _ rfl rfl (by exact wA rfl) (z0f 45 rfl _ _ HT0.o HT1.o) (hs.trans ((zd V.drew _).mono hs.size)) ?_
       go_frame
       have hbw1:=zd V.drew (.cells zT3.toArray 45)
       have hww1:Whole 45 (V.drew.alloc (.cells zT3.toArray 45)) V.drew.heap.size zT3:=Whole.new V.drew zT3 45
       have hgw1:V.heap.size<=V.drew.heap.size:=hs.size
       have hs:Below V.heap.size V (V.drew.alloc (.cells zT3.toArray 45)):=hs.trans (hbw1.mono hs.size)
       have hzw1:V.drew.heap.size <(V.drew.alloc (.cells zT3.toArray 45)).heap.size:=hww1.lt
       generalize V.drew.alloc (.cells zT3.toArray 45)= w1 at*
       have hneP:∀ b,((p) b\/w1.heap.size<=b)->b≠V.drew.heap.size:=fun b h1 e=>by
        rcases h1 with h|h
        ·have:=Nat.lt_of_lt_of_le (HP.o b h) HBV.o.size
         have:=hgw1
         omega
        ·omega
       have h0c2:Below V.heap.size V w1:=hs
       refine z1m (some 79) 82 Tryz.func82 (by kernel_rfl) (by kernel_rfl) [.agg ⟨c1x⟩,.agg ⟨c2x⟩] _ _ _ rfl rfl rfl (by exact wA rfl) rfl ?_
       refine(HJC.o w1 hs).mono ?_
       rintro e w2 ⟨c2,rfl,hkc2,hbc2⟩
       have hlc2:=(zo hkc2.typ).1
       have hoc2:=(zo hkc2.typ).2
       have hs:Below V.heap.size V w2:=hs.trans (hbc2.mono hs.size)
       refine⟨_,rfl,hs,?_⟩
       go_frame
       have hww2:=hww1.keep (hbc2.block _ hww1.lt)
       refine z02 (some 68) (.tuple #[.agg ⟨c2⟩,.bool bj]) _ _ rfl rfl rfl (by exact wA rfl) hs rfl ?_
       go_frame
       refine zq (some 80) (.agg ⟨c2⟩) _ rfl rfl (by exact wA rfl) hs (fun z hz=>by go_simp) ?_
       go_frame
       refine zq (some 81) (.bool bj) _ rfl rfl (by exact wA rfl) hs (fun z hz=>by go_simp) ?_
       go_frame
       refine z0g none 45 _ _ _ rfl rfl rfl (by exact wA rfl) (V.drew.heap.size) zT3 c2 hww2 (by rw[hlc2];rfl) rfl rfl (by rw[hlc2];kernel_rfl) hoc2 ?_
       intro wf hwf hbf
       have hsf:Below V.heap.size V wf:=hs.trans (hbf.below hs.size hgw1 hgw1)
       refine⟨hsf,?_⟩
       go_frame
       refine z0s (some 9) (.bool bj) _ _ rfl rfl rfl (by exact wA rfl) hsf rfl ?_
       go_frame
       refine z12 ?_
       go_wp2
       go_meet
       case rel=>exact⟨_,c2,rfl,rfl,hwf,hlc2,hoc2,hkc2.to (fun b h1 h2=>⟨h1.imp id fun h=>Nat.le_trans h0c2.size h,hbf.block b h2 (hneP b h1) (hneP b h1)⟩) hbf.size,hsf⟩
     case rest=>
     obtain⟨q5,c5,rfl,rfl,hw5,hl5,ho5,hk5,hs5⟩:=hcut
     obtain⟨V2,hV2⟩:∃ z,z= wc:=⟨_,rfl⟩
     subst hV2
     have HC5:=I hl5
     have HO5:=I ho5
     have HK5:=I hk5
     have HW5:=I hw5
     have HS5:=I hs5
     clear hw5 hl5 ho5 hk5 hs5
     cases bj with
     |false=>
      have HNO:Hid (joinT (.mk ka na ia) (.mk ka nb ib)= none):=I (by
       rw[z22 H7.o H7.o]
       rw[z4I HX.o HY.o (by cases h:joinT x y with|none=>rfl|some t=>have:=HBJ.o;rw[h] at this;cases this)]
       split
       ·rfl
       ·split<;>rfl)
      have HBX:Hid (Below w.heap.size w V2):=I (HBV.o.trans (HS5.o.mono HBV.o.size))
      have HRX:Hid (Whole 45 V2 r zT3):=I ((HRR.o V HJI.o.sam).keep (HS5.o.block r (HRR.o V HJI.o.sam).lt))
      go_wp2_with (first|((with_reducible refine ze 45 _ _ rfl rfl ?_ (r) (zT3) (zT3) HRX.o ?_ ?_ ?_ ?_ ?_ ?_);(exact wA rfl);rfl;rfl;rfl;kernel_rfl;exact(zx _ _ _ _ _ _ _);intro Z hz hb;have HZZ:=I hz;have HBZ:=I hb;clear hz hb))
      (try simp only[Exit.inBlock,Exit.then])
      refine bodyPost_ret (zi rfl _ _ r (zT3) rfl (.bool false) rfl HZZ.o rfl) rfl ?_
      exact⟨zT3,by rw[HNO.o];rfl,by rw[HNO.o];exact zJ (zf 0 (by decide +kernel)),HBX.o.trans (HBZ.o.below HBX.o.size HRG.o HRG.o)⟩
     |true=>
      obtain⟨t,ht⟩:∃ t,joinT x y= some t:=by
       cases h:joinT x y with
       |none=>have:=HBJ.o;rw[h] at this;cases this
       |some t=>exact⟨t,rfl⟩
      have HT:=I ht
      have HK5t:Hid (KeptT (fun b=>p b\/V.heap.size<=b) V2 c5 t):=I (by have h:=HK5.o;rw[ht] at h;exact h)
      clear ht
      have HJ2:=I (HJI.o.below HS5.o)
      obtain⟨IA,ic,hif⟩:=z0O HJI.o.iown
      subst hif
      have HU7:Hid (Below V.heap.size V (V2.alloc (.cells ⟨c5⟩ 45))):=I (HS5.o.trans ((zd V2 (.cells ⟨c5⟩ 45)).mono HS5.o.size))
      have HK7:Hid (KeptT (fun b=>p b\/V.heap.size<=b) (V2.alloc (.cells ⟨c5⟩ 45)) c5 t):=I (HK5t.o.next (zd V2 (.cells ⟨c5⟩ 45)))
      have HC7:Hid (∀ i u,(enc3 ⟨c5,HC5.o⟩)[i]?= some u->(V2.alloc (.cells ⟨c5⟩ 45)).cell? ⟨V2.heap.size,i,none⟩= some u):=I (z0w V2 c5 45)
      have HS7:Hid (U.heap.size<=(V2.alloc (.cells ⟨c5⟩ 45)).heap.size):=I (Nat.le_trans HJI.o.sz HU7.o.size)
      have HOW:Hid (OwnSl 45 3 enc3 (V2.alloc (.cells ⟨c5⟩ 45)) U.heap.size (.slice IA KL.length ic) KL):=I (HJI.o.iown.below HU7.o)
      have HKN:Hid (KL.length<=1000):=I (by have h1:=HJI.o.len;have h2:=HTL.o;have h3:=HI1000.o;omega)
      have HM63:Hid (KL.length+1<=maxLen):=I (by have:=HKN.o;unfold maxLen;omega)
      have HM88:Hid ((KL.length+1) *56<=140737488355328):=I (by have:=HKN.o;omega)
      have d6:V2.cell? ⟨q,2,none⟩= some (.slice IA KL.length ic):=by have:=HJ2.o.box.range 2 (.slice IA KL.length ic) rfl;rwa [Nat.zero_add] at this
      go_wp2_with (first|((with_reducible refine za 45 _ rfl ?_ (q5) (0) (c5) _ rfl HW5.o.range Tryz.underlying45 rfl ?_ ?_);(exact wA rfl);rw[HC5.o];kernel_rfl)|((with_reducible refine z0M 43 _ rfl ?_ 45 jt _ c5 ?_ Tryz.underlying43 HT0.o HT1.o ?_ ?_ ?_ ?_);(exact wA rfl);rfl;rw[HC5.o];exact HT2.o;rw[HC5.o];decide;rw[HC5.o];decide)|(at_builtin;(refine z2H rfl _ _ 43 rfl U.heap.size 45 jt _ 3 56 enc3 Tryz.underlying43 HT0.o HT1.o HT2.o HT3.o rfl (by decide) z3u (.slice IA KL.length ic) KL rfl HOW.o V2.heap.size 1 ⟨c5,HC5.o⟩ HO5.o rfl HC7.o HM63.o HM88.o HS7.o ?_;intro v' u8 hown hg hblk;have HJN:=I (HJI.o.item (u7:=V2.alloc (.cells ⟨c5⟩ 45)) HU7.o hg (c:=⟨c5,HC5.o⟩) HK7.o hown hblk);have hw8:=HJI.o.box.keep ((hg.block q (Nat.lt_of_lt_of_le (Nat.lt_of_lt_of_le HJI.o.hi HJI.o.sz) HU7.o.size) (fun e=>by have:=(HJI.o.ib e.symm).1;have:=HJI.o.hi;omega)).trans (HU7.o.block q (Nat.lt_of_lt_of_le HJI.o.hi HJI.o.sz)));obtain⟨XA,xc,rfl⟩:=z0O hown;rw[List.length_append] at HJN;clear hown hg hblk;have d5:u8.cell? ⟨q,2,none⟩= some (.slice IA KL.length ic):=(by have:=hw8.range 2 (.slice IA KL.length ic) rfl;rwa [Nat.zero_add] at this);have f5:u8.frozen? ⟨q,2,none⟩= false:=hw8.frozV (j:=2) (show 2 < 3 by decide);clear hw8)))
      go_roundg g
      case measure=>omega
      case rel=>exact⟨j+1,nv2,_,ns2,ts ++ [t],_,by omega,by go_num,HJN.o,z4A HTS.o HX.o HY.o HT.o,HNX.o.1,HNX.o.2⟩
end
end Go.Proofs.YtmpbepjjbaeebaaGreatDoor
