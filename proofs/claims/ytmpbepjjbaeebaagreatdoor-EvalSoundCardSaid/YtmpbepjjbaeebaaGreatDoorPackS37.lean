/- Parts of a proof: PList. -/
import Derived.Test.YtmpbepjjbaeebaaGreatDoorPackS7
import Derived.Test.YtmpbepjjbaeebaaGreatDoorPackS36
set_option maxHeartbeats 8000000
set_option maxRecDepth 100000
set_option linter.unusedVariables false
set_option linter.unusedSimpArgs false
namespace Go.Proofs.YtmpbepjjbaeebaaGreatDoor
open Go Go.RowKit
theorem z4w {P:Program} {o:Oper} {a:Act} {w:World} (t:TypeId) (x:Operand) (ho:o.op= .buildSlice t 1 #[(0,x)]) (e:TypeId) (i:TypeInfo) (z:Value) (ks:List Value) (hx:a.eval x= .agg ks.toArray)
  (ht:P.underlying t= some (.slice e)) (hi:P.info? e= some i) (hz:i.zero= some z) (hsz:i.size= ks.length) (h0:0 < ks.length) (hmax:ks.length<=1000):
  (execOp a.eval o).run P w= .ok (.value (.slice (some ⟨w.heap.size,0,none⟩) 1 1)) (w.alloc (.cells ⟨ks⟩ e)):=by
 unfold execOp
 have hr:=z5J (P:=P) w t e i z ks ht hi hz hsz h0 hmax
 simp only[ho,List.map_toArray,List.map_cons,List.map_nil,hx,Sem.run_bind,Sem.run_pure,Result.andThen_ok,hr]
def plsC (v:Value):List Value:= .int .i64 16:: .string ⟨#[]⟩::(zVc ++ [.slice none 0 0,v])
def plsE (l:List ET):ET:= .mk 16 ⟨#[]⟩ zV [] l
theorem z74 {v:Value} (h:v.oneCell'= true):∀ x∈plsC v,x.oneCell'= true:=by
 intro x hx;simp only[plsC,zVc,List.mem_cons,List.mem_append,List.not_mem_nil,or_false] at hx;rcases hx with rfl|rfl|(rfl|rfl|rfl|rfl|rfl|rfl)|rfl|rfl<;>first|rfl|exact h
theorem Whole.put {T:TypeId} {w:World} {b:Nat} {cs:List Value} (h:Whole T w b cs) (k:Nat) (v:Value):Whole T (w.setCell ⟨b,k,none⟩ v) b (cs.set k v):=by
 show(w.heap.modify b _)[b]?= _
 have h2:w.heap[b]?= some (.cells ⟨cs⟩ T (0,0)):=h
 rw[Array.getElem?_modify,if_pos rfl,h2]
 simp
theorem Whole.thaw {T:TypeId} {w:World} {b:Nat} {cs:List Value} (h:Whole T w b cs) (k:Nat):w.frozen? ⟨b,k,none⟩= false:=by
 unfold World.frozen?
 have h2:w.heap[b]?= some (.cells ⟨cs⟩ T (0,0)):=h
 simp[h2]
theorem PS.blocks {T:TypeId} {pb tb c:Nat} {E:Int} {toks:List Tok} {w w':World} {i:Nat} {d:Int} (h:PS T pb tb c E toks w i d) (hp:w'.heap[pb]?= w.heap[pb]?) (ht:w'.heap[tb]?= w.heap[tb]?) (hs:w.heap.size<=w'.heap.size):PS T pb tb c E toks w' i d:=
 ⟨hp.trans h.blk,h.ne,⟨Nat.lt_of_lt_of_le h.lt.1 hs,Nat.lt_of_lt_of_le h.lt.2 hs⟩,fun j t hj a v hv=>(World.cell?_of_block (a:=⟨tb,j*6+a,none⟩) ht).trans (h.tok j t hj a v hv),h.len⟩
theorem zaQ {w:World} {base:Nat} {e:TypeId} {size n:Nat} {v:Value} {xs:List Value} (h:w.ownsRow base e size v n xs) (hn:0 < n):
  ∃ g c,v= .slice (some ⟨g,0,none⟩) n c/\base<=g/\g < w.heap.size/\∀ j u,xs[j]?= some u->w.cell? ⟨g,j,none⟩= some u:=by
 rcases h.2 with ⟨_,h0⟩|⟨g,cap,cur,hv,hb,hg,hc,_⟩
 ·omega
 ·refine⟨g,cap,hv,hb,?_,fun j u hu=> ?_⟩
  ·rcases Nat.lt_or_ge g w.heap.size with h2|h2
   ·exact h2
   ·rw[Array.getElem?_eq_none h2] at hg;cases hg
  ·have:=World.ownsRow.cells h (g:=g) (by rw[hv];rfl) j u hu
   rw[Addr.add_mid,Nat.zero_add] at this
   exact this
theorem zaE {w:World} {base b:Nat} {e:TypeId} {k n:Nat} {v:Value} {xs:List Value} (h:w.ownsRow base e k v n xs) (hb:b<=base):w.ownsRow b e k v n xs:=
 ⟨h.1,h.2.imp id fun⟨g,cap,cur,h1,h2,h3⟩=>⟨g,cap,cur,h1,Nat.le_trans hb h2,h3⟩⟩
theorem z4T {w:World} {base:Nat} {e:TypeId} {size:Nat} {v:Value} {n:Nat} {xs:List Value} (h:w.ownsRow base e size v n xs) {j:Nat} (hj:v.ownBlock= some j):base<=j:=by
 rcases h.2 with ⟨rfl,_⟩|⟨g,cap,cur,rfl,hg,_⟩
 ·cases hj
 ·have:g= j:=by simpa [Value.ownBlock] using hj
  omega
theorem z1u {w w':World} {base:Nat} {e:TypeId} {size:Nat} {v:Value} {n:Nat} {xs:List Value} (h:w.ownsRow base e size v n xs) (hb:∀ b,v.ownBlock= some b->w'.heap[b]?= w.heap[b]?):w'.ownsRow base e size v n xs:=
 ⟨h.1,h.2.imp id fun⟨g,cap,cur,h1,h2,h3,h4⟩=>⟨g,cap,cur,h1,h2,(hb g (by rw[h1];rfl)).trans h3,h4⟩⟩
theorem z9l {p:Nat->Prop} {w:World} {g c:Nat} {ca cb:List Value} {x y:ET} (hg:∀ j v,(ca ++ cb)[j]?= some v->w.cell? ⟨g,j,none⟩= some v) (hlt:g < w.heap.size) (hp:p g) (ha:KeptP p w ca x) (hb:KeptP p w cb y):KeptP p w (plsC (.slice (some ⟨g,0,none⟩) 2 c)) (plsE [x,y]):=by
 have la:=ha.len
 have lb:=hb.len
 refine ExpAt.of (zf 16 (by decide +kernel)) (Nat.zero_le _) (z2F _ _ 0 0 0 ⟨#[]⟩ (zf 0 (by decide +kernel)) (zf 0 (by decide +kernel)) (by decide +kernel) (Nat.zero_le _)) (SlAt.nil _ _ 1 _) (by show 2<=_;unfold maxLen;decide) ?_
 refine⟨by show 2<=_;decide,_,_,rfl,fun _=>⟨g,0,rfl,hlt,fun i z hz=> ?_⟩⟩
 have hr:∀ (o:Nat) (cs:List Value),(∀ j v,cs[j]?= some v->(ca ++ cb)[o+j]?= some v)->(only w p).rangeAt g o cs:=by
  intro o cs h j v hv
  exact zu.2 ⟨hp,hg (o+j) v (h j v hv)⟩
 match i,hz with
 |0,hz=>
  obtain rfl:x= z:=by simpa using hz
  exact⟨ca,la,hr _ _ fun j v hv=>by rw[show 0+0*10+j= j by omega,List.getElem?_append_left (List.getElem?_eq_some_iff.1 hv).1];exact hv,ha⟩
 |1,hz=>
  obtain rfl:y= z:=by simpa using hz
  exact⟨cb,lb,hr _ _ fun j v hv=>by rw[show 0+1*10+j= ca.length+j by omega,List.getElem?_append_right (by omega),show ca.length+j - ca.length= j by omega];exact hv,hb⟩
 |i+2,hz=>simp at hz
section
variable {pb tb c:Nat} {E:Int} {toks:List Tok}
theorem zdm {i j k h:Nat} {x y:ET} (hno:isB toks i ⟨#[93]⟩= false) (hsub:PCon pb tb c E toks 98 i j h x) (hcm:isB toks j ⟨#[44]⟩= true) (hsub2:PCon pb tb c E toks 98 (j+1) k h y) (hbr:isB toks k ⟨#[93]⟩= true):
  PCon pb tb c E toks 252 i (k+1) h (plsE [x,y]):=by
 intro w d h h0 hd
 have hnc:isB toks k ⟨#[44]⟩= false:=z1g hbr (by decide +kernel)
 obtain⟨i0,hi,hz0,hz1,hz2⟩:=info_parts z7K
 have HI0:=I hi
 have HZ0:=I hz0
 have HZ1:=I hz1
 have HZ2:=I hz2
 have HSUB:=I hsub
 have HSUB2:=I hsub2
 have HNO:=I hno
 have HCM:=I hcm
 have HBR:=I hbr
 have HNC:=I hnc
 clear hi hz0 hz1 hz2 hsub hsub2 hno hcm hbr hnc
 go_enter Tryz.func252,Tryz.ntmps252
 go_upto_region 1 with (fail)
 have HR0:=I (Whole.new w zEc 29)
 have HB0:=I (zd w (.cells zEc.toArray 29))
 have hz:=z0r
 rw[hz]
 clear hz
 have HRW:Hid (w.heap.size <(w.alloc (.cells zEc.toArray 29)).heap.size):=I (by simp)
 generalize w.alloc (.cells zEc.toArray 29)= W at*
 obtain⟨p,hp⟩:∃ p,w.heap.size= p:=⟨_,rfl⟩
 rw[hp] at HR0 HRW
 rw[hp]
 have HP:=I hp
 have HS0:=I (h.keep HB0.o)
 have HPN:Hid (p≠pb/\p≠tb):=I ⟨by have:=h.lt;omega,by have:=h.lt;omega⟩
 have H:=I h
 have HD:=I (And.intro h0 hd)
 clear hp h h0 hd
 go_upto_region 2 with (first|((with_reducible refine z0G 29 _ _ rfl rfl ?hwe W ?zne (plsC (.slice none 0 0)) ?hz1 ?hz2 ?hz3 ?hz4 ?hz5 ?hz6 ?_);(case hwe=>exact wA rfl);(case hz1=>rfl);(case hz2=>rfl);(case hz3=>rfl);(case hz4=>rfl);(case hz5=>kernel_rfl);(case hz6=>exact z74 rfl);intro W2 hz hb hlt;have HX2:=I hz;have HB2:=I hb;have HLT2:=I hlt;clear hz hb hlt))
 obtain⟨X,hX⟩:∃ X,W.heap.size= X:=⟨_,rfl⟩
 rw[hX] at HX2 HB2 HLT2
 rw[hX]
 have HXG:Hid (p < X/\X≠pb/\X≠tb):=I ⟨by have:=HRW.o;omega,by have:=HS0.o.lt;omega,by have:=HS0.o.lt;omega⟩
 have hB12:Below W.heap.size W W2:=by rw[hX];exact HB2.o
 have HR2:=I (HR0.o.keep (hB12.block p HRW.o))
 have HS2:=I (HS0.o.keep hB12)
 have HBW2:Hid (But w W2 pb pb):=I ((But.of_below HB0.o pb pb).trans (But.of_below hB12 pb pb))
 clear hX hB12 HB2 HLT2 HS0 HR0
 go_wp2_with (go_at_call 143;refine(zG HS2.o HNO.o).mono ?_;rintro e v0 ⟨rfl,h1,h2⟩;have HT0:=I h1;have HTB0:=I h2;clear h1 h2)
 go_loopg [] 2 (fun q u=>Whole 29 u p zEc/\But w u pb pb/\X < u.heap.size/\((q= 2/\Whole 29 u X (plsC (.slice none 0 0))/\PSt pb tb c E toks u i d)\/
  (q= 1/\∃ ca g c',Whole 29 u X (plsC (.slice (some ⟨g,0,none⟩) 1 c'))/\u.ownsRow (X+1) 29 10 (.slice (some ⟨g,0,none⟩) 1 c') 1 ca/\g < u.heap.size/\KeptP (fun b=>p < b/\b≠X/\b≠g) u ca x/\PSt pb tb c E toks u (j+1) d)))
 case atStart=>
  have hx:=HX2.o.keep (HTB0.o.block X HX2.o.lt HXG.o.2.1 HXG.o.2.1)
  exact⟨HR2.o.keep (HTB0.o.block p HR2.o.lt HPN.o.1 HPN.o.1),HBW2.o.trans HTB0.o,hx.lt,.inl ⟨rfl,hx,HT0.o⟩⟩
 case round=>
  clear HX2 HR2 HS2 HBW2 HT0 HTB0
  obtain⟨u,hu⟩:∃ u,u= wr:=⟨_,rfl⟩
  subst hu
  obtain⟨hr,hb,hxl,hcase⟩:=hrel
  have HRU:=I hr
  have HBU:=I hb
  have HXL:=I hxl
  clear hr hb hxl
  rcases hcase with ⟨rfl,hx,hps⟩|⟨rfl,ca,g,c',hx,hown,hgl,hka,hps⟩
  ·have HXU:=I hx
   have HSU:=I hps
   have d3:=hps.cell 3
   simp only[List.getElem?_toArray,List.getElem?_cons_succ,List.getElem?_cons_zero] at d3
   have HSUBX:=HSUB
   clear hx hps
   go_upto_region 5 with (fail)
   clear d3
   have hs:Whole 29 u.drew X (plsC (.slice none 0 0)):=HXU.o
   refine zy 6 [(0,true),(1,true),(2,true),(3,false),(4,false),(5,false)] (fun z=>Whole 29 z X (plsC (.slice none 0 0))) (by kernel_rfl) (by kernel_rfl) rfl (by intro c a d v w h;cases d<;>exact h) ?_
   refine z8 (some 13) (.pointer (some ⟨X,9,none⟩)) _ rfl rfl (by exact wA rfl) hs (fun z hz=>by go_simp) ?_
   go_frame
   refine z8 (some 14) ((.slice none 0 0)) _ rfl rfl (by exact wA rfl) hs (fun z hz=>by have d9:=hz.cells 9 rfl;clear hz;go_simp) ?_
   go_frame
   refine zg (some 15) (.pointer (some ⟨pb,0,none⟩)) _ _ rfl rfl rfl (by exact wA rfl) hs rfl ?_
   go_frame
   refine zD (some 16) 98 Tryz.func98 (by kernel_rfl) (by kernel_rfl) [.pointer (some ⟨pb,0,none⟩)] _ _ _ rfl rfl rfl (by exact wA rfl) rfl ?_
   refine(HSUBX.o u.drew d (HSU.o.keep (Below.refl _ u).drew) HD.o.1 HD.o.2).mono ?_
   rintro e w5 ⟨cb,rfl,hkb,h1,h2⟩
   have hlb:=hkb.len
   have hb5:But u w5 pb pb:=(But.of_below (Below.refl _ u).drew pb pb).trans h2
   have hs5:Whole 29 w5 X (plsC (.slice none 0 0)):=HXU.o.keep (hb5.block X HXU.o.lt HXG.o.2.1 HXG.o.2.1)
   refine⟨_,rfl,hs5,?_⟩
   go_frame
   have hc6:=z0w w5 cb 29
   have hb6:=zd w5 (.cells ⟨cb⟩ 29)
   have hx6:Whole 29 (w5.alloc (.cells ⟨cb⟩ 29)) X (plsC (.slice none 0 0)):=hs5.keep (hb6.block X hs5.lt)
   have hn6:(w5.alloc (.cells ⟨cb⟩ 29)).heap.size= w5.heap.size+1:=by simp
   refine z0I (some 17) (.slice (some ⟨w5.heap.size,0,none⟩) 1 1) (w5.alloc (.cells ⟨cb⟩ 29)) _ rfl rfl (by exact wA rfl) (z4w 27 _ rfl 29 i0 _ cb rfl Tryz.underlying27 HI0.o HZ0.o (by rw[hlb];exact HZ1.o) (by rw[hlb];decide) (by rw[hlb];decide)) hx6 ?_
   go_frame
   refine z8Q (some 18) _ _ _ 27 rfl rfl rfl (by exact wA rfl) (w5.heap.size+1) 29 i0 _ 10 160 Tryz.underlying27 HI0.o HZ0.o HZ1.o HZ2.o rfl (by decide) (.slice none 0 0) 0 [] rfl ⟨rfl,.inl ⟨rfl,rfl⟩⟩ (some ⟨w5.heap.size,0,none⟩) 1 1 cb rfl (by rw[hlb]) (fun _=>⟨_,rfl,fun j v hj=>by rw[Addr.add_mid,Nat.zero_add];exact hc6 j v hj⟩) hkb.one (by unfold maxLen;omega) (by omega) (by rw[hn6];exact Nat.le_refl _) ?_
   intro v' w7 hown7 hg7
   obtain⟨g,c',rfl,hbg,hgl',hcells⟩:=zaQ (n:=1) hown7 (by omega)
   have hx7:=hx6.keep (hg7.block X hx6.lt (by intro e;simp[Value.ownBlock] at e))
   refine⟨hx7,?_⟩
   go_frame
   refine z0h ?_
   simp only[List.drop_succ_cons,List.drop_zero]
   have HS5:=I h1
   have HX5:=I hs5
   have HR5:=I (HRU.o.keep (hb5.block p HRU.o.lt HPN.o.1 HPN.o.1))
   have HB5:=I (HBU.o.trans hb5)
   have HK5:=I hkb
   have HL5:=I hlb
   have HN5:Hid (u.heap.size<=w5.heap.size):=I hb5.size
   have HQ5:Hid (u.drew.heap.size= u.heap.size):=I rfl
   have HU5:=I hb5
   have HB6:=I hb6
   have HN6:=I hn6
   have HX7:=I hx7
   have HO7:=I hown7
   have HBG:=I hbg
   have HGL7:=I hgl'
   have HCS7:=I hcells
   have HG7:=I hg7
   have d9:=hx7.cells 9 rfl
   have f9:=hx7.thaw 9
   clear hs hs5 hb5 hkb hlb h1 h2 hc6 hb6 hx6 hn6 hown7 hg7 hx7 hbg hgl' hcells
   go_upto_region 6 with (fail)
   have HX8:=I (HX7.o.put 9 (.slice (some ⟨g,0,none⟩) 1 c'))
   have HB8:=I (But.setAt w7 X 9 (.slice (some ⟨g,0,none⟩) 1 c'))
   clear d9 f9
   generalize w7.setCell ⟨X,9,none⟩ (.slice (some ⟨g,0,none⟩) 1 c')= w8 at*
   have HO7D:=HO7.o
   have hgl:=HGL7.o
   have hbg:=HBG.o
   have h58:∀ b,b < w5.heap.size->b≠X->w8.heap[b]?= w5.heap[b]?:=fun b hb hx=>(HB8.o.block b (by have:=HG7.o.size;have:=HN6.o;omega) hx hx).trans ((HG7.o.block b (by have:=HN6.o;omega) (by intro e;simp[Value.ownBlock] at e)).trans (HB6.o.block b hb))
   have hsz:w5.heap.size < w8.heap.size:=by have:=HG7.o.size;have:=HN6.o;have:=HB8.o.size;omega
   have HS8:=I (HS5.o.blocks (h58 pb HS5.o.lt.2 (Ne.symm HXG.o.2.1)) (h58 tb HS5.o.lt.1 (Ne.symm HXG.o.2.2)) (by omega))
   have HBB:Hid (But w w8 pb pb):=I ⟨HB8.o.os.trans (HG7.o.os.trans (HB6.o.os.trans HB5.o.os)),HB8.o.tape.trans (HG7.o.tape.trans (HB6.o.tape.trans HB5.o.tape)),HB8.o.output.trans (HG7.o.output.trans (HB6.o.output.trans HB5.o.output)),by have:=HB5.o.size;omega,fun b hb h1 h2=>(h58 b (by have:=HB5.o.size;omega) (by have:=HXG.o.1;have:=HP.o;omega)).trans (HB5.o.block b hb h1 h2)⟩
   have HR8:=I (HR5.o.keep (h58 p HR5.o.lt (by have:=HXG.o.1;omega)))
   have HOW8:Hid (w8.ownsRow (X+1) 29 10 (.slice (some ⟨g,0,none⟩) 1 c') 1 cb):=I (zaE ((z1u HO7D (fun b hb=>HB8.o.block b (by have e:g= b:=(by simpa [Value.ownBlock] using hb);subst e;exact hgl) (by have e:g= b:=(by simpa [Value.ownBlock] using hb);have:=HX5.o.lt;omega) (by have e:g= b:=(by simpa [Value.ownBlock] using hb);have:=HX5.o.lt;omega)))) (by have:=HX5.o.lt;omega))
   have HGL:Hid (g < w8.heap.size):=I (Nat.lt_of_lt_of_le hgl HB8.o.size)
   have HK8:Hid (KeptP (fun b=>p < b/\b≠X/\b≠g) w8 cb x):=I (HK5.o.to (fun b h1 h2=>⟨⟨by have h3:u.drew.heap.size<=b:=h1;have:=HRU.o.lt;have:=HQ5.o;omega,by have h3:u.drew.heap.size<=b:=h1;have:=HXL.o;have:=HQ5.o;omega,by omega⟩,h58 b h2 (by have h3:u.drew.heap.size<=b:=h1;have:=HXL.o;have:=HQ5.o;omega)⟩) (by omega))
   have HXX8:Hid (Whole 29 w8 X (plsC (.slice (some ⟨g,0,none⟩) 1 c'))):=HX8
   clear hbg hgl h58 hsz HO7 HO7D HG7 HX8 HX7 HGL7 HBG HCS7
   go_wp2_with (go_at_call 143;refine(z0y HS8.o HCM.o).mono ?_;rintro e v0 ⟨rfl,h1,h2⟩;have HT9:=I h1;have HB9:=I h2;clear h1 h2)
   go_roundg 1
   case measure=>omega
   case rel=>
    refine⟨HR8.o.keep (HB9.o.block p HR8.o.lt HPN.o.1 HPN.o.1),HBB.o.trans HB9.o,Nat.lt_of_lt_of_le HXX8.o.lt HB9.o.size,.inr ⟨rfl,cb,g,c',HXX8.o.keep (HB9.o.block X HXX8.o.lt HXG.o.2.1 HXG.o.2.1),?_,Nat.lt_of_lt_of_le HGL.o HB9.o.size,?_,HT9.o⟩⟩
    ·exact z1u HOW8.o fun b hb=>HB9.o.block b (by have e:g= b:=(by simpa [Value.ownBlock] using hb);subst e;exact HGL.o) (by have e:g= b:=(by simpa [Value.ownBlock] using hb);have:=z4T HOW8.o hb;have:=HXG.o;have:=HP.o;have:=H.o.lt;omega) (by have e:g= b:=(by simpa [Value.ownBlock] using hb);have:=z4T HOW8.o hb;have:=HXG.o;have:=HP.o;have:=H.o.lt;omega)
    ·exact HK8.o.to (fun b h1 h2=>⟨h1,HB9.o.block b h2 (by have:=h1.1;have:=HP.o;have:=H.o.lt;omega) (by have:=h1.1;have:=HP.o;have:=H.o.lt;omega)⟩) HB9.o.size
  ·have HXU:=I hx
   have HSU:=I hps
   have HOU:=I hown
   have HGU:=I hgl
   have HKA:=I hka
   have hgx:X+1<=g:=z4T hown rfl
   have HGX:=I hgx
   have d3:=hps.cell 3
   simp only[List.getElem?_toArray,List.getElem?_cons_succ,List.getElem?_cons_zero] at d3
   have HSUBX:=HSUB2
   clear hx hps hown hgl hka hgx
   go_upto_region 5 with (fail)
   clear d3
   have hs:Whole 29 u.drew X (plsC (.slice (some ⟨g,0,none⟩) 1 c')):=HXU.o
   refine zy 6 [(0,true),(1,true),(2,true),(3,false),(4,false),(5,false)] (fun z=>Whole 29 z X (plsC (.slice (some ⟨g,0,none⟩) 1 c'))) (by kernel_rfl) (by kernel_rfl) rfl (by intro c a d v w h;cases d<;>exact h) ?_
   refine z8 (some 13) (.pointer (some ⟨X,9,none⟩)) _ rfl rfl (by exact wA rfl) hs (fun z hz=>by go_simp) ?_
   go_frame
   refine z8 (some 14) ((.slice (some ⟨g,0,none⟩) 1 c')) _ rfl rfl (by exact wA rfl) hs (fun z hz=>by have d9:=hz.cells 9 rfl;clear hz;go_simp) ?_
   go_frame
   refine zg (some 15) (.pointer (some ⟨pb,0,none⟩)) _ _ rfl rfl rfl (by exact wA rfl) hs rfl ?_
   go_frame
   refine zD (some 16) 98 Tryz.func98 (by kernel_rfl) (by kernel_rfl) [.pointer (some ⟨pb,0,none⟩)] _ _ _ rfl rfl rfl (by exact wA rfl) rfl ?_
   refine(HSUBX.o u.drew d (HSU.o.keep (Below.refl _ u).drew) HD.o.1 HD.o.2).mono ?_
   rintro e w5 ⟨cb,rfl,hkb,h1,h2⟩
   have hlb:=hkb.len
   have hb5:But u w5 pb pb:=(But.of_below (Below.refl _ u).drew pb pb).trans h2
   have hs5:Whole 29 w5 X (plsC (.slice (some ⟨g,0,none⟩) 1 c')):=HXU.o.keep (hb5.block X HXU.o.lt HXG.o.2.1 HXG.o.2.1)
   refine⟨_,rfl,hs5,?_⟩
   go_frame
   have hc6:=z0w w5 cb 29
   have hb6:=zd w5 (.cells ⟨cb⟩ 29)
   have hx6:Whole 29 (w5.alloc (.cells ⟨cb⟩ 29)) X (plsC (.slice (some ⟨g,0,none⟩) 1 c')):=hs5.keep (hb6.block X hs5.lt)
   have hn6:(w5.alloc (.cells ⟨cb⟩ 29)).heap.size= w5.heap.size+1:=by simp
   refine z0I (some 17) (.slice (some ⟨w5.heap.size,0,none⟩) 1 1) (w5.alloc (.cells ⟨cb⟩ 29)) _ rfl rfl (by exact wA rfl) (z4w 27 _ rfl 29 i0 _ cb rfl Tryz.underlying27 HI0.o HZ0.o (by rw[hlb];exact HZ1.o) (by rw[hlb];decide) (by rw[hlb];decide)) hx6 ?_
   go_frame
   refine z8Q (some 18) _ _ _ 27 rfl rfl rfl (by exact wA rfl) (X+1) 29 i0 _ 10 160 Tryz.underlying27 HI0.o HZ0.o HZ1.o HZ2.o rfl (by decide) (.slice (some ⟨g,0,none⟩) 1 c') 1 ca rfl (z1u (z1u HOU.o (fun b hb=>hb5.block b (by have e:g= b:=(by simpa [Value.ownBlock] using hb);subst e;exact HGU.o) (by have e:g= b:=(by simpa [Value.ownBlock] using hb);have:=HGX.o;have:=HXG.o;have:=HP.o;have:=H.o.lt;omega) (by have e:g= b:=(by simpa [Value.ownBlock] using hb);have:=HGX.o;have:=HXG.o;have:=HP.o;have:=H.o.lt;omega))) (fun b hb=>hb6.block b (by have e:g= b:=(by simpa [Value.ownBlock] using hb);have:=HGU.o;have:=hb5.size;omega))) (some ⟨w5.heap.size,0,none⟩) 1 1 cb rfl (by rw[hlb]) (fun _=>⟨_,rfl,fun j v hj=>by rw[Addr.add_mid,Nat.zero_add];exact hc6 j v hj⟩) hkb.one (by unfold maxLen;omega) (by omega) (by rw[hn6];have:=hs5.lt;omega) ?_
   intro v' w7 hown7 hg7
   obtain⟨g2,c2,rfl,hbg,hgl',hcells⟩:=zaQ (n:=2) hown7 (by omega)
   have hx7:=hx6.keep (hg7.block X hx6.lt (fun e=>by simp[Value.ownBlock] at e;have:=HGX.o;omega))
   refine⟨hx7,?_⟩
   go_frame
   refine z0h ?_
   simp only[List.drop_succ_cons,List.drop_zero]
   have HS5:=I h1
   have HX5:=I hs5
   have HR5:=I (HRU.o.keep (hb5.block p HRU.o.lt HPN.o.1 HPN.o.1))
   have HB5:=I (HBU.o.trans hb5)
   have HK5:=I hkb
   have HL5:=I hlb
   have HN5:Hid (u.heap.size<=w5.heap.size):=I hb5.size
   have HQ5:Hid (u.drew.heap.size= u.heap.size):=I rfl
   have HU5:=I hb5
   have HB6:=I hb6
   have HN6:=I hn6
   have HX7:=I hx7
   have HO7:=I hown7
   have HBG:=I hbg
   have HGL7:=I hgl'
   have HCS7:=I hcells
   have HG7:=I hg7
   have d9:=hx7.cells 9 rfl
   have f9:=hx7.thaw 9
   clear hs hs5 hb5 hkb hlb h1 h2 hc6 hb6 hx6 hn6 hown7 hg7 hx7 hbg hgl' hcells
   go_upto_region 6 with (fail)
   have HX8:=I (HX7.o.put 9 (.slice (some ⟨g2,0,none⟩) 2 c2))
   have HB8:=I (But.setAt w7 X 9 (.slice (some ⟨g2,0,none⟩) 2 c2))
   clear d9 f9
   generalize w7.setCell ⟨X,9,none⟩ (.slice (some ⟨g2,0,none⟩) 2 c2)= w8 at*
   have hgl:=HGL7.o
   have hbg:=HBG.o
   have h58:∀ b,b < w5.heap.size->b≠X->b≠g->w8.heap[b]?= w5.heap[b]?:=fun b hb hx hg=>(HB8.o.block b (by have:=HG7.o.size;have:=HN6.o;omega) hx hx).trans ((HG7.o.block b (by have:=HN6.o;omega) (fun e=>by simp[Value.ownBlock] at e;omega)).trans (HB6.o.block b hb))
   have hsz:w5.heap.size < w8.heap.size:=by have:=HG7.o.size;have:=HN6.o;have:=HB8.o.size;omega
   have hgu:=HGU.o
   have hgx:=HGX.o
   have HS8:=I (HS5.o.blocks (h58 pb HS5.o.lt.2 (Ne.symm HXG.o.2.1) (by have:=H.o.lt;have:=HXG.o;have:=HP.o;omega)) (h58 tb HS5.o.lt.1 (Ne.symm HXG.o.2.2) (by have:=H.o.lt;have:=HXG.o;have:=HP.o;omega)) (by omega))
   have HBB:Hid (But w w8 pb pb):=I ⟨HB8.o.os.trans (HG7.o.os.trans (HB6.o.os.trans HB5.o.os)),HB8.o.tape.trans (HG7.o.tape.trans (HB6.o.tape.trans HB5.o.tape)),HB8.o.output.trans (HG7.o.output.trans (HB6.o.output.trans HB5.o.output)),by have:=HB5.o.size;omega,fun b hb h1 h2=>(h58 b (by have:=HB5.o.size;omega) (by have:=HXG.o.1;have:=HP.o;omega) (by have:=HXG.o.1;have:=HP.o;omega)).trans (HB5.o.block b hb h1 h2)⟩
   have HR8:=I (HR5.o.keep (h58 p HR5.o.lt (by have:=HXG.o.1;omega) (by have:=HXG.o.1;omega)))
   have HC8:Hid (∀ j v,(ca ++ cb)[j]?= some v->w8.cell? ⟨g2,j,none⟩= some v):=I fun j v hj=>(World.cell?_of_block (a:=⟨g2,j,none⟩) (HB8.o.block g2 hgl (by omega) (by omega))).trans (HCS7.o j v hj)
   have HGL:Hid (g2 < w8.heap.size):=I (Nat.lt_of_lt_of_le hgl HB8.o.size)
   have HKB8:Hid (KeptP (fun b=>p < b) w8 cb y):=I (HK5.o.to (fun b h1 h2=>⟨by have h3:u.drew.heap.size<=b:=h1;have:=HRU.o.lt;have:=HQ5.o;have:=HP.o;show p < b;omega,h58 b h2 (by have h3:u.drew.heap.size<=b:=h1;have:=HXL.o;have:=HQ5.o;omega) (by have h3:u.drew.heap.size<=b:=h1;have:=HQ5.o;omega)⟩) (by omega))
   have HKA8:Hid (KeptP (fun b=>p < b) w8 ca x):=I (HKA.o.to (fun b h1 h2=>⟨h1.1,(h58 b (by have:=HN5.o;omega) h1.2.1 h1.2.2).trans (HU5.o.block b h2 (by have:=h1.1;have:=HP.o;have:=H.o.lt;omega) (by have:=h1.1;have:=HP.o;have:=H.o.lt;omega))⟩) (by have:=HN5.o;omega))
   have HXX8:Hid (Whole 29 w8 X (plsC (.slice (some ⟨g2,0,none⟩) 2 c2))):=HX8
   have HKL:Hid (KeptP (fun b=>p < b) w8 (plsC (.slice (some ⟨g2,0,none⟩) 2 c2)) (plsE [x,y])):=I (z9l HC8.o HGL.o (by have:=HXG.o.1;have:=HP.o;show p < g2;omega) HKA8.o HKB8.o)
   clear hbg hgl h58 hsz HO7 HG7 HX8 HX7 HGL7 HBG HCS7 hgu hgx
   go_upto_region 8 with (first
    |(go_at_call 143;refine(zG HS8.o HNC.o).mono ?_;rintro e v0 ⟨rfl,h1,h2⟩;have HT9:=I h1;have HB9:=I h2;clear h1 h2)
    |(go_at_call 144;refine(z85 HT9.o HBR.o).mono ?_;rintro e v9 ⟨rfl,h1,h2⟩;have HT10:=I h1;have HB10:=I h2;clear h1 h2))
   have HBT:=I (HB9.o.trans HB10.o)
   have HX10:=I (HXX8.o.keep (HBT.o.block X HXX8.o.lt HXG.o.2.1 HXG.o.2.1))
   have HXR:=I HX10.o.range
   have HR9:=I (HR8.o.keep (HBT.o.block p HR8.o.lt HPN.o.1 HPN.o.1))
   have HK10:=I (HKL.o.to (q:=fun b=>p < b) (fun b h1 h2=>⟨h1,HBT.o.block b h2 (by have h3:p < b:=h1;have:=HP.o;have:=H.o.lt;omega) (by have h3:p < b:=h1;have:=HP.o;have:=H.o.lt;omega)⟩) HBT.o.size)
   go_wp2_with (first|((with_reducible refine za 29 _ rfl ?_ X 0 (plsC (.slice (some ⟨g2,0,none⟩) 2 c2)) _ rfl HXR.o Tryz.underlying29 rfl ?_ ?_);exact wA rfl;kernel_rfl)|((with_reducible refine ze 29 _ _ rfl rfl ?_ p zEc (plsC (.slice (some ⟨g2,0,none⟩) 2 c2)) HR9.o ?_ ?_ ?_ ?_ ?_ ?_);exact wA rfl;rfl;rfl;rfl;kernel_rfl;exact z74 rfl;intro Z hz hb;have HZ:=I hz;have HZB:=I hb;clear hz hb))
   (try simp only[Exit.inBlock,Exit.then])
   refine bodyPost_ret (zQ rfl _ _ p (plsC (.slice (some ⟨g2,0,none⟩) 2 c2)) rfl rfl HZ.o) rfl ?_
   have hp:=HP.o
   refine⟨_,rfl,?_,HT10.o.under p HPN.o.1 HPN.o.2 HZB.o,zP (HBB.o.trans HBT.o) HZB.o (by omega)⟩
   exact KeptP.to (q:=fun b=>w.heap.size<=b) HK10.o (fun b h1 h2=>⟨by have h3:p < b:=h1;show w.heap.size<=b;omega,HZB.o.block b h2 (by have h3:p < b:=h1;omega) (by have h3:p < b:=h1;omega)⟩) HZB.o.size
theorem zd2 {i j h:Nat} {x:ET} (h1:isB toks i ⟨#[91]⟩= true) (hsub:PCon pb tb c E toks 252 (i+1) j h x):PCon pb tb c E toks 250 i j h x:=by
 intro w d h h0 hd
 have hno:isB toks i ⟨#[40]⟩= false:=z1g h1 (by decide +kernel)
 have HNO:=I hno
 have HIS:=I h1
 have HSUB:=I hsub
 have H:=I h
 have HD:=I (And.intro h0 hd)
 have d3:=h.cell 3
 simp only[List.getElem?_toArray,List.getElem?_cons_succ,List.getElem?_cons_zero] at d3
 clear hno h1 hsub h h0 hd
 go_enter Tryz.func250,Tryz.ntmps250
 go_upto_region 1 with (fail)
 have HR0:=I (Whole.new w zEc 29)
 have HB0:=I (zd w (.cells zEc.toArray 29))
 have hz:=z0r
 rw[hz]
 clear hz
 have HRW:Hid (w.heap.size <(w.alloc (.cells zEc.toArray 29)).heap.size):=I (by simp)
 generalize w.alloc (.cells zEc.toArray 29)= W at*
 obtain⟨p,hp⟩:∃ p,w.heap.size= p:=⟨_,rfl⟩
 rw[hp] at HR0 HRW
 rw[hp]
 have HP:=I hp
 have HS0:=I (H.o.keep HB0.o)
 have HPN:Hid (p≠pb/\p≠tb):=I ⟨by have:=H.o.lt;omega,by have:=H.o.lt;omega⟩
 have d3':=HS0.o.cell 3
 simp only[List.getElem?_toArray,List.getElem?_cons_succ,List.getElem?_cons_zero] at d3'
 clear hp d3
 go_upto_region 3 with (fail)
 clear d3'
 go_upto_region 7 with (go_at_call 143;refine(zG HS0.o HNO.o).mono ?_;rintro e w1 ⟨rfl,h1,h2⟩;have HS1:=I h1;have HB1:=I h2;clear h1 h2)
 go_upto_region 8 with (go_at_call 143;refine(z0y HS1.o HIS.o).mono ?_;rintro e w2 ⟨rfl,h1,h2⟩;have HS2:=I h1;have HB2:=I h2;clear h1 h2)
 have HB02:=I (HB1.o.trans HB2.o)
 have HR2:=I (HR0.o.keep (HB02.o.block p HRW.o HPN.o.1 HPN.o.1))
 go_wp2_with (first
  |(go_at_call 252;refine(HSUB.o w2 d HS2.o HD.o.1 HD.o.2).mono ?_;rintro e z ⟨cs,rfl,hk,h1,h2⟩;have hl:=hk.len;have HL:=I hl;have HK:=I hk;have HSZ:=I h1;have HBZ:=I h2;have HRZ:=I (HR2.o.keep (h2.block p HR2.o.lt HPN.o.1 HPN.o.1));clear hl hk h1 h2)
  |((with_reducible refine ze 29 _ _ rfl rfl ?_ p zEc cs HRZ.o ?_ ?_ ?_ ?_ ?_ ?_);exact wA rfl;rw[HL.o];rfl;rfl;rfl;rw[HL.o];kernel_rfl;exact HK.o.one;intro Z hz hb;have HZ:=I hz;have HZB:=I hb;clear hz hb))
 (try simp only[Exit.inBlock,Exit.then])
 refine bodyPost_ret (zQ rfl _ _ p cs HL.o rfl HZ.o) rfl ?_
 have hp:=HP.o
 refine⟨cs,rfl,?_,HSZ.o.under p HPN.o.1 HPN.o.2 HZB.o,zP ((But.of_below HB0.o pb pb).trans (HB02.o.trans HBZ.o)) HZB.o (by omega)⟩
 exact HK.o.to (fun b h1 h2=>⟨by have h3:w2.heap.size<=b:=h1;have:=HR2.o.lt;show w.heap.size<=b;omega,HZB.o.block b h2 (by have h3:w2.heap.size<=b:=h1;have:=HR2.o.lt;omega) (by have h3:w2.heap.size<=b:=h1;have:=HR2.o.lt;omega)⟩) HZB.o.size
end
end Go.Proofs.YtmpbepjjbaeebaaGreatDoor
