/- Parts of a proof: PList. -/
import Derived.Test.YtmpbepjjbaeebaaGreatDoorPackC29
import Derived.Test.YtmpbepjjbaeebaaGreatDoorPackC45
set_option maxHeartbeats 8000000
set_option maxRecDepth 100000
set_option linter.unusedVariables false
set_option linter.unusedSimpArgs false
namespace Go.Proofs.YtmpbepjjbaeebaaGreatDoor
open Go Go.RowKit
theorem z4y {P:Program} {o:Oper} {a:Act} {w:World} (t:TypeId) (x:Operand) (ho:o.op= .buildSlice t 1 #[(0,x)]) (e:TypeId) (i:TypeInfo) (z:Value) (ks:List Value) (hx:a.eval x= .agg ks.toArray)
  (ht:P.underlying t= some (.slice e)) (hi:P.info? e= some i) (hz:i.zero= some z) (hsz:i.size= ks.length) (h0:0 < ks.length) (hmax:ks.length<=1000):
  (execOp a.eval o).run P w= .ok (.value (.slice (some ⟨w.heap.size,0,none⟩) 1 1)) (w.alloc (.cells ⟨ks⟩ e)):=by
 unfold execOp
 have hr:=z2R (P:=P) w t e i z ks ht hi hz hsz h0 hmax
 simp only[ho,List.map_toArray,List.map_cons,List.map_nil,hx,Sem.run_bind,Sem.run_pure,Result.andThen_ok,hr]
def plsC (v:Value):List Value:= .int .i64 16:: .string ⟨#[]⟩::(zVc ++ [.slice none 0 0,v])
def plsE (l:List ET):ET:= .mk 16 ⟨#[]⟩ zV [] l
theorem z7N {v:Value} (h:v.oneCell'= true):∀ x∈plsC v,x.oneCell'= true:=by
 intro x hx;simp only[plsC,zVc,List.mem_cons,List.mem_append,List.not_mem_nil,or_false] at hx;rcases hx with rfl|rfl|(rfl|rfl|rfl|rfl|rfl|rfl)|rfl|rfl<;>first|rfl|exact h
theorem Whole.put {T:TypeId} {w:World} {b:Nat} {cs:List Value} (h:Whole T w b cs) (k:Nat) (v:Value):Whole T (w.setCell ⟨b,k,none⟩ v) b (cs.set k v):=by
 show(w.heap.modify b _)[b]?= _
 have h2:w.heap[b]?= some (.cells ⟨cs⟩ T (0,0)):=h
 rw[Array.getElem?_modify,if_pos rfl,h2]
 simp
theorem Whole.thaw {T:TypeId} {w:World} {b:Nat} {cs:List Value} (h:Whole T w b cs) (k:Nat):w.frozen? ⟨b,k,none⟩= false:=by
 unfold World.frozen?
 have h2:w.heap[b]?= some (.cells ⟨cs⟩ T (0,0)):=h
 simp[h2]
theorem PS.blocks {T:TypeId} {pb tb c:Nat} {E:Int} {toks:List Tok} {w w':World} {i:Nat} {d:Int} (h:PS T pb tb c E toks w i d) (hp:w'.heap[pb]?= w.heap[pb]?) (ht:w'.heap[tb]?= w.heap[tb]?) (hs:w.heap.size<=w'.heap.size):PS T pb tb c E toks w' i d:=
 ⟨hp.trans h.blk,h.ne,⟨Nat.lt_of_lt_of_le h.lt.1 hs,Nat.lt_of_lt_of_le h.lt.2 hs⟩,fun j t hj a v hv=>(World.cell?_of_block (a:=⟨tb,j*6+a,none⟩) ht).trans (h.tok j t hj a v hv),h.len⟩
theorem zaB {w:World} {base:Nat} {e:TypeId} {size n:Nat} {v:Value} {xs:List Value} (h:w.ownsRow base e size v n xs) (hn:0 < n):
  ∃ g c,v= .slice (some ⟨g,0,none⟩) n c/\base<=g/\g < w.heap.size/\∀ j u,xs[j]?= some u->w.cell? ⟨g,j,none⟩= some u:=by
 rcases h.2 with ⟨_,h0⟩|⟨g,cap,cur,hv,hb,hg,hc,_⟩
 ·omega
 ·refine⟨g,cap,hv,hb,?_,fun j u hu=> ?_⟩
  ·rcases Nat.lt_or_ge g w.heap.size with h2|h2
   ·exact h2
   ·rw[Array.getElem?_eq_none h2] at hg;cases hg
  ·have:=World.ownsRow.cells h (g:=g) (by rw[hv];rfl) j u hu
   rw[Addr.add_mid,Nat.zero_add] at this
   exact this
theorem zaR {w:World} {base b:Nat} {e:TypeId} {k n:Nat} {v:Value} {xs:List Value} (h:w.ownsRow base e k v n xs) (hb:b<=base):w.ownsRow b e k v n xs:=
 ⟨h.1,h.2.imp id fun⟨g,cap,cur,h1,h2,h3⟩=>⟨g,cap,cur,h1,Nat.le_trans hb h2,h3⟩⟩
theorem z4G {w:World} {base:Nat} {e:TypeId} {size:Nat} {v:Value} {n:Nat} {xs:List Value} (h:w.ownsRow base e size v n xs) {j:Nat} (hj:v.ownBlock= some j):base<=j:=by
 rcases h.2 with ⟨rfl,_⟩|⟨g,cap,cur,rfl,hg,_⟩
 ·cases hj
 ·have:g= j:=by simpa [Value.ownBlock] using hj
  omega
theorem z19 {w w':World} {base:Nat} {e:TypeId} {size:Nat} {v:Value} {n:Nat} {xs:List Value} (h:w.ownsRow base e size v n xs) (hb:∀ b,v.ownBlock= some b->w'.heap[b]?= w.heap[b]?):w'.ownsRow base e size v n xs:=
 ⟨h.1,h.2.imp id fun⟨g,cap,cur,h1,h2,h3,h4⟩=>⟨g,cap,cur,h1,h2,(hb g (by rw[h1];rfl)).trans h3,h4⟩⟩
theorem z9k {p:Nat->Prop} {w:World} {g c:Nat} {ca cb:List Value} {x y:ET} (hg:∀ j v,(ca ++ cb)[j]?= some v->w.cell? ⟨g,j,none⟩= some v) (hlt:g < w.heap.size) (hp:p g) (ha:KeptP p w ca x) (hb:KeptP p w cb y):KeptP p w (plsC (.slice (some ⟨g,0,none⟩) 2 c)) (plsE [x,y]):=by
 have la:=ha.len
 have lb:=hb.len
 refine ExpAt.of (zr 16 (by decide +kernel)) (Nat.zero_le _) (z1t _ _ 0 0 0 ⟨#[]⟩ (zr 0 (by decide +kernel)) (zr 0 (by decide +kernel)) (by decide +kernel) (Nat.zero_le _)) (SlAt.nil _ _ 1 _) (by show 2<=_;unfold maxLen;decide) ?_
 refine⟨by show 2<=_;decide,_,_,rfl,fun _=>⟨g,0,rfl,hlt,fun i z hz=> ?_⟩⟩
 have hr:∀ (o:Nat) (cs:List Value),(∀ j v,cs[j]?= some v->(ca ++ cb)[o+j]?= some v)->(only w p).rangeAt g o cs:=by
  intro o cs h j v hv
  exact zQ.2 ⟨hp,hg (o+j) v (h j v hv)⟩
 match i,hz with
 |0,hz=>
  obtain rfl:x= z:=by simpa using hz
  exact⟨ca,la,hr _ _ fun j v hv=>by rw[show 0+0*10+j= j by omega,List.getElem?_append_left (List.getElem?_eq_some_iff.1 hv).1];exact hv,ha⟩
 |1,hz=>
  obtain rfl:y= z:=by simpa using hz
  exact⟨cb,lb,hr _ _ fun j v hv=>by rw[show 0+1*10+j= ca.length+j by omega,List.getElem?_append_right (by omega),show ca.length+j - ca.length= j by omega];exact hv,hb⟩
 |i+2,hz=>simp at hz
section
variable {pb tb c:Nat} {E:Int} {toks:List Tok}
theorem zdB {i j k h:Nat} {x y:ET} (hno:isB toks i ⟨#[93]⟩= false) (hsub:PCon pb tb c E toks 98 i j h x) (hcm:isB toks j ⟨#[44]⟩= true) (hsub2:PCon pb tb c E toks 98 (j+1) k h y) (hbr:isB toks k ⟨#[93]⟩= true):
  PCon pb tb c E toks 252 i (k+1) h (plsE [x,y]):=by
 intro w d h h0 hd
 have hnc:isB toks k ⟨#[44]⟩= false:=z0T hbr (by decide +kernel)
 obtain⟨i0,hi,hz0,hz1,hz2⟩:=info_parts z76
 have HI0:=I hi
 have HZ0:=I hz0
 have HZ1:=I hz1
 have HZ2:=I hz2
 have HSUB:=I hsub
 have HSUB2:=I hsub2
 have HNO:=I hno
 have HCM:=I hcm
 have HBR:=I hbr
 have HNC:=I hnc
 clear hi hz0 hz1 hz2 hsub hsub2 hno hcm hbr hnc
 go_enter Tryz.func252,Tryz.ntmps252
 go_upto_region 1 with (fail)
 have HR0:=I (Whole.new w zEc 29)
 have HB0:=I (ze w (.cells zEc.toArray 29))
 have hz:=z0n
 rw[hz]
 clear hz
 have HRW:Hid (w.heap.size <(w.alloc (.cells zEc.toArray 29)).heap.size):=I (by simp)
 generalize w.alloc (.cells zEc.toArray 29)= W at*
 obtain⟨p,hp⟩:∃ p,w.heap.size= p:=⟨_,rfl⟩
 rw[hp] at HR0 HRW
 rw[hp]
 have HP:=I hp
 have HS0:=I (h.keep HB0.out)
 have HPN:Hid (p≠pb/\p≠tb):=I ⟨by have:=h.lt;omega,by have:=h.lt;omega⟩
 have H:=I h
 have HD:=I (And.intro h0 hd)
 clear hp h h0 hd
 go_upto_region 2 with (first|((with_reducible refine z0x 29 _ _ rfl rfl ?hwe W ?zne (plsC (.slice none 0 0)) ?hz1 ?hz2 ?hz3 ?hz4 ?hz5 ?hz6 ?_);(case hwe=>exact wantA rfl);(case hz1=>rfl);(case hz2=>rfl);(case hz3=>rfl);(case hz4=>rfl);(case hz5=>kernel_rfl);(case hz6=>exact z7N rfl);intro W2 hz hb hlt;have HX2:=I hz;have HB2:=I hb;have HLT2:=I hlt;clear hz hb hlt))
 obtain⟨X,hX⟩:∃ X,W.heap.size= X:=⟨_,rfl⟩
 rw[hX] at HX2 HB2 HLT2
 rw[hX]
 have HXG:Hid (p < X/\X≠pb/\X≠tb):=I ⟨by have:=HRW.out;omega,by have:=HS0.out.lt;omega,by have:=HS0.out.lt;omega⟩
 have hB12:Below W.heap.size W W2:=by rw[hX];exact HB2.out
 have HR2:=I (HR0.out.keep (hB12.block p HRW.out))
 have HS2:=I (HS0.out.keep hB12)
 have HBW2:Hid (But w W2 pb pb):=I ((But.of_below HB0.out pb pb).trans (But.of_below hB12 pb pb))
 clear hX hB12 HB2 HLT2 HS0 HR0
 go_wp2_with (go_at_call 143;refine(zD HS2.out HNO.out).mono ?_;rintro e v0 ⟨rfl,h1,h2⟩;have HT0:=I h1;have HTB0:=I h2;clear h1 h2)
 go_loopg [] 2 (fun q u=>Whole 29 u p zEc/\But w u pb pb/\X < u.heap.size/\((q= 2/\Whole 29 u X (plsC (.slice none 0 0))/\PSt pb tb c E toks u i d)\/
  (q= 1/\∃ ca g c',Whole 29 u X (plsC (.slice (some ⟨g,0,none⟩) 1 c'))/\u.ownsRow (X+1) 29 10 (.slice (some ⟨g,0,none⟩) 1 c') 1 ca/\g < u.heap.size/\KeptP (fun b=>p < b/\b≠X/\b≠g) u ca x/\PSt pb tb c E toks u (j+1) d)))
 case atStart=>
  have hx:=HX2.out.keep (HTB0.out.block X HX2.out.lt HXG.out.2.1 HXG.out.2.1)
  exact⟨HR2.out.keep (HTB0.out.block p HR2.out.lt HPN.out.1 HPN.out.1),HBW2.out.trans HTB0.out,hx.lt,.inl ⟨rfl,hx,HT0.out⟩⟩
 case round=>
  clear HX2 HR2 HS2 HBW2 HT0 HTB0
  obtain⟨u,hu⟩:∃ u,u= wr:=⟨_,rfl⟩
  subst hu
  obtain⟨hr,hb,hxl,hcase⟩:=hrel
  have HRU:=I hr
  have HBU:=I hb
  have HXL:=I hxl
  clear hr hb hxl
  rcases hcase with ⟨rfl,hx,hps⟩|⟨rfl,ca,g,c',hx,hown,hgl,hka,hps⟩
  ·have HXU:=I hx
   have HSU:=I hps
   have d3:=hps.cell 3
   simp only[List.getElem?_toArray,List.getElem?_cons_succ,List.getElem?_cons_zero] at d3
   have HSUBX:=HSUB
   clear hx hps
   go_upto_region 5 with (fail)
   clear d3
   have hs:Whole 29 u.drew X (plsC (.slice none 0 0)):=HXU.out
   refine zy 6 [(0,true),(1,true),(2,true),(3,false),(4,false),(5,false)] (fun z=>Whole 29 z X (plsC (.slice none 0 0))) (by kernel_rfl) (by kernel_rfl) rfl (by intro c a d v w h;cases d<;>exact h) ?_
   refine z8 (some 13) (.pointer (some ⟨X,9,none⟩)) _ rfl rfl (by exact wantA rfl) hs (fun z hz=>by go_simp) ?_
   go_frame
   refine z8 (some 14) ((.slice none 0 0)) _ rfl rfl (by exact wantA rfl) hs (fun z hz=>by have d9:=hz.cells 9 rfl;clear hz;go_simp) ?_
   go_frame
   refine zk (some 15) (.pointer (some ⟨pb,0,none⟩)) _ _ rfl rfl rfl (by exact wantA rfl) hs rfl ?_
   go_frame
   refine zx (some 16) 98 Tryz.func98 (by kernel_rfl) (by kernel_rfl) [.pointer (some ⟨pb,0,none⟩)] _ _ _ rfl rfl rfl (by exact wantA rfl) rfl ?_
   refine(HSUBX.out u.drew d (HSU.out.keep (Below.refl _ u).drew) HD.out.1 HD.out.2).mono ?_
   rintro e w5 ⟨cb,rfl,hkb,h1,h2⟩
   have hlb:=hkb.len
   have hb5:But u w5 pb pb:=(But.of_below (Below.refl _ u).drew pb pb).trans h2
   have hs5:Whole 29 w5 X (plsC (.slice none 0 0)):=HXU.out.keep (hb5.block X HXU.out.lt HXG.out.2.1 HXG.out.2.1)
   refine⟨_,rfl,hs5,?_⟩
   go_frame
   have hc6:=z0D w5 cb 29
   have hb6:=ze w5 (.cells ⟨cb⟩ 29)
   have hx6:Whole 29 (w5.alloc (.cells ⟨cb⟩ 29)) X (plsC (.slice none 0 0)):=hs5.keep (hb6.block X hs5.lt)
   have hn6:(w5.alloc (.cells ⟨cb⟩ 29)).heap.size= w5.heap.size+1:=by simp
   refine z0w (some 17) (.slice (some ⟨w5.heap.size,0,none⟩) 1 1) (w5.alloc (.cells ⟨cb⟩ 29)) _ rfl rfl (by exact wantA rfl) (z4y 27 _ rfl 29 i0 _ cb rfl Tryz.underlying27 HI0.out HZ0.out (by rw[hlb];exact HZ1.out) (by rw[hlb];decide) (by rw[hlb];decide)) hx6 ?_
   go_frame
   refine z93 (some 18) _ _ _ 27 rfl rfl rfl (by exact wantA rfl) (w5.heap.size+1) 29 i0 _ 10 160 Tryz.underlying27 HI0.out HZ0.out HZ1.out HZ2.out rfl (by decide) (.slice none 0 0) 0 [] rfl ⟨rfl,.inl ⟨rfl,rfl⟩⟩ (some ⟨w5.heap.size,0,none⟩) 1 1 cb rfl (by rw[hlb]) (fun _=>⟨_,rfl,fun j v hj=>by rw[Addr.add_mid,Nat.zero_add];exact hc6 j v hj⟩) hkb.one (by unfold maxLen;omega) (by omega) (by rw[hn6];exact Nat.le_refl _) ?_
   intro v' w7 hown7 hg7
   obtain⟨g,c',rfl,hbg,hgl',hcells⟩:=zaB (n:=1) hown7 (by omega)
   have hx7:=hx6.keep (hg7.block X hx6.lt (by intro e;simp[Value.ownBlock] at e))
   refine⟨hx7,?_⟩
   go_frame
   refine z06 ?_
   simp only[List.drop_succ_cons,List.drop_zero]
   have HS5:=I h1
   have HX5:=I hs5
   have HR5:=I (HRU.out.keep (hb5.block p HRU.out.lt HPN.out.1 HPN.out.1))
   have HB5:=I (HBU.out.trans hb5)
   have HK5:=I hkb
   have HL5:=I hlb
   have HN5:Hid (u.heap.size<=w5.heap.size):=I hb5.size
   have HQ5:Hid (u.drew.heap.size= u.heap.size):=I rfl
   have HU5:=I hb5
   have HB6:=I hb6
   have HN6:=I hn6
   have HX7:=I hx7
   have HO7:=I hown7
   have HBG:=I hbg
   have HGL7:=I hgl'
   have HCS7:=I hcells
   have HG7:=I hg7
   have d9:=hx7.cells 9 rfl
   have f9:=hx7.thaw 9
   clear hs hs5 hb5 hkb hlb h1 h2 hc6 hb6 hx6 hn6 hown7 hg7 hx7 hbg hgl' hcells
   go_upto_region 6 with (fail)
   have HX8:=I (HX7.out.put 9 (.slice (some ⟨g,0,none⟩) 1 c'))
   have HB8:=I (But.setAt w7 X 9 (.slice (some ⟨g,0,none⟩) 1 c'))
   clear d9 f9
   generalize w7.setCell ⟨X,9,none⟩ (.slice (some ⟨g,0,none⟩) 1 c')= w8 at*
   have HO7D:=HO7.out
   have hgl:=HGL7.out
   have hbg:=HBG.out
   have h58:∀ b,b < w5.heap.size->b≠X->w8.heap[b]?= w5.heap[b]?:=fun b hb hx=>(HB8.out.block b (by have:=HG7.out.size;have:=HN6.out;omega) hx hx).trans ((HG7.out.block b (by have:=HN6.out;omega) (by intro e;simp[Value.ownBlock] at e)).trans (HB6.out.block b hb))
   have hsz:w5.heap.size < w8.heap.size:=by have:=HG7.out.size;have:=HN6.out;have:=HB8.out.size;omega
   have HS8:=I (HS5.out.blocks (h58 pb HS5.out.lt.2 (Ne.symm HXG.out.2.1)) (h58 tb HS5.out.lt.1 (Ne.symm HXG.out.2.2)) (by omega))
   have HBB:Hid (But w w8 pb pb):=I ⟨HB8.out.os.trans (HG7.out.os.trans (HB6.out.os.trans HB5.out.os)),HB8.out.tape.trans (HG7.out.tape.trans (HB6.out.tape.trans HB5.out.tape)),HB8.out.output.trans (HG7.out.output.trans (HB6.out.output.trans HB5.out.output)),by have:=HB5.out.size;omega,fun b hb h1 h2=>(h58 b (by have:=HB5.out.size;omega) (by have:=HXG.out.1;have:=HP.out;omega)).trans (HB5.out.block b hb h1 h2)⟩
   have HR8:=I (HR5.out.keep (h58 p HR5.out.lt (by have:=HXG.out.1;omega)))
   have HOW8:Hid (w8.ownsRow (X+1) 29 10 (.slice (some ⟨g,0,none⟩) 1 c') 1 cb):=I (zaR ((z19 HO7D (fun b hb=>HB8.out.block b (by have e:g= b:=(by simpa [Value.ownBlock] using hb);subst e;exact hgl) (by have e:g= b:=(by simpa [Value.ownBlock] using hb);have:=HX5.out.lt;omega) (by have e:g= b:=(by simpa [Value.ownBlock] using hb);have:=HX5.out.lt;omega)))) (by have:=HX5.out.lt;omega))
   have HGL:Hid (g < w8.heap.size):=I (Nat.lt_of_lt_of_le hgl HB8.out.size)
   have HK8:Hid (KeptP (fun b=>p < b/\b≠X/\b≠g) w8 cb x):=I (HK5.out.to (fun b h1 h2=>⟨⟨by have h3:u.drew.heap.size<=b:=h1;have:=HRU.out.lt;have:=HQ5.out;omega,by have h3:u.drew.heap.size<=b:=h1;have:=HXL.out;have:=HQ5.out;omega,by omega⟩,h58 b h2 (by have h3:u.drew.heap.size<=b:=h1;have:=HXL.out;have:=HQ5.out;omega)⟩) (by omega))
   have HXX8:Hid (Whole 29 w8 X (plsC (.slice (some ⟨g,0,none⟩) 1 c'))):=HX8
   clear hbg hgl h58 hsz HO7 HO7D HG7 HX8 HX7 HGL7 HBG HCS7
   go_wp2_with (go_at_call 143;refine(z0t HS8.out HCM.out).mono ?_;rintro e v0 ⟨rfl,h1,h2⟩;have HT9:=I h1;have HB9:=I h2;clear h1 h2)
   go_roundg 1
   case measure=>omega
   case rel=>
    refine⟨HR8.out.keep (HB9.out.block p HR8.out.lt HPN.out.1 HPN.out.1),HBB.out.trans HB9.out,Nat.lt_of_lt_of_le HXX8.out.lt HB9.out.size,.inr ⟨rfl,cb,g,c',HXX8.out.keep (HB9.out.block X HXX8.out.lt HXG.out.2.1 HXG.out.2.1),?_,Nat.lt_of_lt_of_le HGL.out HB9.out.size,?_,HT9.out⟩⟩
    ·exact z19 HOW8.out fun b hb=>HB9.out.block b (by have e:g= b:=(by simpa [Value.ownBlock] using hb);subst e;exact HGL.out) (by have e:g= b:=(by simpa [Value.ownBlock] using hb);have:=z4G HOW8.out hb;have:=HXG.out;have:=HP.out;have:=H.out.lt;omega) (by have e:g= b:=(by simpa [Value.ownBlock] using hb);have:=z4G HOW8.out hb;have:=HXG.out;have:=HP.out;have:=H.out.lt;omega)
    ·exact HK8.out.to (fun b h1 h2=>⟨h1,HB9.out.block b h2 (by have:=h1.1;have:=HP.out;have:=H.out.lt;omega) (by have:=h1.1;have:=HP.out;have:=H.out.lt;omega)⟩) HB9.out.size
  ·have HXU:=I hx
   have HSU:=I hps
   have HOU:=I hown
   have HGU:=I hgl
   have HKA:=I hka
   have hgx:X+1<=g:=z4G hown rfl
   have HGX:=I hgx
   have d3:=hps.cell 3
   simp only[List.getElem?_toArray,List.getElem?_cons_succ,List.getElem?_cons_zero] at d3
   have HSUBX:=HSUB2
   clear hx hps hown hgl hka hgx
   go_upto_region 5 with (fail)
   clear d3
   have hs:Whole 29 u.drew X (plsC (.slice (some ⟨g,0,none⟩) 1 c')):=HXU.out
   refine zy 6 [(0,true),(1,true),(2,true),(3,false),(4,false),(5,false)] (fun z=>Whole 29 z X (plsC (.slice (some ⟨g,0,none⟩) 1 c'))) (by kernel_rfl) (by kernel_rfl) rfl (by intro c a d v w h;cases d<;>exact h) ?_
   refine z8 (some 13) (.pointer (some ⟨X,9,none⟩)) _ rfl rfl (by exact wantA rfl) hs (fun z hz=>by go_simp) ?_
   go_frame
   refine z8 (some 14) ((.slice (some ⟨g,0,none⟩) 1 c')) _ rfl rfl (by exact wantA rfl) hs (fun z hz=>by have d9:=hz.cells 9 rfl;clear hz;go_simp) ?_
   go_frame
   refine zk (some 15) (.pointer (some ⟨pb,0,none⟩)) _ _ rfl rfl rfl (by exact wantA rfl) hs rfl ?_
   go_frame
   refine zx (some 16) 98 Tryz.func98 (by kernel_rfl) (by kernel_rfl) [.pointer (some ⟨pb,0,none⟩)] _ _ _ rfl rfl rfl (by exact wantA rfl) rfl ?_
   refine(HSUBX.out u.drew d (HSU.out.keep (Below.refl _ u).drew) HD.out.1 HD.out.2).mono ?_
   rintro e w5 ⟨cb,rfl,hkb,h1,h2⟩
   have hlb:=hkb.len
   have hb5:But u w5 pb pb:=(But.of_below (Below.refl _ u).drew pb pb).trans h2
   have hs5:Whole 29 w5 X (plsC (.slice (some ⟨g,0,none⟩) 1 c')):=HXU.out.keep (hb5.block X HXU.out.lt HXG.out.2.1 HXG.out.2.1)
   refine⟨_,rfl,hs5,?_⟩
   go_frame
   have hc6:=z0D w5 cb 29
   have hb6:=ze w5 (.cells ⟨cb⟩ 29)
   have hx6:Whole 29 (w5.alloc (.cells ⟨cb⟩ 29)) X (plsC (.slice (some ⟨g,0,none⟩) 1 c')):=hs5.keep (hb6.block X hs5.lt)
   have hn6:(w5.alloc (.cells ⟨cb⟩ 29)).heap.size= w5.heap.size+1:=by simp
   refine z0w (some 17) (.slice (some ⟨w5.heap.size,0,none⟩) 1 1) (w5.alloc (.cells ⟨cb⟩ 29)) _ rfl rfl (by exact wantA rfl) (z4y 27 _ rfl 29 i0 _ cb rfl Tryz.underlying27 HI0.out HZ0.out (by rw[hlb];exact HZ1.out) (by rw[hlb];decide) (by rw[hlb];decide)) hx6 ?_
   go_frame
   refine z93 (some 18) _ _ _ 27 rfl rfl rfl (by exact wantA rfl) (X+1) 29 i0 _ 10 160 Tryz.underlying27 HI0.out HZ0.out HZ1.out HZ2.out rfl (by decide) (.slice (some ⟨g,0,none⟩) 1 c') 1 ca rfl (z19 (z19 HOU.out (fun b hb=>hb5.block b (by have e:g= b:=(by simpa [Value.ownBlock] using hb);subst e;exact HGU.out) (by have e:g= b:=(by simpa [Value.ownBlock] using hb);have:=HGX.out;have:=HXG.out;have:=HP.out;have:=H.out.lt;omega) (by have e:g= b:=(by simpa [Value.ownBlock] using hb);have:=HGX.out;have:=HXG.out;have:=HP.out;have:=H.out.lt;omega))) (fun b hb=>hb6.block b (by have e:g= b:=(by simpa [Value.ownBlock] using hb);have:=HGU.out;have:=hb5.size;omega))) (some ⟨w5.heap.size,0,none⟩) 1 1 cb rfl (by rw[hlb]) (fun _=>⟨_,rfl,fun j v hj=>by rw[Addr.add_mid,Nat.zero_add];exact hc6 j v hj⟩) hkb.one (by unfold maxLen;omega) (by omega) (by rw[hn6];have:=hs5.lt;omega) ?_
   intro v' w7 hown7 hg7
   obtain⟨g2,c2,rfl,hbg,hgl',hcells⟩:=zaB (n:=2) hown7 (by omega)
   have hx7:=hx6.keep (hg7.block X hx6.lt (fun e=>by simp[Value.ownBlock] at e;have:=HGX.out;omega))
   refine⟨hx7,?_⟩
   go_frame
   refine z06 ?_
   simp only[List.drop_succ_cons,List.drop_zero]
   have HS5:=I h1
   have HX5:=I hs5
   have HR5:=I (HRU.out.keep (hb5.block p HRU.out.lt HPN.out.1 HPN.out.1))
   have HB5:=I (HBU.out.trans hb5)
   have HK5:=I hkb
   have HL5:=I hlb
   have HN5:Hid (u.heap.size<=w5.heap.size):=I hb5.size
   have HQ5:Hid (u.drew.heap.size= u.heap.size):=I rfl
   have HU5:=I hb5
   have HB6:=I hb6
   have HN6:=I hn6
   have HX7:=I hx7
   have HO7:=I hown7
   have HBG:=I hbg
   have HGL7:=I hgl'
   have HCS7:=I hcells
   have HG7:=I hg7
   have d9:=hx7.cells 9 rfl
   have f9:=hx7.thaw 9
   clear hs hs5 hb5 hkb hlb h1 h2 hc6 hb6 hx6 hn6 hown7 hg7 hx7 hbg hgl' hcells
   go_upto_region 6 with (fail)
   have HX8:=I (HX7.out.put 9 (.slice (some ⟨g2,0,none⟩) 2 c2))
   have HB8:=I (But.setAt w7 X 9 (.slice (some ⟨g2,0,none⟩) 2 c2))
   clear d9 f9
   generalize w7.setCell ⟨X,9,none⟩ (.slice (some ⟨g2,0,none⟩) 2 c2)= w8 at*
   have hgl:=HGL7.out
   have hbg:=HBG.out
   have h58:∀ b,b < w5.heap.size->b≠X->b≠g->w8.heap[b]?= w5.heap[b]?:=fun b hb hx hg=>(HB8.out.block b (by have:=HG7.out.size;have:=HN6.out;omega) hx hx).trans ((HG7.out.block b (by have:=HN6.out;omega) (fun e=>by simp[Value.ownBlock] at e;omega)).trans (HB6.out.block b hb))
   have hsz:w5.heap.size < w8.heap.size:=by have:=HG7.out.size;have:=HN6.out;have:=HB8.out.size;omega
   have hgu:=HGU.out
   have hgx:=HGX.out
   have HS8:=I (HS5.out.blocks (h58 pb HS5.out.lt.2 (Ne.symm HXG.out.2.1) (by have:=H.out.lt;have:=HXG.out;have:=HP.out;omega)) (h58 tb HS5.out.lt.1 (Ne.symm HXG.out.2.2) (by have:=H.out.lt;have:=HXG.out;have:=HP.out;omega)) (by omega))
   have HBB:Hid (But w w8 pb pb):=I ⟨HB8.out.os.trans (HG7.out.os.trans (HB6.out.os.trans HB5.out.os)),HB8.out.tape.trans (HG7.out.tape.trans (HB6.out.tape.trans HB5.out.tape)),HB8.out.output.trans (HG7.out.output.trans (HB6.out.output.trans HB5.out.output)),by have:=HB5.out.size;omega,fun b hb h1 h2=>(h58 b (by have:=HB5.out.size;omega) (by have:=HXG.out.1;have:=HP.out;omega) (by have:=HXG.out.1;have:=HP.out;omega)).trans (HB5.out.block b hb h1 h2)⟩
   have HR8:=I (HR5.out.keep (h58 p HR5.out.lt (by have:=HXG.out.1;omega) (by have:=HXG.out.1;omega)))
   have HC8:Hid (∀ j v,(ca ++ cb)[j]?= some v->w8.cell? ⟨g2,j,none⟩= some v):=I fun j v hj=>(World.cell?_of_block (a:=⟨g2,j,none⟩) (HB8.out.block g2 hgl (by omega) (by omega))).trans (HCS7.out j v hj)
   have HGL:Hid (g2 < w8.heap.size):=I (Nat.lt_of_lt_of_le hgl HB8.out.size)
   have HKB8:Hid (KeptP (fun b=>p < b) w8 cb y):=I (HK5.out.to (fun b h1 h2=>⟨by have h3:u.drew.heap.size<=b:=h1;have:=HRU.out.lt;have:=HQ5.out;have:=HP.out;show p < b;omega,h58 b h2 (by have h3:u.drew.heap.size<=b:=h1;have:=HXL.out;have:=HQ5.out;omega) (by have h3:u.drew.heap.size<=b:=h1;have:=HQ5.out;omega)⟩) (by omega))
   have HKA8:Hid (KeptP (fun b=>p < b) w8 ca x):=I (HKA.out.to (fun b h1 h2=>⟨h1.1,(h58 b (by have:=HN5.out;omega) h1.2.1 h1.2.2).trans (HU5.out.block b h2 (by have:=h1.1;have:=HP.out;have:=H.out.lt;omega) (by have:=h1.1;have:=HP.out;have:=H.out.lt;omega))⟩) (by have:=HN5.out;omega))
   have HXX8:Hid (Whole 29 w8 X (plsC (.slice (some ⟨g2,0,none⟩) 2 c2))):=HX8
   have HKL:Hid (KeptP (fun b=>p < b) w8 (plsC (.slice (some ⟨g2,0,none⟩) 2 c2)) (plsE [x,y])):=I (z9k HC8.out HGL.out (by have:=HXG.out.1;have:=HP.out;show p < g2;omega) HKA8.out HKB8.out)
   clear hbg hgl h58 hsz HO7 HG7 HX8 HX7 HGL7 HBG HCS7 hgu hgx
   go_upto_region 8 with (first
    |(go_at_call 143;refine(zD HS8.out HNC.out).mono ?_;rintro e v0 ⟨rfl,h1,h2⟩;have HT9:=I h1;have HB9:=I h2;clear h1 h2)
    |(go_at_call 144;refine(z82 HT9.out HBR.out).mono ?_;rintro e v9 ⟨rfl,h1,h2⟩;have HT10:=I h1;have HB10:=I h2;clear h1 h2))
   have HBT:=I (HB9.out.trans HB10.out)
   have HX10:=I (HXX8.out.keep (HBT.out.block X HXX8.out.lt HXG.out.2.1 HXG.out.2.1))
   have HXR:=I HX10.out.range
   have HR9:=I (HR8.out.keep (HBT.out.block p HR8.out.lt HPN.out.1 HPN.out.1))
   have HK10:=I (HKL.out.to (q:=fun b=>p < b) (fun b h1 h2=>⟨h1,HBT.out.block b h2 (by have h3:p < b:=h1;have:=HP.out;have:=H.out.lt;omega) (by have h3:p < b:=h1;have:=HP.out;have:=H.out.lt;omega)⟩) HBT.out.size)
   go_wp2_with (first|((with_reducible refine zc 29 _ rfl ?hwld X 0 (plsC (.slice (some ⟨g2,0,none⟩) 2 c2)) _ rfl HXR.out Tryz.underlying29 rfl ?hild ?_);(case hwld=>exact wantA rfl);(case hild=>kernel_rfl))|((with_reducible refine zh 29 _ _ rfl rfl ?hwfd p zEc (plsC (.slice (some ⟨g2,0,none⟩) 2 c2)) HR9.out ?hs1d ?hs2d ?hs3d ?hs4d ?hs5d ?_);(case hwfd=>exact wantA rfl);(case hs1d=>rfl);(case hs2d=>rfl);(case hs3d=>rfl);(case hs4d=>kernel_rfl);(case hs5d=>exact z7N rfl);intro Z hz hb;have HZ:=I hz;have HZB:=I hb;clear hz hb))
   (try simp only[Exit.inBlock,Exit.then])
   refine bodyPost_ret (zO rfl _ _ p (plsC (.slice (some ⟨g2,0,none⟩) 2 c2)) rfl rfl HZ.out) rfl ?_
   have hp:=HP.out
   refine⟨_,rfl,?_,HT10.out.under p HPN.out.1 HPN.out.2 HZB.out,zM (HBB.out.trans HBT.out) HZB.out (by omega)⟩
   exact KeptP.to (q:=fun b=>w.heap.size<=b) HK10.out (fun b h1 h2=>⟨by have h3:p < b:=h1;show w.heap.size<=b;omega,HZB.out.block b h2 (by have h3:p < b:=h1;omega) (by have h3:p < b:=h1;omega)⟩) HZB.out.size
theorem zbX {i j h:Nat} {x:ET} (h1:isB toks i ⟨#[91]⟩= true) (hsub:PCon pb tb c E toks 252 (i+1) j h x):PCon pb tb c E toks 250 i j h x:=by
 intro w d h h0 hd
 have hno:isB toks i ⟨#[40]⟩= false:=z0T h1 (by decide +kernel)
 have HNO:=I hno
 have HIS:=I h1
 have HSUB:=I hsub
 have H:=I h
 have HD:=I (And.intro h0 hd)
 have d3:=h.cell 3
 simp only[List.getElem?_toArray,List.getElem?_cons_succ,List.getElem?_cons_zero] at d3
 clear hno h1 hsub h h0 hd
 go_enter Tryz.func250,Tryz.ntmps250
 go_upto_region 1 with (fail)
 have HR0:=I (Whole.new w zEc 29)
 have HB0:=I (ze w (.cells zEc.toArray 29))
 have hz:=z0n
 rw[hz]
 clear hz
 have HRW:Hid (w.heap.size <(w.alloc (.cells zEc.toArray 29)).heap.size):=I (by simp)
 generalize w.alloc (.cells zEc.toArray 29)= W at*
 obtain⟨p,hp⟩:∃ p,w.heap.size= p:=⟨_,rfl⟩
 rw[hp] at HR0 HRW
 rw[hp]
 have HP:=I hp
 have HS0:=I (H.out.keep HB0.out)
 have HPN:Hid (p≠pb/\p≠tb):=I ⟨by have:=H.out.lt;omega,by have:=H.out.lt;omega⟩
 have d3':=HS0.out.cell 3
 simp only[List.getElem?_toArray,List.getElem?_cons_succ,List.getElem?_cons_zero] at d3'
 clear hp d3
 go_upto_region 3 with (fail)
 clear d3'
 go_upto_region 7 with (go_at_call 143;refine(zD HS0.out HNO.out).mono ?_;rintro e w1 ⟨rfl,h1,h2⟩;have HS1:=I h1;have HB1:=I h2;clear h1 h2)
 go_upto_region 8 with (go_at_call 143;refine(z0t HS1.out HIS.out).mono ?_;rintro e w2 ⟨rfl,h1,h2⟩;have HS2:=I h1;have HB2:=I h2;clear h1 h2)
 have HB02:=I (HB1.out.trans HB2.out)
 have HR2:=I (HR0.out.keep (HB02.out.block p HRW.out HPN.out.1 HPN.out.1))
 go_wp2_with (first
  |(go_at_call 252;refine(HSUB.out w2 d HS2.out HD.out.1 HD.out.2).mono ?_;rintro e z ⟨cs,rfl,hk,h1,h2⟩;have hl:=hk.len;have HL:=I hl;have HK:=I hk;have HSZ:=I h1;have HBZ:=I h2;have HRZ:=I (HR2.out.keep (h2.block p HR2.out.lt HPN.out.1 HPN.out.1));clear hl hk h1 h2)
  |((with_reducible refine zh 29 _ _ rfl rfl ?hwd p zEc cs HRZ.out ?hs5 ?hs6 ?hs7 ?hs8 ?hs9 ?_);(case hwd=>exact wantA rfl);(case hs5=>rw[HL.out];rfl);(case hs6=>rfl);(case hs7=>rfl);(case hs8=>rw[HL.out];kernel_rfl);(case hs9=>exact HK.out.one);intro Z hz hb;have HZ:=I hz;have HZB:=I hb;clear hz hb))
 (try simp only[Exit.inBlock,Exit.then])
 refine bodyPost_ret (zO rfl _ _ p cs HL.out rfl HZ.out) rfl ?_
 have hp:=HP.out
 refine⟨cs,rfl,?_,HSZ.out.under p HPN.out.1 HPN.out.2 HZB.out,zM ((But.of_below HB0.out pb pb).trans (HB02.out.trans HBZ.out)) HZB.out (by omega)⟩
 exact HK.out.to (fun b h1 h2=>⟨by have h3:w2.heap.size<=b:=h1;have:=HR2.out.lt;show w.heap.size<=b;omega,HZB.out.block b h2 (by have h3:w2.heap.size<=b:=h1;have:=HR2.out.lt;omega) (by have h3:w2.heap.size<=b:=h1;have:=HR2.out.lt;omega)⟩) HZB.out.size
end
end Go.Proofs.YtmpbepjjbaeebaaGreatDoor
