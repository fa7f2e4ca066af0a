/- Parts of a proof: Law10G, Law10N, Build3, EvParts. -/
import Derived.Test.YtmpbepjjbaeebaaGreatDoorPackN17
import Derived.Test.YtmpbepjjbaeebaaGreatDoorPackN30
import Derived.Test.YtmpbepjjbaeebaaGreatDoorPackN51
import Derived.Test.YtmpbepjjbaeebaaGreatDoorPackN52
set_option maxHeartbeats 8000000
set_option maxRecDepth 100000
set_option linter.unusedVariables false
set_option linter.unusedSimpArgs false
section
namespace Go.Proofs.YtmpbepjjbaeebaaGreatDoor
open Go Go.RowKit
open Go.Lib (hid)
structure InitInv (TV:TypeId) (W u:World) (v:Value) (E:List VarT) (j:Nat) (KL:List zU):Prop where
 own:OwnSl TV 6 enc6 u W.heap.size v KL
 len:KL.length= j
 bel:Below W.heap.size W u
 els:∀ (i:Nat) k x,KL[i]?= some k→E[i]?= some x→ValAt W W.heap.size k.1 x.init
theorem InitInv.start (TV:TypeId) (W:World) (E:List VarT):InitInv TV W W (.slice none 0 0) E 0 []:=⟨OwnSl.nil _ _,rfl,Below.refl _ _,fun i k x hk _=>by cases hk⟩
theorem InitInv.next {TV:TypeId} {W u u7 u8:World} {v v':Value} {E:List VarT} {j:Nat} {KL:List zU} (h:InitInv TV W u v E j KL) (hb:Below u.heap.size u u7) {k:zU} {x:VarT} (hx:E[j]?= some x)
  (hk:ValAt W W.heap.size k.1 x.init) (hown:OwnSl TV 6 enc6 u8 W.heap.size v' (KL ++ [k])) (hg:u7.grownBy u8 v.ownBlock):InitInv TV W u8 v' E (j+1) (KL ++ [k]):=by
 refine⟨hown,by rw[List.length_append,h.len];rfl,?_,fun i k' y hk' hy=> ?_⟩
 ·exact(h.bel.trans (hb.mono h.bel.size)).grown hg (Nat.le_trans h.bel.size hb.size) fun b hb=>h.own.block hb
 ·rcases Nat.lt_or_ge i KL.length with hi|hi
  ·rw[List.getElem?_append_left hi] at hk'
   exact h.els i k' y hk' hy
  ·rw[List.getElem?_append_right hi] at hk'
   have hi2:i= KL.length:=by
    have:=(List.getElem?_eq_some_iff.1 hk').1
    simp only[List.length_singleton] at this
    omega
   subst hi2
   rw[Nat.sub_self] at hk'
   injection hk' with hk'
   subst hk'
   rw[h.len,hx] at hy
   injection hy with hy
   subst hy
   exact hk
theorem InitInv.row {TV:TypeId} {W u z:World} {v:Value} {E:List VarT} {KL:List zU} (h:InitInv TV W u v E E.length KL) (hl:E.length≤9223372036854775807) (hz:Below u.heap.size u z):SlAt z z.heap.size 6 (ValAt z z.heap.size) v (E.map VarT.init):=by
 have hWz:=h.bel.trans (hz.mono h.bel.size)
 refine⟨by rw[List.length_map];exact hl,?_⟩
 rw[List.length_map]
 rcases h.own.2 with ⟨rfl,h0⟩|⟨g,cap,cur,hv,hg,_,_⟩
 ·rw[h.len] at h0
  exact⟨none,0,by rw[← h0],fun h1=>by omega⟩
 ·refine⟨some ⟨g,0,none⟩,cap,by rw[hv,h.len],fun _=> ?_⟩
  have hown:v.ownBlock= some g:=by rw[hv];rfl
  have hlt:=z2x h.own hown
  refine⟨g,0,rfl,Nat.lt_of_lt_of_le hlt hz.size,fun i x hx=> ?_⟩
  rw[List.getElem?_map] at hx
  cases hy:E[i]? with
  |none=>rw[hy] at hx;cases hx
  |some y=>
   rw[hy] at hx
   injection hx with hx
   subst hx
   have hi:=(List.getElem?_eq_some_iff.1 hy).1
   have hki:KL[i]?= some (KL[i]'(by rw[h.len];exact hi)):=List.getElem?_eq_getElem _
   refine⟨_,(KL[i]'(by rw[h.len];exact hi)).2,fun j c hc=> ?_,((h.els i _ y hki hy).under hWz).more hWz.size⟩
   refine(hz.cell (p:=⟨g,_,none⟩) hlt).trans ?_
   have:=World.ownsRow.cells h.own hown (i*6+j) c (z1s z0s KL i _ hki j c hc)
   rw[Addr.add_mid] at this
   rw[show 0+i*6+j= 0+ (i*6+j) by omega];exact this
theorem z6C {w:World} {B:Nat} {cs:List Value} {x:VarT} (h:VarAt w B cs x):∃ c0 c1 c2 c3 c4 ci,cs= c0::c1::c2::c3::c4::ci∧ci.length= 6∧ValAt w B ci x.init:=by
 obtain⟨⟨ct,ci,rfl,h1,h2,_,h4⟩,_,_⟩:=h
 obtain⟨a,b,c,rfl⟩:=list3 h1
 exact⟨_,_,_,_,_,ci,rfl,h2,h4⟩
end Go.Proofs.YtmpbepjjbaeebaaGreatDoor
end
section
namespace Go.Proofs.YtmpbepjjbaeebaaGreatDoor
open Go Go.RowKit
open Go.Lib (hid)
def notC (g:Nat):List Value:= .int .i64 4:: .string ⟨#[]⟩::(zVc ++ [.slice none 0 0,.slice (some ⟨g,0,none⟩) 1 1])
theorem zcv (ca:List Value) (ha:ca.length= 10) (h1:∀ v∈ca,v.oneCell'= true) (w:World):
  Calls Tryz.prog 26 #[.agg ⟨ca⟩] w fun e w'=>∃ g,e= .returned (.agg ⟨notC g⟩)∧w.heap.size≤g∧Whole 29 w' g ca∧Below w.heap.size w w':=by
 obtain⟨i0,hi,hz0,hz1,hz2⟩:=info_parts z2v
 go_enter Tryz.func26,Tryz.ntmps26
 go_upto_region 1 with (fail)
 have HA:=hid ((Whole.new w ca 29).keep (w':=(w.alloc (.cells ⟨ca⟩ 29)).alloc (.cells zEc.toArray 29)) (by rw[Lib.alloc_old _ _ _ (by simp)]))
 have HC:=hid (Whole.new (w.alloc (.cells ⟨ca⟩ 29)) zEc 29)
 have HW:Hid (Below w.heap.size w ((w.alloc (.cells ⟨ca⟩ 29)).alloc (.cells zEc.toArray 29))):=hid (((Below.refl _ w).alloc (Nat.le_refl _) _).alloc (by simp) _)
 have HS:Hid (((w.alloc (.cells ⟨ca⟩ 29)).alloc (.cells zEc.toArray 29)).heap.size= w.heap.size+2):=hid (by simp)
 have e1:(w.alloc (.cells ⟨ca⟩ 29)).heap.size= w.heap.size+1:=by simp
 rw[e1] at HC
 have hz:(#[Value.int IntKind.i64 0,Value.string { data:= #[] },Value.int IntKind.i64 0,Value.int IntKind.i64 0,Value.float FloatKind.f64 0,Value.string { data:= #[] },Value.slice none 0 0,Value.slice none 0 0,Value.slice none 0 0,Value.slice none 0 0]:Array Value)= zEc.toArray:=rfl
 rw[hz]
 clear hz e1
 generalize (w.alloc (.cells ⟨ca⟩ 29)).alloc (.cells zEc.toArray 29)= W at*
 obtain⟨p,hp⟩:∃ p,w.heap.size= p:=⟨_,rfl⟩
 rw[hp] at HA HC HS
 rw[hp]
 have HP:=hid hp
 clear hp
 have HLA:=hid ha
 have HO1:=hid h1
 clear ha h1
 have HG:=hid (Whole.new W ca 29)
 have HC2:=hid (HC.out.keep (w':=W.alloc (.cells ⟨ca⟩ 29)) (Lib.alloc_old _ _ _ HC.out.lt))
 have HW2:Hid (Below w.heap.size w (W.alloc (.cells ⟨ca⟩ 29))):=hid (HW.out.alloc HW.out.size _)
 have H2C:Hid (∀ g,(notC g).length= 10∧∀ v∈notC g,v.oneCell'= true):=hid fun g=>⟨rfl,by intro v hv;simp only[notC,zVc,List.mem_cons,List.mem_append,List.not_mem_nil,or_false] at hv;rcases hv with rfl|rfl|(rfl|rfl|rfl|rfl|rfl|rfl)|rfl|rfl<;>rfl⟩
 go_wp2_with (first
  |((with_reducible refine z8 29 _ rfl ?hwa p 0 ca _ rfl HA.out.range Tryz.underlying29 rfl ?hia ?_);(case hwa=>exact wantA rfl);(case hia=>rw[HLA.out];kernel_rfl))
  |((with_reducible refine z0o _ _ rfl ?hwc 29 i0 _ ca rfl Tryz.underlying27 hi hz0 ?hs1 ?hs3 ?hs4 ?_);(case hwc=>exact wantA rfl);(case hs1=>rw[hz1,HLA.out]);(case hs3=>rw[HLA.out];decide);(case hs4=>rw[HLA.out];decide))
  |((with_reducible refine zh 29 _ _ rfl rfl ?hwd (p+1) zEc (notC W.heap.size) HC2.out ?hs5 ?hs6 ?hs7 ?hs8 ?hs9 ?_);(case hwd=>exact wantA rfl);(case hs5=>rfl);(case hs6=>rfl);(case hs7=>rfl);(case hs8=>rw[(H2C.out _).1];kernel_rfl);(case hs9=>exact(H2C.out _).2);intro Z hz hb;have HZ:=hid hz;have HZB:=hid hb;clear hz hb))
 (try simp only[Exit.inBlock,Exit.then])
 refine bodyPost_ret (zI rfl _ _ (p+1) (notC W.heap.size) (H2C.out _).1 rfl HZ.out) rfl ?_
 have hp:=HP.out
 have hs:=HS.out
 refine⟨W.heap.size,rfl,by omega,?_,?_⟩
 ·exact HG.out.keep (HZB.out.block _ (by simp) (by omega) (by omega))
 ·exact HW2.out.trans (HZB.out.below HW2.out.size (by omega) (by omega))
theorem zcZ {p:Nat→Prop} {w:World} {g:Nat} {ca:List Value} {x:ET} (hg:Whole 29 w g ca) (hp:p g) (ha:KeptP p w ca x):KeptP p w (notC g) (notE x):=by
 refine ExpAt.of (zl 4 (by decide +kernel)) (Nat.zero_le _) (z0Z _ _ 0 0 0 ⟨#[]⟩ (zl 0 (by decide +kernel)) (zl 0 (by decide +kernel)) (by decide +kernel) (Nat.zero_le _)) (SlAt.nil _ _ 1 _) (by show 1≤_;unfold maxLen;decide) ?_
 exact z1o ha.len (fun j v hv=>zL.2 ⟨hp,hg.range j v hv⟩) ha hg.lt
theorem z1M (p:Nat→Prop) (ca:List Value) (x:ET) (w:World) (ha:KeptP p w ca x) (hp:∀ b,w.heap.size≤b→p b):
  Calls Tryz.prog 26 #[.agg ⟨ca⟩] w fun e w'=>∃ cs,e= .returned (.agg ⟨cs⟩)∧KeptP p w' cs (notE x)∧Below w.heap.size w w':=
 (zcv ca ha.len ha.one w).mono fun e w' ⟨g,he,hg,hw,hbel⟩=>
  ⟨_,he,zcZ hw (hp g hg) (ha.to (fun b h1 h2=>⟨h1,hbel.block b h2⟩) hbel.size),hbel⟩
end Go.Proofs.YtmpbepjjbaeebaaGreatDoor
end
section
namespace Go.Proofs.YtmpbepjjbaeebaaGreatDoor
open Go Go.RowKit
open Go.Lib (hid)
theorem z9C (size:Nat) (k1 k2 k3:List Value) (cells:Array Value) (h1:k1.length= size) (h2:k2.length= size) (h3:k3.length= size) (hc:cells.size= 3*size):
  Instr.fill (fun i=>some (i*size,size)) cells [(0,.agg k1.toArray),(1,.agg k2.toArray),(2,.agg k3.toArray)]= some (k1 ++ k2 ++ k3).toArray:=by
 have e1:(Value.agg k1.toArray).cells= k1.toArray:=rfl
 have e2:(Value.agg k2.toArray).cells= k2.toArray:=rfl
 have e3:(Value.agg k3.toArray).cells= k3.toArray:=rfl
 obtain⟨m1,m2,m3,hm,hl1,hl2,hl3⟩:∃ m1 m2 m3:List Value,cells=(m1 ++ m2 ++ m3).toArray∧m1.length= size∧m2.length= size∧m3.length= size:=by
  refine⟨cells.toList.take size,(cells.toList.drop size).take size,(cells.toList.drop size).drop size,?_,?_,?_,?_⟩
  ·rw[List.append_assoc,List.take_append_drop,List.take_append_drop]
  ·rw[List.length_take,Array.length_toList];omega
  ·rw[List.length_take,List.length_drop,Array.length_toList];omega
  ·rw[List.length_drop,List.length_drop,Array.length_toList];omega
 subst hm
 unfold Instr.fill
 simp only[e1]
 rw[if_neg (by simp[h1,hl1,hl2,hl3])]
 have f1:=z2l k1 (0*size) 0 [] m1 (m2 ++ m3) (by rw[hl1,h1]) (by simp)
 have f1':(k1.toArray.zipIdx).foldl (fun(cs:Array Value) (p:Value × Nat)=>cs.setIfInBounds (0*size+p.2) p.1) (m1 ++ m2 ++ m3).toArray=(k1 ++ m2 ++ m3).toArray:=by
  rw[List.nil_append,List.nil_append,← List.append_assoc,← List.append_assoc] at f1
  rw[← f1];simp
 rw[show(k1.toArray.zipIdx.foldl (fun cs x=>match x with|(c,j)=>cs.setIfInBounds (0*size+j) c) (m1 ++ m2 ++ m3).toArray)=(k1 ++ m2 ++ m3).toArray from f1']
 unfold Instr.fill
 simp only[e2]
 rw[if_neg (by simp[h1,h2,hl2,hl3])]
 have f2:=z2l k2 (1*size) 0 k1 m2 m3 (by rw[hl2,h2]) (by rw[h1];simp)
 have f2':(k2.toArray.zipIdx).foldl (fun(cs:Array Value) (p:Value × Nat)=>cs.setIfInBounds (1*size+p.2) p.1) (k1 ++ m2 ++ m3).toArray=(k1 ++ k2 ++ m3).toArray:=by
  rw[← f2];simp
 rw[show(k2.toArray.zipIdx.foldl (fun cs x=>match x with|(c,j)=>cs.setIfInBounds (1*size+j) c) (k1 ++ m2 ++ m3).toArray)=(k1 ++ k2 ++ m3).toArray from f2']
 unfold Instr.fill
 simp only[e3]
 rw[if_neg (by simp[h1,h2,h3,hl3];omega)]
 have f3:=z2l k3 (2*size) 0 (k1 ++ k2) m3 [] (by rw[hl3,h3]) (by rw[List.length_append,h1,h2];omega)
 rw[List.append_nil,List.append_nil] at f3
 have f3':(k3.toArray.zipIdx).foldl (fun(cs:Array Value) (p:Value × Nat)=>cs.setIfInBounds (2*size+p.2) p.1) (k1 ++ k2 ++ m3).toArray=(k1 ++ k2 ++ k3).toArray:=by
  rw[← f3];simp
 rw[show(k3.toArray.zipIdx.foldl (fun cs x=>match x with|(c,j)=>cs.setIfInBounds (2*size+j) c) (k1 ++ k2 ++ m3).toArray)=(k1 ++ k2 ++ k3).toArray from f3']
 rfl
section
variable {P:Program}
theorem z9w (w:World) (t e:TypeId) (i:TypeInfo) (z:Value) (k1 k2 k3:List Value) (ht:P.underlying t= some (.slice e)) (hi:P.info? e= some i) (hz:i.zero= some z) (hsz:i.size= k1.length) (hs2:k2.length= k1.length) (hs3:k3.length= k1.length) (h0:0 < k1.length) (hmax:k1.length≤1000):
  (Instr.buildSlice t 3 #[(0,.agg k1.toArray),(1,.agg k2.toArray),(2,.agg k3.toArray)]).run P w= .ok (.slice (some ⟨w.heap.size,0,none⟩) 3 3) (w.alloc (.cells ⟨k1 ++ k2 ++ k3⟩ e)):=by
 have hs:(sizeOf e).run P w= .ok k1.length w:=by simp[sizeOf,typeInfo,hi,hsz]
 have hzv:(zeroValue e).run P w= .ok z w:=by simp[zeroValue,typeInfo,hi,hz]
 have hf:∀ cells:Array Value,cells.size= 3*k1.length→Instr.fill (fun i=>some (i*k1.length,k1.length)) cells [(0,.agg k1.toArray),(1,.agg k2.toArray),(2,.agg k3.toArray)]= some (k1 ++ k2 ++ k3).toArray:=fun cells hc=>z9C k1.length k1 k2 k3 cells rfl hs2 hs3 hc
 unfold Instr.buildSlice
 simp only[Sem.run_bind,run_underlying ht,Result.andThen_ok,hs]
 rw[if_neg (by omega),if_neg (by omega)]
 simp only[Sem.run_bind,Sem.run_pure,Result.andThen_ok,hzv]
 rw[hf _ (by simp)]
 simp[newRow]
variable {ops:Array Oper} {rest:List Oper} {o:Oper} {a:Act} {w:World} {Q:Exit→Act→World→Prop}
theorem z6H (t:TypeId) (x y u:Operand) (ho:o.op= .buildSlice t 3 #[(0,x),(1,y),(2,u)]) (hw:Region.wanted o (yielded ops a.tmps)= true) (e:TypeId) (i:TypeInfo) (z:Value) (k1 k2 k3:List Value) (hx:a.eval x= .agg k1.toArray) (hy:a.eval y= .agg k2.toArray) (hu:a.eval u= .agg k3.toArray)
  (ht:P.underlying t= some (.slice e)) (hi:P.info? e= some i) (hz:i.zero= some z) (hsz:i.size= k1.length) (hs2:k2.length= k1.length) (hs3:k3.length= k1.length) (h0:0 < k1.length) (hmax:k1.length≤1000)
  (h:wpList P ops Q rest (a.put o.dst (.slice (some ⟨w.heap.size,0,none⟩) 3 3)) (w.alloc (.cells ⟨k1 ++ k2 ++ k3⟩ e))):wpList P ops Q (o::rest) a w:=by
 refine wpList_step fun K hK=> ?_
 rw[if_pos hw]
 unfold Oper.wp execOp
 have hr:=z9w (P:=P) w t e i z k1 k2 k3 ht hi hz hsz hs2 hs3 h0 hmax
 simp only[ho,List.map_toArray,List.map_cons,List.map_nil,hx,hy,hu,Sem.run_bind,Sem.run_pure,Result.andThen_ok,hr]
 exact hK _ _ h
theorem z9A (t:TypeId) (x:Operand) (ho:o.op= .buildSlice t 1 #[(0,x)]) (hw:Region.wanted o (yielded ops a.tmps)= true) (e:TypeId) (i:TypeInfo) (z:Value) (s:ByteArray) (hx:a.eval x= .string s)
  (ht:P.underlying t= some (.slice e)) (hi:P.info? e= some i) (hz:i.zero= some z) (hzc:z.cells.size= 1) (hsz:i.size= 1)
  (h:wpList P ops Q rest (a.put o.dst (.slice (some ⟨w.heap.size,0,none⟩) 1 1)) (w.alloc (.cells ⟨[.string s]⟩ e))):wpList P ops Q (o::rest) a w:=by
 refine wpList_step fun K hK=> ?_
 rw[if_pos hw]
 unfold Oper.wp execOp
 have hr:(Instr.buildSlice t 1 #[(0,.string s)]).run P w= .ok (.slice (some ⟨w.heap.size,0,none⟩) 1 1) (w.alloc (.cells ⟨[.string s]⟩ e)):=by
  have hs:(sizeOf e).run P w= .ok 1 w:=by simp[sizeOf,typeInfo,hi,hsz]
  have hzv:(zeroValue e).run P w= .ok z w:=by simp[zeroValue,typeInfo,hi,hz]
  have hf:∀ cells:Array Value,cells.size= 1→Instr.fill (fun i=>some (i*1,1)) cells [(0,.string s)]= some #[.string s]:=fun cells hc=>z8d 1 [.string s] cells rfl hc
  unfold Instr.buildSlice
  simp only[Sem.run_bind,run_underlying ht,Result.andThen_ok,hs,Nat.one_mul]
  rw[if_neg (by omega),if_neg (by omega)]
  simp only[Sem.run_bind,Sem.run_pure,Result.andThen_ok,hzv]
  rw[hf _ (by simp)]
  simp[newRow]
 simp only[ho,List.map_toArray,List.map_cons,List.map_nil,hx,Sem.run_bind,Sem.run_pure,Result.andThen_ok,hr]
 exact hK _ _ h
end
theorem z6Q {α:Type} {w:World} {B k b:Nat} {R:List Value→α→Prop} {x y u:α} {c1 c2 c3:List Value} (h1:c1.length= k) (h2:c2.length= k) (h3:c3.length= k) (hr:w.rangeAt b 0 (c1 ++ c2 ++ c3)) (hx:R c1 x) (hy:R c2 y) (hu:R c3 u) (hb:b < B):SlAt w B k R (.slice (some ⟨b,0,none⟩) 3 3) [x,y,u]:=
 ⟨by show 3≤_;decide,_,_,rfl,fun _=>⟨b,0,rfl,hb,fun i z hz=>by
  match i,hz with
  |0,hz=>
   obtain rfl:x= z:=by simpa using hz
   exact⟨c1,h1,fun j v hj=>by
    have hl:=(List.getElem?_eq_some_iff.1 hj).1
    have:=hr j v (by rw[List.append_assoc,List.getElem?_append_left hl];exact hj)
    rw[show 0+0*k+j= 0+j by omega];exact this,hx⟩
  |1,hz=>
   obtain rfl:y= z:=by simpa using hz
   exact⟨c2,h2,fun j v hj=>by
    have hl:=(List.getElem?_eq_some_iff.1 hj).1
    have:=hr (c1.length+j) v (by rw[List.getElem?_append_left (by rw[List.length_append];omega),List.getElem?_append_right (by omega),Nat.add_sub_cancel_left];exact hj)
    rw[show 0+1*k+j= 0+ (c1.length+j) by omega];exact this,hy⟩
  |2,hz=>
   obtain rfl:u= z:=by simpa using hz
   exact⟨c3,h3,fun j v hj=>by
    have:=hr ((c1 ++ c2).length+j) v (by rw[List.getElem?_append_right (by omega),Nat.add_sub_cancel_left];exact hj)
    rw[List.length_append] at this
    rw[show 0+2*k+j= 0+ (c1.length+c2.length+j) by omega];exact this,hu⟩
  |i+3,hz=>simp at hz⟩⟩
end Go.Proofs.YtmpbepjjbaeebaaGreatDoor
end
section
namespace Go.Proofs.YtmpbepjjbaeebaaGreatDoor
open Go Go.RowKit
open Go.Lib (hid)
def mkC (k:Int) (s:ByteArray) (vn vi:Value):List Value:= .int .i64 k:: .string s::(zVc ++ [vn,vi])
def leafC (k n:Int):List Value:=[.int .i64 1,.string ⟨#[]⟩,.int .i64 k,.int .i64 n,.float .f64 0,.string ⟨#[]⟩,.slice none 0 0,.slice none 0 0,.slice none 0 0,.slice none 0 0]
theorem z5Z (k:Int) (s:ByteArray) (A B:Option Addr) (a b c d:Nat):∀ v∈mkC k s (.slice A a b) (.slice B c d),v.oneCell'= true:=by
 intro v hv
 simp only[mkC,zVc,List.mem_cons,List.mem_append,List.not_mem_nil,or_false] at hv
 rcases hv with rfl|rfl|(rfl|rfl|rfl|rfl|rfl|rfl)|rfl|rfl<;>rfl
theorem z3O {w:World} {B:Nat} {k:Int} {s:ByteArray} {vn vi:Value} {ns:List ByteArray} {its:List ET} (hk:wfI k) (hs:s.size≤maxLen) (hns:SlAt w B 1 StrR vn ns) (hi:SlAt w B 10 (ExpAt w B) vi its):ExpAt w B (mkC k s vn vi) (.mk k s zV ns its):=
 ExpAt.of hk hs (z0Z _ _ 0 0 0 ⟨#[]⟩ (zl 0 (by decide +kernel)) (zl 0 (by decide +kernel)) (by decide +kernel) (Nat.zero_le _)) hns hi.1 hi
theorem z87 {w:World} {B:Nat} {k n:Int} (hk:wfI k) (hn:wfI n):ExpAt w B (leafC k n) (.mk 1 ⟨#[]⟩ (.mk k n 0 ⟨#[]⟩ [] []) [] []):=
 ExpAt.of (zl 1 (by decide +kernel)) (Nat.zero_le _) (z0Z _ _ k n 0 ⟨#[]⟩ hk hn (by decide +kernel) (Nat.zero_le _)) (SlAt.nil _ _ _ _) (Nat.zero_le _) (SlAt.nil _ _ _ _)
theorem z7b (k n:Int):∀ v∈leafC k n,v.oneCell'= true:=by
 intro v hv
 simp only[leafC,List.mem_cons,List.not_mem_nil,or_false] at hv
 rcases hv with rfl|rfl|rfl|rfl|rfl|rfl|rfl|rfl|rfl|rfl<;>rfl
theorem zaB (a:VT):ordV a a= 0:=by
 have:=ordV_good.anti a a
 omega
def PartR (r1 r2:Res):Prop:=r2= r1∨((resV r2).2= 3∧(resV r1).2= 0)
theorem z6A {f:VT→VT} (r:Res):PartR r (wrapR f r):=by
 cases r with
 |error e=>exact .inl rfl
 |ok v=>
  unfold wrapR
  by_cases h:zi (f v)= true
  ·exact .inl (if_pos h)
  ·exact .inr ⟨by simp only[if_neg h];rfl,rfl⟩
def z5s (x:ET):List ET:=[ifE x,fldE x,idxE x]
theorem zaS {x:ET} {E:List VarT} {V:List VT} (dx:zO x 40≤9) (hc:cntE x 0≤180):∀ y∈z5s x,PartR (evalT x E V) (evalT y E V):=by
 intro y hy
 simp only[z5s,List.mem_cons,List.not_mem_nil,or_false] at hy
 rcases hy with rfl|rfl|rfl
 ·exact .inl (zcb dx hc)
 ·rw[zaV dx hc];exact z6A _
 ·rw[zb0 dx hc];exact z6A _
theorem zel {α:Type} {w:World} {B k b o n c:Nat} {R:List Value→α→Prop} {l:List α} (h:SlAt w B k R (.slice (some ⟨b,o,none⟩) n c) l) (j:Nat) (y:α) (hy:l[j]?= some y):∃ cs:List Value,cs.length= k∧w.rangeAt b (o+j*k) cs∧R cs y:=by
 obtain⟨_,A,c',he,h⟩:=h
 injection he with h1 h2 h3
 obtain⟨b',o',hA,_,hc⟩:=h (by have:=(List.getElem?_eq_some_iff.1 hy).1;omega)
 rw[hA] at h1
 injection h1 with h1
 injection h1 with e1 e2 e3
 subst e1 e2
 exact hc j y hy
theorem zcq {u:World} {B b1 b2 b3 b4 b5 b6 b7:Nat} {cx:List Value} {x:ET} (hx:ExpAt u B cx x) (hl:cx.length= 10) (hB:b1 < B∧b2 < B∧b3 < B∧b4 < B∧b5 < B∧b6 < B∧b7 < B)
  (h1:u.rangeAt b1 0 (leafC 1 1 ++ cx ++ leafC 2 0)) (h2:u.rangeAt b2 0 [.string aN]) (h3:u.rangeAt b3 0 cx) (h4:u.rangeAt b4 0 (mkC 17 ⟨#[]⟩ (.slice (some ⟨b2,0,none⟩) 1 1) (.slice (some ⟨b3,0,none⟩) 1 1))) (h5:u.rangeAt b5 0 cx)
  (h6:u.rangeAt b6 0 (mkC 16 ⟨#[]⟩ (.slice none 0 0) (.slice (some ⟨b5,0,none⟩) 1 1) ++ leafC 2 0))
  (h7:u.rangeAt b7 0 (mkC 15 ⟨#[]⟩ (.slice none 0 0) (.slice (some ⟨b1,0,none⟩) 3 3) ++ mkC 18 aN (.slice none 0 0) (.slice (some ⟨b4,0,none⟩) 1 1) ++ mkC 19 ⟨#[]⟩ (.slice none 0 0) (.slice (some ⟨b6,0,none⟩) 2 2))):
  SlAt u B 10 (fun cs y=>ExpAt u B cs y∧∀ v∈cs,v.oneCell'= true) (.slice (some ⟨b7,0,none⟩) 3 3) (z5s x):=by
 obtain⟨l1,l2,l3,l4,l5,l6,l7⟩:=hB
 have hy:ExpAt u B (leafC 1 1) yesE:=z87 (zl 1 (by decide +kernel)) (zl 1 (by decide +kernel))
 have hz:ExpAt u B (leafC 2 0) zeroE:=z87 (zl 2 (by decide +kernel)) (zl 0 (by decide +kernel))
 have hn:SlAt u B 1 StrR (.slice none 0 0) []:=SlAt.nil _ _ _ _
 have ei:ExpAt u B (mkC 15 ⟨#[]⟩ (.slice none 0 0) (.slice (some ⟨b1,0,none⟩) 3 3)) (ifE x):=z3O (zl 15 (by decide +kernel)) (Nat.zero_le _) hn (z6Q rfl hl rfl h1 hy hx hz l1)
 have er:ExpAt u B (mkC 17 ⟨#[]⟩ (.slice (some ⟨b2,0,none⟩) 1 1) (.slice (some ⟨b3,0,none⟩) 1 1)) (recE x):=z3O (zl 17 (by decide +kernel)) (Nat.zero_le _) (z1o rfl h2 ⟨rfl,by decide +kernel⟩ l2) (z1o hl h3 hx l3)
 have ef:ExpAt u B (mkC 18 aN (.slice none 0 0) (.slice (some ⟨b4,0,none⟩) 1 1)) (fldE x):=z3O (zl 18 (by decide +kernel)) (by decide +kernel) hn (z1o rfl h4 er l4)
 have el:ExpAt u B (mkC 16 ⟨#[]⟩ (.slice none 0 0) (.slice (some ⟨b5,0,none⟩) 1 1)) (lstE x):=z3O (zl 16 (by decide +kernel)) (Nat.zero_le _) hn (z1o hl h5 hx l5)
 have ex:ExpAt u B (mkC 19 ⟨#[]⟩ (.slice none 0 0) (.slice (some ⟨b6,0,none⟩) 2 2)) (idxE x):=z3O (zl 19 (by decide +kernel)) (Nat.zero_le _) hn (zbq rfl rfl h6 el hz l6)
 exact z6Q rfl rfl rfl h7 ⟨ei,z5Z _ _ _ _ _ _ _ _⟩ ⟨ef,z5Z _ _ _ _ _ _ _ _⟩ ⟨ex,z5Z _ _ _ _ _ _ _ _⟩ l7
theorem zcU:(Tryz.prog.info? 9).map (fun i=>(i.zero,i.size,i.bytes))= some (some (.string ⟨#[]⟩),1,16):=by kernel_rfl
theorem evalParts_walk (w:World) (htb:TabP w) (cx:List Value) (x:ET) (hxx:ExpAt w w.heap.size cx x) (v:Value) (E:List VarT) (hE:SlAt w w.heap.size 11 (VarAt w w.heap.size) v E) (hEl:E.length≤maxLen):
  Calls Tryz.prog 7 #[.agg ⟨cx⟩,v] w fun e w'=>e= .returned (.bool true)∧Below w.heap.size w w':=by
 have HTB:=hid htb
 have HLx:=hid (eslen hxx)
 have HOx:=hid hxx.one
 have HXx:=hid hxx
 obtain⟨hel,EA,ec,rfl,hEA⟩:=id hE
 have HE:=hid hE
 have HEA:=hid hEA
 have HEM:=hid hEl
 clear hE hEA hEl hel htb hxx
 go_enter Tryz.func7,Tryz.ntmps7
 go_upto_region 1 with (fail)
 have hrx:=Whole.new (w) cx 29
 have HB1:Hid (Below w.heap.size w ((w).alloc (.cells ⟨cx⟩ 29))):=hid ((Below.refl w.heap.size w).alloc (by simp) (.cells ⟨cx⟩ 29))
 generalize (w).alloc (.cells ⟨cx⟩ 29)= W at*
 have HRx:=hid hrx
 clear hrx
 have HK1:=hid (Below.refl W.heap.size W)
 have HEx:=hid (fun z (hz:Below W.heap.size W z)=>(((HXx.out.under (HB1.out.trans (hz.mono HB1.out.size))).more (HB1.out.trans (hz.mono HB1.out.size)).size:ExpAt z z.heap.size cx x)))
 have HWx:=hid (fun z (hz:Below W.heap.size W z)=>HRx.out.keep (hz.block _ HRx.out.lt))
 have HEV:=hid (fun z (hz:Below W.heap.size W z)=>((HE.out.below (HB1.out.trans (hz.mono HB1.out.size)) fun _ _ _ h=>(h.under (HB1.out.trans (hz.mono HB1.out.size))).more (HB1.out.trans (hz.mono HB1.out.size)).size).more (HB1.out.trans (hz.mono HB1.out.size)).size:SlAt z z.heap.size 11 (VarAt z z.heap.size) (.slice EA E.length ec) E))
 go_wp2_with (go_at_call 10;fail)
 refine(z0M W (HTB.out.next HB1.out)).mono ?_
 rintro e w2 ⟨rfl,hb⟩
 have HK2:=hid hb
 have HB2:=hid (HB1.out.trans (hb.mono HB1.out.size))
 clear hb
 have HS2:=hid (z7P x cx w2 (HEx.out w2 HK2.out))
 go_wp2_with (first|((with_reducible refine z8 29 _ rfl ?hwl1 (w.heap.size) (0) (cx) _ rfl (HWx.out w2 HK2.out).range Tryz.underlying29 rfl ?hil1 ?_);(case hwl1=>(exact wantA rfl));(case hil1=>rw[HLx.out];kernel_rfl))|(go_at_call 11;fail))
 refine HS2.out.mono ?_
 rintro e w3 ⟨q,rfl,hb⟩
 have HK3:=hid (HK2.out.trans (hb.mono HK2.out.size))
 have HB3:=hid (HB2.out.trans (hb.mono HB2.out.size))
 clear hb HS2
 cases q with
 |false=>
  go_wp2_with (go_at_call 10;fail)
  refine(z0M w3 (HTB.out.next HB3.out)).mono ?_
  rintro e w9 ⟨rfl,hb⟩
  have HB9:=hid (HB3.out.trans (hb.mono HB3.out.size))
  clear hb
  go_wp2
  go_ret
  exact⟨rfl,HB9.out⟩
 |true=>
  have HS3:=hid (z99 E (.slice EA E.length ec) w3 (HEV.out w3 HK3.out) HEM.out)
  go_wp2_with (first|(go_at_call 12;fail))
  refine HS3.out.mono ?_
  rintro e w4 ⟨q,rfl,hq,hb⟩
  have HK4:=hid (HK3.out.trans (hb.mono HK3.out.size))
  have HB4:=hid (HB3.out.trans (hb.mono HB3.out.size))
  clear hb HS3
  cases q with
  |false=>
   clear hq
   go_wp2_with (go_at_call 10;fail)
   refine(z0M w4 (HTB.out.next HB4.out)).mono ?_
   rintro e w9 ⟨rfl,hb⟩
   have HB9:=hid (HB4.out.trans (hb.mono HB4.out.size))
   clear hb
   go_wp2
   go_ret
   exact⟨rfl,HB9.out⟩
  |true=>
   have HE40:=hid (hq rfl)
   clear hq
   have HS4:=hid (z3m x 40 cx w4 (by omega) (HEx.out w4 HK4.out))
   obtain⟨d1,hqd1⟩:∃ d:Nat,zO x 40= d:=⟨_,rfl⟩
   have HD1Q:=hid hqd1
   rw[hqd1] at HS4
   clear hqd1
   go_wp2_with (first|((with_reducible refine z8 29 _ rfl ?hwl2 (w.heap.size) (0) (cx) _ rfl (HWx.out w4 HK4.out).range Tryz.underlying29 rfl ?hil2 ?_);(case hwl2=>(exact wantA rfl));(case hil2=>rw[HLx.out];kernel_rfl))|(go_at_call 24;fail))
   refine HS4.out.mono ?_
   rintro e w5 ⟨rfl,hb⟩
   have HK5:=hid (HK4.out.trans (hb.mono HK4.out.size))
   have HB5:=hid (HB4.out.trans (hb.mono HB4.out.size))
   clear hb HS4
   rcases Nat.lt_or_ge 9 d1 with hd|hd
   ·have hgt:decide ((9:Int) <(d1:Int))= true:=decide_eq_true (by omega)
    clear hd
    go_wp2_with (go_at_call 10;fail)
    refine(z0M w5 (HTB.out.next HB5.out)).mono ?_
    rintro e w9 ⟨rfl,hb⟩
    have HB9:=hid (HB5.out.trans (hb.mono HB5.out.size))
    clear hb
    go_wp2
    go_ret
    exact⟨rfl,HB9.out⟩
   have hgt:decide ((9:Int) <(d1:Int))= false:=decide_eq_false (by omega)
   have HD1:=hid (show zO x 40≤9 by rw[HD1Q.out];exact hd)
   clear hd
   have HS5:=hid (z1c x cx w5 (HEx.out w5 HK5.out))
   obtain⟨d2,hqd2⟩:∃ d:Nat,cntE x 0= d:=⟨_,rfl⟩
   have HD2Q:=hid hqd2
   rw[hqd2] at HS5
   clear hqd2
   go_wp2_with (first|((with_reducible refine z8 29 _ rfl ?hwl3 (w.heap.size) (0) (cx) _ rfl (HWx.out w5 HK5.out).range Tryz.underlying29 rfl ?hil3 ?_);(case hwl3=>(exact wantA rfl));(case hil3=>rw[HLx.out];kernel_rfl))|(go_at_call 25;fail))
   refine HS5.out.mono ?_
   rintro e w6 ⟨rfl,hb⟩
   have HK6:=hid (HK5.out.trans (hb.mono HK5.out.size))
   have HB6:=hid (HB5.out.trans (hb.mono HB5.out.size))
   clear hb HS5
   rcases Nat.lt_or_ge 180 d2 with hd|hd
   ·have hgt:decide ((180:Int) <(d2:Int))= true:=decide_eq_true (by omega)
    clear hd
    go_wp2_with (go_at_call 10;fail)
    refine(z0M w6 (HTB.out.next HB6.out)).mono ?_
    rintro e w9 ⟨rfl,hb⟩
    have HB9:=hid (HB6.out.trans (hb.mono HB6.out.size))
    clear hb
    go_wp2
    go_ret
    exact⟨rfl,HB9.out⟩
   have hgt:decide ((180:Int) <(d2:Int))= false:=decide_eq_false (by omega)
   have HD2:=hid (show cntE x 0≤180 by rw[HD2Q.out];exact hd)
   clear hd
   go_wp2
   obtain⟨G,hG⟩:∃ G,w6= G:=⟨_,rfl⟩
   rw[hG] at HK6 HB6
   rw[hG]
   clear hG
   have HKG:=HK6
   have HBG:=HB6
   obtain⟨j0,hi,hz0,hz1,hz2⟩:=z0a z0O
   have HJ0:=hid hi
   have HY0:=hid hz0
   have HY1:=hid hz1
   have HY2:=hid hz2
   clear hi hz0 hz1 hz2
   go_loopg [5,41] E.length (fun q x y u=>∃ (j:Nat) (KL:List zU),j+q= E.length∧y= .int .i64 j∧InitInv 26 G u x E j KL)
   case atStart=>exact⟨0,[],by omega,rfl,InitInv.start _ _ _⟩
   case round=>
    obtain⟨j,KL,hj,rfl,hI⟩:=hrel
    have HI:=hid hI
    obtain⟨UA,uc,rfl⟩:=z3P hI.own
    have hkl:=hI.len
    have HKLL:=hid hkl
    clear hI hkl
    cases gk with
    |succ g=>
     have hlt:(j:Int) <(E.length:Int):=by omega
     obtain⟨y,hy⟩:∃ y,E[j]?= some y:=⟨_,List.getElem?_eq_getElem (by omega)⟩
     obtain⟨b,ob,rfl,hbb,hc⟩:=HEA.out (by omega)
     obtain⟨ks,hkl,hkr,hkv⟩:=hc j y hy
     obtain⟨c0,c1,c2,c3,c4,ci,rfl,hci,hvi⟩:=z6C hkv
     have hG:=HBG.out.trans (HI.out.bel.mono HBG.out.size)
     have HR:=hid (zd hkr hG hbb)
     have HCI:=hid hci
     have HVI:Hid (ValAt G G.heap.size ci y.init):=hid ((hvi.under HBG.out).more HBG.out.size)
     have HOV:=hid hkv.one
     have HOI:=hid (ze hvi).2
     have HYY:=hid hy
     have HCL:Hid ((c0::c1::c2::c3::c4::ci).length= 11):=hid (by simp[hci])
     clear hc hkl hkr hkv hci hvi hG hy
     go_upto_region 7 with (first|((with_reducible refine z8 47 _ rfl ?hwl4 (b) (ob+j*11) (c0::c1::c2::c3::c4::ci) _ rfl HR.out Tryz.underlying47 rfl ?hil4 ?_);(case hwl4=>(exact wantA rfl));(case hil4=>rw[HCL.out];kernel_rfl))|((with_reducible refine zR 47 _ _ rfl ?hwx5 wr ?zz5 (c0::c1::c2::c3::c4::ci) ?hwld5 ?hz5 ?hx5 ?hy5 ?hi5 ?h15 ?_);(case hwld5=>rfl);(case hx5=>rfl);(case hy5=>rfl);(case hwx5=>(exact wantA rfl));(case hz5=>rw[HCL.out];rfl);(case hi5=>rw[HCL.out];kernel_rfl);(case h15=>exact HOV.out);intro Z hZ;have HXZ:=hid hZ;clear hZ))
     have HRI:Hid (Z.rangeAt wr.heap.size 5 ci):=hid (fun i u hu=>by have:=HXZ.out.range (5+i) u (by rw[show 5+i= i+1+1+1+1+1 by omega];exact hu);rw[show 0+ (5+i)= 5+i by omega] at this;exact this)
     have HC7:Hid (∀ i u,(enc6 ⟨ci,HCI.out⟩)[i]?= some u→(Z.alloc (.cells ⟨ci⟩ 26)).cell? ⟨Z.heap.size,i,none⟩= some u):=hid (z0E Z ci 26)
     have HB7:=hid (zc Z (.cells ⟨ci⟩ 26))
     have HS7:Hid (G.heap.size≤(Z.alloc (.cells ⟨ci⟩ 26)).heap.size):=hid (Nat.le_trans HI.out.bel.size (Nat.le_trans HXZ.out.below.size HB7.out.size))
     have HOW:Hid (OwnSl 26 6 enc6 (Z.alloc (.cells ⟨ci⟩ 26)) G.heap.size (.slice UA KL.length uc) KL):=hid (HI.out.own.below (HXZ.out.below.trans (HB7.out.mono HXZ.out.below.size)))
     have HM63:Hid (KL.length+1≤maxLen):=hid (by have:=HE40.out;have h2:=HKLL.out;unfold maxLen;omega)
     have HM88:Hid ((KL.length+1) *88≤140737488355328):=hid (by have:=HE40.out;have h2:=HKLL.out;omega)
     go_wp2_with (first|((with_reducible refine z8 26 _ rfl ?hwl6 (wr.heap.size) (5) (ci) _ rfl HRI.out Tryz.underlying26 rfl ?hil6 ?_);(case hwl6=>(exact wantA rfl));(case hil6=>rw[HCI.out];kernel_rfl))|((with_reducible refine z0o 24 _ rfl ?hw3 26 j0 _ ci ?hx3 Tryz.underlying24 HJ0.out HY0.out ?hs3 ?h03 ?hm3 ?_);(case hw3=>(exact wantA rfl));(case hx3=>rfl);(case hs3=>rw[HCI.out];exact HY1.out);(case h03=>rw[HCI.out];decide);(case hm3=>rw[HCI.out];decide))|(at_builtin;(refine z3q rfl _ _ 24 rfl G.heap.size 26 j0 _ 6 88 enc6 Tryz.underlying24 HJ0.out HY0.out HY1.out HY2.out rfl (by decide) z0s (.slice UA KL.length uc) KL rfl HOW.out Z.heap.size 1 ⟨ci,HCI.out⟩ HOI.out rfl HC7.out HM63.out HM88.out HS7.out ?_;intro v' u8 hown hg hblk;have HN:=hid (InitInv.next (k:=⟨ci,HCI.out⟩) HI.out (HXZ.out.below.trans (HB7.out.mono HXZ.out.below.size)) HYY.out HVI.out hown hg);clear hown hg hblk)))
     go_roundg g
     case measure=>omega
     case rel=>
      have hb40:=HE40.out
      have hq:wrap64 ((j:Int)+1)=((j+1:Nat):Int):=by unfold wrap64;omega
      exact⟨j+1,KL ++ [⟨ci,HCI.out⟩],by omega,by first|rw[hq]|rfl,HN.out⟩
    |zero=>
     obtain rfl:j= E.length:=by omega
     have hge: ¬ ((E.length:Int) <(E.length:Int)):=by omega
     have HLV:=hid (fun z (hz:Below wr.heap.size wr z)=>HI.out.row (by have:=HE40.out;omega) hz)
     have HWR:Hid (Below W.heap.size W wr):=hid (HKG.out.trans (HI.out.bel.mono HKG.out.size))
     have HBR:Hid (Below w.heap.size w wr):=hid (HBG.out.trans (HI.out.bel.mono HBG.out.size))
     obtain⟨kn,hkn⟩:∃ n,KL.length= n:=⟨_,rfl⟩
     rw[hkn] at HLV
     rw[hkn]
     have HKN:=hid hkn
     clear hkn HI
     obtain⟨V0,hV0⟩:∃ z,z= wr:=⟨_,rfl⟩
     subst hV0
     have HEV1:=hid (z0Q x E (E.map VarT.init) cx (.slice EA E.length ec) (.slice UA kn uc) V0 (HEx.out V0 HWR.out) (HEV.out V0 HWR.out) (HLV.out V0 (Below.refl _ _)) (by have:=HE40.out;omega) (by rw[List.length_map];have:=HE40.out;omega) (HTB.out.next HBR.out))
     obtain⟨r1,hr1⟩:∃ r,evalT x E (E.map VarT.init)= r:=⟨_,rfl⟩
     rw[hr1] at HEV1
     have HRR1:=hid hr1
     clear hr1
     go_upto_region 10 with (first|((with_reducible refine z8 29 _ rfl ?hwl7 (w.heap.size) (0) (cx) _ rfl (HWx.out V0 HWR.out).range Tryz.underlying29 rfl ?hil7 ?_);(case hwl7=>(exact wantA rfl));(case hil7=>rw[HLx.out];kernel_rfl))|(go_at_call 14;refine HEV1.out.mono ?_;rintro e y1 ⟨cs1,rfl,hk,hr,hb⟩;have HC1:=hid (ze hk.val).1;have HOO1:=hid (ze hk.val).2;have HVV1:=hid hk.val;have HBY1:=hid hb;clear hk hr hb)|((with_reducible refine zR 26 _ _ rfl ?hwx8 y1 ?zz8 (cs1) ?hwld8 ?hz8 ?hx8 ?hy8 ?hi8 ?h18 ?_);(case hwld8=>rfl);(case hx8=>rfl);(case hy8=>rfl);(case hwx8=>(exact wantA rfl));(case hz8=>rw[HC1.out];rfl);(case hi8=>rw[HC1.out];kernel_rfl);(case h18=>exact HOO1.out);intro Z1 hZ;have HXX1:=hid hZ;clear hZ))
     have HST1:Hid (Below V0.heap.size V0 Z1):=hid (HBY1.out.trans (HXX1.out.below.mono HBY1.out.size))
     have HPL1:Hid (y1.heap.size < Z1.heap.size):=hid HXX1.out.size
     have HPC1:=hid HXX1.out.range
     have HVZ1:Hid (ValAt Z1 Z1.heap.size cs1 (resV r1).1):=hid ((HVV1.out.under HXX1.out.below).more HXX1.out.below.size)
     obtain⟨q1,hq1⟩:∃ q,y1.heap.size= q:=⟨_,rfl⟩
     rw[hq1] at HPL1 HPC1
     rw[hq1]
     clear hq1 HXX1 HEV1
     obtain⟨n1,hn1⟩:∃ n,(resV r1).2= n:=⟨_,rfl⟩
     rw[hn1]
     have HN1:=hid hn1
     clear hn1
     have HLL:Hid (∀ k n,(leafC k n).length= 10):=hid fun _ _=>rfl
     go_upto_region 11 with (first|((with_reducible refine zR 29 _ _ rfl ?hwx9 Z1 ?zz9 (leafC 2 0) ?hwld9 ?hz9 ?hx9 ?hy9 ?hi9 ?h19 ?_);(case hwld9=>rfl);(case hx9=>rfl);(case hy9=>rfl);(case hwx9=>(exact wantA rfl));(case hz9=>rw[HLL.out];rfl);(case hi9=>rw[HLL.out];kernel_rfl);(case h19=>exact z7b 2 0);intro ZA hZ;have HXA:=hid hZ;clear hZ))
     go_upto_region 12 with (first|((with_reducible refine zR 29 _ _ rfl ?hwx10 ZA ?zz10 (leafC 1 1) ?hwld10 ?hz10 ?hx10 ?hy10 ?hi10 ?h110 ?_);(case hwld10=>rfl);(case hx10=>rfl);(case hy10=>rfl);(case hwx10=>(exact wantA rfl));(case hz10=>rw[HLL.out];rfl);(case hi10=>rw[HLL.out];kernel_rfl);(case h110=>exact z7b 1 1);intro U hZ;have HXB:=hid hZ;clear hZ))
     have HZU:Hid (Below Z1.heap.size Z1 U):=hid (HXA.out.below.trans (HXB.out.below.mono HXA.out.below.size))
     have HL0:Hid (∀ z,Below U.heap.size U z→z.rangeAt Z1.heap.size 0 (leafC 2 0)):=hid fun z hz=>zd (zd HXA.out.range HXB.out.below HXA.out.size) hz (Nat.lt_of_lt_of_le HXA.out.size HXB.out.below.size)
     have HL1:Hid (∀ z,Below U.heap.size U z→z.rangeAt ZA.heap.size 0 (leafC 1 1)):=hid fun z hz=>zd HXB.out.range hz HXB.out.size
     have HWU:Hid (Below W.heap.size W U):=hid (HWR.out.trans ((HST1.out.trans (HZU.out.mono HST1.out.size)).mono HWR.out.size))
     have HK00:=hid (Below.refl U.heap.size U)
     have HLM:Hid (∀ k s a b,(mkC k s a b).length= 10):=hid fun _ _ _ _=>rfl
     obtain⟨j1,hi1,hy0,hy1,hy2⟩:=info_parts z2v
     have HI1:=hid hi1
     have HI2:=hid hy0
     have HI3:=hid hy1
     clear hi1 hy0 hy1 hy2
     obtain⟨j2,hi1,hy0,hy1,hy2⟩:=z0a zcU
     have HS1:=hid hi1
     have HS2:=hid hy0
     have HS3:=hid hy1
     clear hi1 hy0 hy1 hy2
     go_upto_region 13 with (first|((with_reducible refine z8 29 _ rfl ?hwl11 (ZA.heap.size) (0) (leafC 1 1) _ rfl (HL1.out U (Below.refl _ _)) Tryz.underlying29 rfl ?hil11 ?_);(case hwl11=>(exact wantA rfl));(case hil11=>rw[HLL.out];kernel_rfl))|((with_reducible refine z8 29 _ rfl ?hwl12 (w.heap.size) (0) (cx) _ rfl (HWx.out U HWU.out).range Tryz.underlying29 rfl ?hil12 ?_);(case hwl12=>(exact wantA rfl));(case hil12=>rw[HLx.out];kernel_rfl))|((with_reducible refine z8 29 _ rfl ?hwl13 (Z1.heap.size) (0) (leafC 2 0) _ rfl (HL0.out U (Below.refl _ _)) Tryz.underlying29 rfl ?hil13 ?_);(case hwl13=>(exact wantA rfl));(case hil13=>rw[HLL.out];kernel_rfl))|((with_reducible refine z6H 27 _ _ _ rfl ?hwb1 29 j1 _ (leafC 1 1) (cx) (leafC 2 0) ?hxb1 ?hyb1 ?hub1 Tryz.underlying27 HI1.out HI2.out ?hsb1 ?htb1 ?hvb1 ?h0b1 ?hmb1 ?_);(case hwb1=>(exact wantA rfl));(case hxb1=>rfl);(case hyb1=>rfl);(case hub1=>rfl);(case hsb1=>rw[HLL.out];exact HI3.out);(case htb1=>rw[HLL.out,HLx.out]);(case hvb1=>rw[HLL.out,HLL.out]);(case h0b1=>rw[HLL.out];decide);(case hmb1=>rw[HLL.out];decide);have HG1:=hid (Whole.new U (leafC 1 1 ++ cx ++ leafC 2 0) 29);have HK01:Hid (Below U.heap.size U (U.alloc (.cells ⟨leafC 1 1 ++ cx ++ leafC 2 0⟩ 29))):=hid (HK00.out.trans ((zc U (.cells ⟨leafC 1 1 ++ cx ++ leafC 2 0⟩ 29)).mono HK00.out.size));have HP1:Hid (Below U.heap.size U (U.alloc (.cells ⟨leafC 1 1 ++ cx ++ leafC 2 0⟩ 29))):=hid (zc U (.cells ⟨leafC 1 1 ++ cx ++ leafC 2 0⟩ 29));generalize U.alloc (.cells ⟨leafC 1 1 ++ cx ++ leafC 2 0⟩ 29)= V1 at*)|((with_reducible refine z9A 23 _ rfl ?hwb2 9 j2 _ aN ?hxb2 Tryz.underlying23 HS1.out HS2.out ?hsb2 ?htb2 ?_);(case hwb2=>(exact wantA rfl));(case hxb2=>rfl);(case hsb2=>rfl);(case htb2=>exact HS3.out);have HG2:=hid (Whole.new V1 ([.string aN]) 9);have HK02:Hid (Below U.heap.size U (V1.alloc (.cells ⟨[.string aN]⟩ 9))):=hid (HK01.out.trans ((zc V1 (.cells ⟨[.string aN]⟩ 9)).mono HK01.out.size));have HP2:Hid (Below V1.heap.size V1 (V1.alloc (.cells ⟨[.string aN]⟩ 9))):=hid (zc V1 (.cells ⟨[.string aN]⟩ 9));generalize V1.alloc (.cells ⟨[.string aN]⟩ 9)= V2 at*)|((with_reducible refine z8 29 _ rfl ?hwl14 (w.heap.size) (0) (cx) _ rfl (HWx.out V2 (HWU.out.trans (HK02.out.mono HWU.out.size))).range Tryz.underlying29 rfl ?hil14 ?_);(case hwl14=>(exact wantA rfl));(case hil14=>rw[HLx.out];kernel_rfl))|((with_reducible show wpList _ _ _ _ _ V2);(with_reducible refine z0o 27 _ rfl ?hwb3 29 j1 _ (cx) ?hxb3 Tryz.underlying27 HI1.out HI2.out ?hsb3 ?h0b3 ?hmb3 ?_);(case hwb3=>(exact wantA rfl));(case hxb3=>rfl);(case hsb3=>rw[HLx.out];exact HI3.out);(case h0b3=>rw[HLx.out];decide);(case hmb3=>rw[HLx.out];decide);have HG3:=hid (Whole.new V2 (cx) 29);have HK03:Hid (Below U.heap.size U (V2.alloc (.cells ⟨cx⟩ 29))):=hid (HK02.out.trans ((zc V2 (.cells ⟨cx⟩ 29)).mono HK02.out.size));have HP3:Hid (Below V2.heap.size V2 (V2.alloc (.cells ⟨cx⟩ 29))):=hid (zc V2 (.cells ⟨cx⟩ 29));generalize V2.alloc (.cells ⟨cx⟩ 29)= V3 at*)|((with_reducible show wpList _ _ _ _ _ V3);(with_reducible refine z0o 27 _ rfl ?hwb4 29 j1 _ (mkC 17 ⟨#[]⟩ (.slice (some ⟨V1.heap.size,0,none⟩) 1 1) (.slice (some ⟨V2.heap.size,0,none⟩) 1 1)) ?hxb4 Tryz.underlying27 HI1.out HI2.out ?hsb4 ?h0b4 ?hmb4 ?_);(case hwb4=>(exact wantA rfl));(case hxb4=>rfl);(case hsb4=>rw[HLM.out];exact HI3.out);(case h0b4=>rw[HLM.out];decide);(case hmb4=>rw[HLM.out];decide);have HG4:=hid (Whole.new V3 (mkC 17 ⟨#[]⟩ (.slice (some ⟨V1.heap.size,0,none⟩) 1 1) (.slice (some ⟨V2.heap.size,0,none⟩) 1 1)) 29);have HK04:Hid (Below U.heap.size U (V3.alloc (.cells ⟨mkC 17 ⟨#[]⟩ (.slice (some ⟨V1.heap.size,0,none⟩) 1 1) (.slice (some ⟨V2.heap.size,0,none⟩) 1 1)⟩ 29))):=hid (HK03.out.trans ((zc V3 (.cells ⟨mkC 17 ⟨#[]⟩ (.slice (some ⟨V1.heap.size,0,none⟩) 1 1) (.slice (some ⟨V2.heap.size,0,none⟩) 1 1)⟩ 29)).mono HK03.out.size));have HP4:Hid (Below V3.heap.size V3 (V3.alloc (.cells ⟨mkC 17 ⟨#[]⟩ (.slice (some ⟨V1.heap.size,0,none⟩) 1 1) (.slice (some ⟨V2.heap.size,0,none⟩) 1 1)⟩ 29))):=hid (zc V3 (.cells ⟨mkC 17 ⟨#[]⟩ (.slice (some ⟨V1.heap.size,0,none⟩) 1 1) (.slice (some ⟨V2.heap.size,0,none⟩) 1 1)⟩ 29));generalize V3.alloc (.cells ⟨mkC 17 ⟨#[]⟩ (.slice (some ⟨V1.heap.size,0,none⟩) 1 1) (.slice (some ⟨V2.heap.size,0,none⟩) 1 1)⟩ 29)= V4 at*)|((with_reducible refine z8 29 _ rfl ?hwl15 (w.heap.size) (0) (cx) _ rfl (HWx.out V4 (HWU.out.trans (HK04.out.mono HWU.out.size))).range Tryz.underlying29 rfl ?hil15 ?_);(case hwl15=>(exact wantA rfl));(case hil15=>rw[HLx.out];kernel_rfl))|((with_reducible show wpList _ _ _ _ _ V4);(with_reducible refine z0o 27 _ rfl ?hwb5 29 j1 _ (cx) ?hxb5 Tryz.underlying27 HI1.out HI2.out ?hsb5 ?h0b5 ?hmb5 ?_);(case hwb5=>(exact wantA rfl));(case hxb5=>rfl);(case hsb5=>rw[HLx.out];exact HI3.out);(case h0b5=>rw[HLx.out];decide);(case hmb5=>rw[HLx.out];decide);have HG5:=hid (Whole.new V4 (cx) 29);have HK05:Hid (Below U.heap.size U (V4.alloc (.cells ⟨cx⟩ 29))):=hid (HK04.out.trans ((zc V4 (.cells ⟨cx⟩ 29)).mono HK04.out.size));have HP5:Hid (Below V4.heap.size V4 (V4.alloc (.cells ⟨cx⟩ 29))):=hid (zc V4 (.cells ⟨cx⟩ 29));generalize V4.alloc (.cells ⟨cx⟩ 29)= V5 at*)|((with_reducible refine z8 29 _ rfl ?hwl16 (Z1.heap.size) (0) (leafC 2 0) _ rfl (HL0.out V5 HK05.out) Tryz.underlying29 rfl ?hil16 ?_);(case hwl16=>(exact wantA rfl));(case hil16=>rw[HLL.out];kernel_rfl))|((with_reducible refine z3V 27 _ _ rfl ?hwb6 29 j1 _ (mkC 16 ⟨#[]⟩ (.slice none 0 0) (.slice (some ⟨V4.heap.size,0,none⟩) 1 1)) (leafC 2 0) ?hxb6 ?hyb6 Tryz.underlying27 HI1.out HI2.out ?hsb6 ?htb6 ?h0b6 ?hmb6 ?_);(case hwb6=>(exact wantA rfl));(case hxb6=>rfl);(case hyb6=>rfl);(case hsb6=>rw[HLM.out];exact HI3.out);(case htb6=>rw[HLM.out,HLL.out]);(case h0b6=>rw[HLM.out];decide);(case hmb6=>rw[HLM.out];decide);have HG6:=hid (Whole.new V5 (mkC 16 ⟨#[]⟩ (.slice none 0 0) (.slice (some ⟨V4.heap.size,0,none⟩) 1 1) ++ leafC 2 0) 29);have HK06:Hid (Below U.heap.size U (V5.alloc (.cells ⟨mkC 16 ⟨#[]⟩ (.slice none 0 0) (.slice (some ⟨V4.heap.size,0,none⟩) 1 1) ++ leafC 2 0⟩ 29))):=hid (HK05.out.trans ((zc V5 (.cells ⟨mkC 16 ⟨#[]⟩ (.slice none 0 0) (.slice (some ⟨V4.heap.size,0,none⟩) 1 1) ++ leafC 2 0⟩ 29)).mono HK05.out.size));have HP6:Hid (Below V5.heap.size V5 (V5.alloc (.cells ⟨mkC 16 ⟨#[]⟩ (.slice none 0 0) (.slice (some ⟨V4.heap.size,0,none⟩) 1 1) ++ leafC 2 0⟩ 29))):=hid (zc V5 (.cells ⟨mkC 16 ⟨#[]⟩ (.slice none 0 0) (.slice (some ⟨V4.heap.size,0,none⟩) 1 1) ++ leafC 2 0⟩ 29));generalize V5.alloc (.cells ⟨mkC 16 ⟨#[]⟩ (.slice none 0 0) (.slice (some ⟨V4.heap.size,0,none⟩) 1 1) ++ leafC 2 0⟩ 29)= V6 at*)|((with_reducible refine z6H 27 _ _ _ rfl ?hwb7 29 j1 _ (mkC 15 ⟨#[]⟩ (.slice none 0 0) (.slice (some ⟨U.heap.size,0,none⟩) 3 3)) (mkC 18 aN (.slice none 0 0) (.slice (some ⟨V3.heap.size,0,none⟩) 1 1)) (mkC 19 ⟨#[]⟩ (.slice none 0 0) (.slice (some ⟨V5.heap.size,0,none⟩) 2 2)) ?hxb7 ?hyb7 ?hub7 Tryz.underlying27 HI1.out HI2.out ?hsb7 ?htb7 ?hvb7 ?h0b7 ?hmb7 ?_);(case hwb7=>(exact wantA rfl));(case hxb7=>rfl);(case hyb7=>rfl);(case hub7=>rfl);(case hsb7=>rw[HLM.out];exact HI3.out);(case htb7=>rw[HLM.out,HLM.out]);(case hvb7=>rw[HLM.out,HLM.out]);(case h0b7=>rw[HLM.out];decide);(case hmb7=>rw[HLM.out];decide);have HG7:=hid (Whole.new V6 (mkC 15 ⟨#[]⟩ (.slice none 0 0) (.slice (some ⟨U.heap.size,0,none⟩) 3 3) ++ mkC 18 aN (.slice none 0 0) (.slice (some ⟨V3.heap.size,0,none⟩) 1 1) ++ mkC 19 ⟨#[]⟩ (.slice none 0 0) (.slice (some ⟨V5.heap.size,0,none⟩) 2 2)) 29);have HK07:Hid (Below U.heap.size U (V6.alloc (.cells ⟨mkC 15 ⟨#[]⟩ (.slice none 0 0) (.slice (some ⟨U.heap.size,0,none⟩) 3 3) ++ mkC 18 aN (.slice none 0 0) (.slice (some ⟨V3.heap.size,0,none⟩) 1 1) ++ mkC 19 ⟨#[]⟩ (.slice none 0 0) (.slice (some ⟨V5.heap.size,0,none⟩) 2 2)⟩ 29))):=hid (HK06.out.trans ((zc V6 (.cells ⟨mkC 15 ⟨#[]⟩ (.slice none 0 0) (.slice (some ⟨U.heap.size,0,none⟩) 3 3) ++ mkC 18 aN (.slice none 0 0) (.slice (some ⟨V3.heap.size,0,none⟩) 1 1) ++ mkC 19 ⟨#[]⟩ (.slice none 0 0) (.slice (some ⟨V5.heap.size,0,none⟩) 2 2)⟩ 29)).mono HK06.out.size));have HP7:Hid (Below V6.heap.size V6 (V6.alloc (.cells ⟨mkC 15 ⟨#[]⟩ (.slice none 0 0) (.slice (some ⟨U.heap.size,0,none⟩) 3 3) ++ mkC 18 aN (.slice none 0 0) (.slice (some ⟨V3.heap.size,0,none⟩) 1 1) ++ mkC 19 ⟨#[]⟩ (.slice none 0 0) (.slice (some ⟨V5.heap.size,0,none⟩) 2 2)⟩ 29))):=hid (zc V6 (.cells ⟨mkC 15 ⟨#[]⟩ (.slice none 0 0) (.slice (some ⟨U.heap.size,0,none⟩) 3 3) ++ mkC 18 aN (.slice none 0 0) (.slice (some ⟨V3.heap.size,0,none⟩) 1 1) ++ mkC 19 ⟨#[]⟩ (.slice none 0 0) (.slice (some ⟨V5.heap.size,0,none⟩) 2 2)⟩ 29));generalize V6.alloc (.cells ⟨mkC 15 ⟨#[]⟩ (.slice none 0 0) (.slice (some ⟨U.heap.size,0,none⟩) 3 3) ++ mkC 18 aN (.slice none 0 0) (.slice (some ⟨V3.heap.size,0,none⟩) 1 1) ++ mkC 19 ⟨#[]⟩ (.slice none 0 0) (.slice (some ⟨V5.heap.size,0,none⟩) 2 2)⟩ 29)= V7 at*))
     have HQ6:Hid (Below V6.heap.size V6 V7):=HP7
     have HQ5:Hid (Below V5.heap.size V5 V7):=hid (HP6.out.trans (HQ6.out.mono HP6.out.size))
     have HQ4:Hid (Below V4.heap.size V4 V7):=hid (HP5.out.trans (HQ5.out.mono HP5.out.size))
     have HQ3:Hid (Below V3.heap.size V3 V7):=hid (HP4.out.trans (HQ4.out.mono HP4.out.size))
     have HQ2:Hid (Below V2.heap.size V2 V7):=hid (HP3.out.trans (HQ3.out.mono HP3.out.size))
     have HQ1:Hid (Below V1.heap.size V1 V7):=hid (HP2.out.trans (HQ2.out.mono HP2.out.size))
     have hw1:=HG1.out.keep (HQ1.out.block _ HG1.out.lt)
     have hw2:=HG2.out.keep (HQ2.out.block _ HG2.out.lt)
     have hw3:=HG3.out.keep (HQ3.out.block _ HG3.out.lt)
     have hw4:=HG4.out.keep (HQ4.out.block _ HG4.out.lt)
     have hw5:=HG5.out.keep (HQ5.out.block _ HG5.out.lt)
     have hw6:=HG6.out.keep (HQ6.out.block _ HG6.out.lt)
     have hw7:=HG7.out
     have HW7:Hid (Below W.heap.size W V7):=hid (HWU.out.trans (HK07.out.mono HWU.out.size))
     have HT:=hid (zcq (HEx.out V7 HW7.out) HLx.out ⟨hw1.lt,hw2.lt,hw3.lt,hw4.lt,hw5.lt,hw6.lt,hw7.lt⟩ hw1.range hw2.range hw3.range hw4.range hw5.range hw6.range hw7.range)
     have HPT:=hid hw7.lt
     obtain⟨p,hp⟩:∃ p,V6.heap.size= p:=⟨_,rfl⟩
     rw[hp] at HT HPT
     rw[hp]
     clear hp hw1 hw2 hw3 hw4 hw5 hw6 hw7 HQ1 HQ2 HQ3 HQ4 HQ5 HQ6 HG1 HG2 HG3 HG4 HG5 HG6 HG7 HP1 HP2 HP3 HP4 HP5 HP6 HP7 HK01 HK02 HK03 HK04 HK05 HK06 HI1 HI2 HI3 HS1 HS2 HS3 HL0 HL1
     have HB17:Hid (Below Z1.heap.size Z1 V7):=hid (HZU.out.trans (HK07.out.mono HZU.out.size))
     have HR7:Hid (Below V0.heap.size V0 V7):=hid (HST1.out.trans (HB17.out.mono HST1.out.size))
     have HB7W:Hid (Below w.heap.size w V7):=hid (HBR.out.trans (HR7.out.mono HBR.out.size))
     have HVK:Hid (∀ z,Below V7.heap.size V7 z→ValAt z z.heap.size cs1 (resV r1).1∧z.rangeAt q1 0 cs1):=hid fun z hz=>⟨(HVZ1.out.under (HB17.out.trans (hz.mono HB17.out.size))).more (HB17.out.trans (hz.mono HB17.out.size)).size,zd HPC1.out (HB17.out.trans (hz.mono HB17.out.size)) HPL1.out⟩
     go_loopg [81] 3 (fun q s u=>∃ j:Nat,j+q= 3∧s= .int .i64 j∧Below V7.heap.size V7 u)
     case atStart=>exact⟨0,by omega,rfl,Below.refl _ _⟩
     case round=>
      obtain⟨j,hj,rfl,hb⟩:=hrel
      have HBJ:=hid hb
      clear hb
      cases gk with
      |zero=>
       obtain rfl:j= 3:=by omega
       have hge: ¬ (((3:Nat):Int) < 3):=by omega
       go_wp2
       go_ret
       exact⟨rfl,HB7W.out.trans (HBJ.out.mono HB7W.out.size)⟩
      |succ g=>
       have hlt:(j:Int) < 3:=by omega
       obtain⟨yy,hy⟩:∃ y,(z5s x)[j]?= some y:=⟨_,List.getElem?_eq_getElem (by show j < 3;omega)⟩
       obtain⟨cs,hcl,hcr,hce,hco⟩:=zel HT.out j yy hy
       have HCL:=hid hcl
       have HCO:=hid hco
       have HCR:Hid (wr.rangeAt p (j*10) cs):=hid (by have h:=zd hcr HBJ.out HPT.out;rwa [Nat.zero_add] at h)
       have HCE:Hid (∀ z,Below V7.heap.size V7 z→ExpAt z z.heap.size cs yy):=hid fun z hz=>(hce.under hz).more hz.size
       have hlaw:=zaS (E:=E) (V:=E.map VarT.init) HD1.out HD2.out yy (List.mem_of_getElem? hy)
       rw[HRR1.out] at hlaw
       have HLAW:=hid hlaw
       clear hcl hcr hce hco hlaw hy
       go_upto_region 15 with (first|((with_reducible refine z8 29 _ rfl ?hwl17 (p) (j*10) (cs) _ rfl HCR.out Tryz.underlying29 rfl ?hil17 ?_);(case hwl17=>(exact wantA rfl));(case hil17=>rw[HCL.out];kernel_rfl))|((with_reducible refine zR 29 _ _ rfl ?hwx18 wr ?zz18 (cs) ?hwld18 ?hz18 ?hx18 ?hy18 ?hi18 ?h118 ?_);(case hwld18=>rfl);(case hx18=>rfl);(case hy18=>rfl);(case hwx18=>(exact wantA rfl));(case hz18=>rw[HCL.out];rfl);(case hi18=>rw[HCL.out];kernel_rfl);(case h118=>exact HCO.out);intro ZY hZ;have HXY:=hid hZ;clear hZ))
       have HKY:Hid (Below V7.heap.size V7 ZY):=hid (HBJ.out.trans (HXY.out.below.mono HBJ.out.size))
       have HYR:=hid HXY.out.range
       have HYL:Hid (wr.heap.size < ZY.heap.size):=hid HXY.out.size
       obtain⟨qy,hqy⟩:∃ q,wr.heap.size= q:=⟨_,rfl⟩
       rw[hqy] at HYR HYL
       rw[hqy]
       clear hqy HXY
       have HEV2:=hid (z0Q yy E (E.map VarT.init) cs (.slice EA E.length ec) (.slice UA kn uc) ZY (HCE.out ZY HKY.out) (HEV.out ZY (HW7.out.trans (HKY.out.mono HW7.out.size))) (HLV.out ZY (HR7.out.trans (HKY.out.mono HR7.out.size))) (by have:=HE40.out;omega) (by rw[List.length_map];have:=HE40.out;omega) (HTB.out.next (HB7W.out.trans (HKY.out.mono HB7W.out.size))))
       obtain⟨r2,hr2⟩:∃ r,evalT yy E (E.map VarT.init)= r:=⟨_,rfl⟩
       rw[hr2] at HEV2
       have HRR2:=hid hr2
       clear hr2
       go_upto_region 16 with (first|((with_reducible refine z8 29 _ rfl ?hwl19 (qy) (0) (cs) _ rfl HYR.out Tryz.underlying29 rfl ?hil19 ?_);(case hwl19=>(exact wantA rfl));(case hil19=>rw[HCL.out];kernel_rfl))|(go_at_call 14;refine HEV2.out.mono ?_;rintro e y2 ⟨cs2,rfl,hk,hr,hb⟩;have HC2:=hid (ze hk.val).1;have HOO2:=hid (ze hk.val).2;have HVV2:=hid hk.val;have HBY2:=hid hb;clear hk hr hb)|((with_reducible refine zR 26 _ _ rfl ?hwx20 y2 ?zz20 (cs2) ?hwld20 ?hz20 ?hx20 ?hy20 ?hi20 ?h120 ?_);(case hwld20=>rfl);(case hx20=>rfl);(case hy20=>rfl);(case hwx20=>(exact wantA rfl));(case hz20=>rw[HC2.out];rfl);(case hi20=>rw[HC2.out];kernel_rfl);(case h120=>exact HOO2.out);intro Z2 hZ;have HXX2:=hid hZ;clear hZ))
       have HST2:Hid (Below ZY.heap.size ZY Z2):=hid (HBY2.out.trans (HXX2.out.below.mono HBY2.out.size))
       have HPL2:Hid (y2.heap.size < Z2.heap.size):=hid HXX2.out.size
       have HPC2:=hid HXX2.out.range
       have HVZ2:Hid (ValAt Z2 Z2.heap.size cs2 (resV r2).1):=hid ((HVV2.out.under HXX2.out.below).more HXX2.out.below.size)
       obtain⟨q2,hq2⟩:∃ q,y2.heap.size= q:=⟨_,rfl⟩
       rw[hq2] at HPL2 HPC2
       rw[hq2]
       clear hq2 HXX2 HEV2
       have HK2:Hid (Below V7.heap.size V7 Z2):=hid (HKY.out.trans (HST2.out.mono HKY.out.size))
       rw[HRR2.out] at HLAW
       rcases HLAW.out with hl|⟨hl1,hl2⟩
       ·subst hl
        rw[HN1.out]
        have HSM:Hid (Calls Tryz.prog 16 #[.agg ⟨cs1⟩,.agg ⟨cs2⟩] Z2 fun e w'=>e= .returned (.bool true)∧Below Z2.heap.size Z2 w'):=hid ((zed (resV r2).1 (resV r2).1 cs1 cs2 Z2 (HVK.out Z2 HK2.out).1 HVZ2.out).mono fun e w' ⟨h1,h2⟩=>⟨by rw[h1,zaB];rfl,h2⟩)
        have f2:(n1 !=n1)= false:=by simp
        rcases Decidable.em (n1= 3) with a1|a1
        ·have f1:(n1 ==3)= true:=by simpa using a1
         have f3:(n1 ==0)= false:=by rw[a1];rfl
         clear a1
         go_wp2_with (first|((with_reducible refine z8 26 _ rfl ?hwl21 (q1) (0) (cs1) _ rfl (HVK.out Z2 HK2.out).2 Tryz.underlying26 rfl ?hil21 ?_);(case hwl21=>(exact wantA rfl));(case hil21=>rw[HC1.out];kernel_rfl))|((with_reducible refine z8 26 _ rfl ?hwl22 (q2) (0) (cs2) _ rfl HPC2.out Tryz.underlying26 rfl ?hil22 ?_);(case hwl22=>(exact wantA rfl));(case hil22=>rw[HC2.out];kernel_rfl))|(go_at_call 16;refine HSM.out.mono ?_;rintro e w9 ⟨rfl,hb⟩;have HB9:=hid hb;clear hb))
         go_roundg g
         case measure=>omega
         case rel=>exact⟨j+1,by omega,by go_num,HK2.out.trans (HB9.out.mono HK2.out.size)⟩
        ·have f1:(n1 ==3)= false:=by simpa using a1
         clear a1
         go_wp2_with (first|((with_reducible refine z8 26 _ rfl ?hwl21 (q1) (0) (cs1) _ rfl (HVK.out Z2 HK2.out).2 Tryz.underlying26 rfl ?hil21 ?_);(case hwl21=>(exact wantA rfl));(case hil21=>rw[HC1.out];kernel_rfl))|((with_reducible refine z8 26 _ rfl ?hwl22 (q2) (0) (cs2) _ rfl HPC2.out Tryz.underlying26 rfl ?hil22 ?_);(case hwl22=>(exact wantA rfl));(case hil22=>rw[HC2.out];kernel_rfl))|(go_at_call 16;refine HSM.out.mono ?_;rintro e w9 ⟨rfl,hb⟩;have HB9:=hid hb;clear hb))
         go_roundg g
         case measure=>omega
         case rel=>exact⟨j+1,by omega,by go_num,HK2.out.trans (HB9.out.mono HK2.out.size)⟩
       ·rw[hl1]
        rw[HN1.out] at hl2
        have f3:(n1 ==0)= true:=by simpa using hl2
        clear hl1 hl2
        go_wp2
        go_roundg g
        case measure=>omega
        case rel=>exact⟨j+1,by omega,by go_num,HK2.out⟩
end Go.Proofs.YtmpbepjjbaeebaaGreatDoor
end
