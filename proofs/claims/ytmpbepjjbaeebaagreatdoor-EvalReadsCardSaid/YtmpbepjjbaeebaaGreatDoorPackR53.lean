/- Parts of a proof: Law10G, Two10, EvReads. -/
import Derived.Deep.DeepCutAuto
import Derived.Test.YtmpbepjjbaeebaaGreatDoorPackR5
import Derived.Test.YtmpbepjjbaeebaaGreatDoorPackR8
import Derived.Test.YtmpbepjjbaeebaaGreatDoorPackR9
import Derived.Test.YtmpbepjjbaeebaaGreatDoorPackR28
import Derived.Test.YtmpbepjjbaeebaaGreatDoorPackR49
import Derived.Test.YtmpbepjjbaeebaaGreatDoorPackR50
import Derived.Test.YtmpbepjjbaeebaaGreatDoorPackR51
import Derived.Test.YtmpbepjjbaeebaaGreatDoorPackR52
set_option maxHeartbeats 8000000
set_option maxRecDepth 100000
set_option linter.unusedVariables false
set_option linter.unusedSimpArgs false
section
namespace Go.Proofs.YtmpbepjjbaeebaaGreatDoor
open Go Go.RowKit
open Go.Lib (hid)
structure InitInv (TV:TypeId) (W u:World) (v:Value) (E:List VarT) (j:Nat) (KL:List zM):Prop where
 own:OwnSl TV 6 enc6 u W.heap.size v KL
 len:KL.length= j
 bel:Below W.heap.size W u
 els:∀ (i:Nat) k x,KL[i]?= some k→E[i]?= some x→ValAt W W.heap.size k.1 x.init
theorem InitInv.start (TV:TypeId) (W:World) (E:List VarT):InitInv TV W W (.slice none 0 0) E 0 []:=⟨OwnSl.nil _ _,rfl,Below.refl _ _,fun i k x hk _=>by cases hk⟩
theorem InitInv.next {TV:TypeId} {W u u7 u8:World} {v v':Value} {E:List VarT} {j:Nat} {KL:List zM} (h:InitInv TV W u v E j KL) (hb:Below u.heap.size u u7) {k:zM} {x:VarT} (hx:E[j]?= some x)
  (hk:ValAt W W.heap.size k.1 x.init) (hown:OwnSl TV 6 enc6 u8 W.heap.size v' (KL ++ [k])) (hg:u7.grownBy u8 v.ownBlock):InitInv TV W u8 v' E (j+1) (KL ++ [k]):=by
 refine⟨hown,by rw[List.length_append,h.len];rfl,?_,fun i k' y hk' hy=> ?_⟩
 ·exact(h.bel.trans (hb.mono h.bel.size)).grown hg (Nat.le_trans h.bel.size hb.size) fun b hb=>h.own.block hb
 ·rcases Nat.lt_or_ge i KL.length with hi|hi
  ·rw[List.getElem?_append_left hi] at hk'
   exact h.els i k' y hk' hy
  ·rw[List.getElem?_append_right hi] at hk'
   have hi2:i= KL.length:=by
    have:=(List.getElem?_eq_some_iff.1 hk').1
    simp only[List.length_singleton] at this
    omega
   subst hi2
   rw[Nat.sub_self] at hk'
   injection hk' with hk'
   subst hk'
   rw[h.len,hx] at hy
   injection hy with hy
   subst hy
   exact hk
theorem InitInv.row {TV:TypeId} {W u z:World} {v:Value} {E:List VarT} {KL:List zM} (h:InitInv TV W u v E E.length KL) (hl:E.length≤9223372036854775807) (hz:Below u.heap.size u z):SlAt z z.heap.size 6 (ValAt z z.heap.size) v (E.map VarT.init):=by
 have hWz:=h.bel.trans (hz.mono h.bel.size)
 refine⟨by rw[List.length_map];exact hl,?_⟩
 rw[List.length_map]
 rcases h.own.2 with ⟨rfl,h0⟩|⟨g,cap,cur,hv,hg,_,_⟩
 ·rw[h.len] at h0
  exact⟨none,0,by rw[← h0],fun h1=>by omega⟩
 ·refine⟨some ⟨g,0,none⟩,cap,by rw[hv,h.len],fun _=> ?_⟩
  have hown:v.ownBlock= some g:=by rw[hv];rfl
  have hlt:=z1J h.own hown
  refine⟨g,0,rfl,Nat.lt_of_lt_of_le hlt hz.size,fun i x hx=> ?_⟩
  rw[List.getElem?_map] at hx
  cases hy:E[i]? with
  |none=>rw[hy] at hx;cases hx
  |some y=>
   rw[hy] at hx
   injection hx with hx
   subst hx
   have hi:=(List.getElem?_eq_some_iff.1 hy).1
   have hki:KL[i]?= some (KL[i]'(by rw[h.len];exact hi)):=List.getElem?_eq_getElem _
   refine⟨_,(KL[i]'(by rw[h.len];exact hi)).2,fun j c hc=> ?_,((h.els i _ y hki hy).under hWz).more hWz.size⟩
   refine(hz.cell (p:=⟨g,_,none⟩) hlt).trans ?_
   have:=World.ownsRow.cells h.own hown (i*6+j) c (z1d z0h KL i _ hki j c hc)
   rw[Addr.add_mid] at this
   rw[show 0+i*6+j= 0+ (i*6+j) by omega];exact this
theorem z5M {w:World} {B:Nat} {cs:List Value} {x:VarT} (h:VarAt w B cs x):∃ c0 c1 c2 c3 c4 ci,cs= c0::c1::c2::c3::c4::ci∧ci.length= 6∧ValAt w B ci x.init:=by
 obtain⟨⟨ct,ci,rfl,h1,h2,_,h4⟩,_,_⟩:=h
 obtain⟨a,b,c,rfl⟩:=list3 h1
 exact⟨_,_,_,_,_,ci,rfl,h2,h4⟩
end Go.Proofs.YtmpbepjjbaeebaaGreatDoor
end
section
namespace Go.Proofs.YtmpbepjjbaeebaaGreatDoor
open Go Go.RowKit
open Go.Lib (hid)
theorem InitInv.carry {TV:TypeId} {W u u7 u8:World} {v:Value} {E:List VarT} {j:Nat} {KL:List zM} {o:Option Nat} (h:InitInv TV W u v E j KL) (hb:Below u.heap.size u u7) (hg:u7.grownBy u8 o) (hne:v.ownBlock= none∨v.ownBlock≠o) (ho:∀ b,o= some b→W.heap.size≤b):InitInv TV W u8 v E j KL:=
 ⟨World.ownsRow.kept (h.own.below hb) hg hne,h.len,(h.bel.trans (hb.mono h.bel.size)).grown hg (Nat.le_trans h.bel.size hb.size) fun b hb=>ho b hb,h.els⟩
def Apart (x y:Value):Prop:=∀ b,x.ownBlock= some b→y.ownBlock≠some b
theorem Apart.ne {x y:Value} (h:Apart x y):y.ownBlock= none∨y.ownBlock≠x.ownBlock:=by
 cases hy:y.ownBlock with
 |none=>exact .inl rfl
 |some b=>exact .inr fun e=>h b e.symm hy
theorem Apart.symm {x y:Value} (h:Apart x y):Apart y x:=fun b h1 h2=>h b h2 h1
theorem Apart.next {x x' y:Value} {n:Nat} (h:Apart x y) (hblk:x'.ownBlock= x.ownBlock∨x'.ownBlock= some n) (hy:∀ b,y.ownBlock= some b→b < n):Apart x' y:=fun b h1 h2=>by
 rcases hblk with e|e
 ·exact h b (e▸h1) h2
 ·rw[e] at h1
  injection h1 with h1
  have:=hy b h2
  omega
theorem InitInv.lt {TV:TypeId} {W u:World} {v:Value} {E:List VarT} {j:Nat} {KL:List zM} (h:InitInv TV W u v E j KL):∀ b,v.ownBlock= some b→b < u.heap.size:=fun b hb=>z1J h.own hb
theorem InitInv.ge {TV:TypeId} {W u:World} {v:Value} {E:List VarT} {j:Nat} {KL:List zM} (h:InitInv TV W u v E j KL):∀ b,v.ownBlock= some b→W.heap.size≤b:=fun b hb=>h.own.block hb
def setE (E:List VarT) (r:Nat) (v:VT):List VarT:=E.modify r fun x=>⟨x.name,x.label,x.type,v⟩
theorem zbf (E:List VarT) (r:Nat) (v:VT):(setE E r v).length= E.length:=by simp[setE]
theorem z8o {E:List VarT} {r j:Nat} {v:VT} {x:VarT} (h:E[j]?= some x):∃ y,(setE E r v)[j]?= some y∧y.init= if j= r then v else x.init:=by
 unfold setE
 rw[List.getElem?_modify,h]
 by_cases e:r= j
 ·subst e;exact⟨⟨x.name,x.label,x.type,v⟩,by simp,by simp⟩
 ·exact⟨x,by simp[e],by rw[if_neg fun h=>e h.symm]⟩
theorem z5p {E:List VarT} {r j:Nat} {v:VT} (h:j≠r):(E.map VarT.init)[j]?=((setE E r v).map VarT.init)[j]?:=by
 unfold setE
 have e: ¬ r= j:=fun e=>h e.symm
 rw[List.getElem?_map,List.getElem?_map,List.getElem?_modify]
 simp only[if_neg e]
 cases E[j]?<;>rfl
theorem z8w {E:List VarT} {r:Nat} {v:VT} {x:VarT} (h:E[r]?= some x) (hx:ze x.init= true) (hv:ze v= true):((setE E r v).map VarT.init).all ze=(E.map VarT.init).all ze:=by
 rw[Bool.eq_iff_iff,List.all_eq_true,List.all_eq_true]
 have key:∀ (A B:List VT),(∀ j,j≠r→A[j]?= B[j]?)→(∀ u,B[r]?= some u→ze u= true)→(∀ u∈A,ze u= true)→∀ u∈B,ze u= true:=by
  intro A B h1 h2 h3 u hu
  obtain⟨j,hj⟩:=List.mem_iff_getElem?.1 hu
  by_cases e:j= r
  ·subst e;exact h2 u hj
  ·exact h3 u (List.mem_of_getElem? ((h1 j e).trans hj))
 constructor
 ·refine key _ _ (fun j hj=>(z5p hj).symm) fun u hu=> ?_
  rw[List.getElem?_map,h] at hu
  injection hu with hu
  subst hu;exact hx
 ·refine key _ _ (fun j hj=>z5p hj) fun u hu=> ?_
  obtain⟨y,hy,hi⟩:=z8o (r:=r) (v:=v) h
  rw[List.getElem?_map,hy] at hu
  injection hu with hu
  rw[← hu,hi,if_pos rfl];exact hv
theorem z9o {E:List VarT} {x:ET} {r:Nat} {v:VT} {y:VarT} (hr:E[r]?= some y) (h1:ze y.init= true) (h2:ze v= true) (hno:z0q y.name x= false):evalT x E ((setE E r v).map VarT.init)= evalT x E (E.map VarT.init):=by
 unfold evalT
 rw[z8w hr h1 h2]
 split
 ·exact(z7I (i:=r) (nm:=y.name) (fun j hj=>z5p hj) (fun s hs=>by
   obtain⟨z,hz,hn⟩:=zbC hs
   rw[hr] at hz
   injection hz with hz
   subst hz
   have:=eq_of_beq hn
   exact beq_iff_eq.2 this.symm) x hno).symm
 ·rfl
theorem z9L (a:Int) {n:Nat} (h0:n≠0) (hn:n≤100):∃ r:Nat,wrap64 ((IntKind.u64.wrap a).tmod n)= r∧r < n:=by
 have h1:0≤IntKind.u64.wrap a:=wrap_u64_nonneg a
 have h2:=Int.tmod_eq_emod_of_nonneg (b:=(n:Int)) h1
 have h3:=Int.emod_nonneg (IntKind.u64.wrap a) (b:=(n:Int)) (by omega)
 have h4:=Int.emod_lt_of_pos (IntKind.u64.wrap a) (b:=(n:Int)) (by omega)
 refine⟨((IntKind.u64.wrap a).tmod n).toNat,?_,by omega⟩
 rw[IntWalk.wrap64_in _ (by omega)]
 omega
end Go.Proofs.YtmpbepjjbaeebaaGreatDoor
end
section
namespace Go.Proofs.YtmpbepjjbaeebaaGreatDoor
open Go Go.RowKit
open Go.Lib (hid)
theorem cell_of_heap {w w':World} {p i:Nat} (h:w'.heap[p]?= w.heap[p]?):w'.cell? ⟨p,i,none⟩= w.cell? ⟨p,i,none⟩:=by
 unfold World.cell?
 rw[h]
section
variable {P:Program} {ops:Array Oper} {Q:Exit→Act→World→Prop} {S:World→Prop} {i:Nat} {r:List (Nat × Bool)} {a:Act} {w:World}
theorem z12 (d:Option Tmp) (o:Oper) (hi:ops[i]?= some o) (hd:o.dst= d) (hw:Region.wanted o (yielded ops a.tmps)= false) (hS:S w) (h:wpOrd P ops S Q r (a.put d undef) w):wpOrd P ops S Q ((i,true)::r) a w:=by subst hd;exact zc3 o hi hw hS h
theorem z8v (d:Option Tmp) (o:Oper) (hi:ops[i]?= some o) (hd:o.dst= d) (hw:Region.wanted o (yielded ops a.tmps)= false) (hS:S w) (h:wpOrd P ops S Q r (a.put d undef) w):wpOrd P ops S Q ((i,false)::r) a w:=by subst hd;exact zb0 o hi hw hS h
end
theorem zbj {w:World} {B:Nat} {cs:List Value} {x:VarT} (h:VarAt w B cs x):∃ (nm:ByteArray) (ks:List Value),cs= .string nm::ks∧nm= x.name:=by
 obtain⟨⟨ct,ci,rfl,_⟩,_,_⟩:=h
 exact⟨_,_,rfl,rfl⟩
theorem zas (a:VT):ordV a a= 0:=by
 have:=ordV_good.anti a a
 omega
theorem z3K (t:VT) (cs:List Value) (w:World) (hv:ValAt w w.heap.size cs t):Calls Tryz.prog 21 #[.agg ⟨cs⟩] w fun e w'=>e= .returned (.bool (ze t))∧Below w.heap.size w w':=z8O t cs w hv
theorem evalReads_walk (w:World) (htb:TabP w) (cx:List Value) (x:ET) (hxx:ExpAt w w.heap.size cx x) (v:Value) (E:List VarT) (hE:SlAt w w.heap.size 11 (VarAt w w.heap.size) v E) (hEl:E.length≤maxLen) (a:Int) (_wa:(Lit.int .i64 a).wf= true) (cv:List Value) (vv:VT) (hvv:ValAt w w.heap.size cv vv):
  Calls Tryz.prog 5 #[.agg ⟨cx⟩,v,.int .i64 a,.agg ⟨cv⟩] w fun e w'=>e= .returned (.bool true)∧Below w.heap.size w w':=by
 have HTB:=hid htb
 have HLx:=hid (eslen hxx)
 have HOx:=hid hxx.one
 have HXx:=hid hxx
 have HLv:=hid (zi hvv).1
 have HOv:=hid (zi hvv).2
 have HXv:=hid hvv
 obtain⟨hel,EA,ec,rfl,hEA⟩:=id hE
 have HE:=hid hE
 have HEA:=hid hEA
 have HEM:=hid hEl
 clear hE hEA hEl hel htb hxx hvv _wa
 go_enter Tryz.func5,Tryz.ntmps5
 go_upto_region 1 with (fail)
 have hrx:=(Whole.new (w) cx 29).keep ((zc ((w).alloc (.cells ⟨cx⟩ 29)) (.cells ⟨cv⟩ 26)).block _ (by simp))
 have hrv:=Whole.new ((w).alloc (.cells ⟨cx⟩ 29)) cv 26
 rw[show((w).alloc (.cells ⟨cx⟩ 29)).heap.size= w.heap.size+1 by simp] at hrv
 have HB1:Hid (Below w.heap.size w (((w).alloc (.cells ⟨cx⟩ 29)).alloc (.cells ⟨cv⟩ 26))):=hid (((Below.refl w.heap.size w).alloc (by simp) (.cells ⟨cx⟩ 29)).alloc (by simp) (.cells ⟨cv⟩ 26))
 generalize ((w).alloc (.cells ⟨cx⟩ 29)).alloc (.cells ⟨cv⟩ 26)= W at*
 have HRx:=hid hrx
 have HRv:=hid hrv
 clear hrx hrv
 have HK1:=hid (Below.refl W.heap.size W)
 have HEx:=hid (fun z (hz:Below W.heap.size W z)=>(((HXx.out.under (HB1.out.trans (hz.mono HB1.out.size))).more (HB1.out.trans (hz.mono HB1.out.size)).size:ExpAt z z.heap.size cx x)))
 have HWx:=hid (fun z (hz:Below W.heap.size W z)=>HRx.out.keep (hz.block _ HRx.out.lt))
 have HEv:=hid (fun z (hz:Below W.heap.size W z)=>(((HXv.out.under (HB1.out.trans (hz.mono HB1.out.size))).more (HB1.out.trans (hz.mono HB1.out.size)).size:ValAt z z.heap.size cv vv)))
 have HWv:=hid (fun z (hz:Below W.heap.size W z)=>HRv.out.keep (hz.block _ HRv.out.lt))
 have HEV:=hid (fun z (hz:Below W.heap.size W z)=>((HE.out.below (HB1.out.trans (hz.mono HB1.out.size)) fun _ _ _ h=>(h.under (HB1.out.trans (hz.mono HB1.out.size))).more (HB1.out.trans (hz.mono HB1.out.size)).size).more (HB1.out.trans (hz.mono HB1.out.size)).size:SlAt z z.heap.size 11 (VarAt z z.heap.size) (.slice EA E.length ec) E))
 have HEW:=hid (HB1.out)
 go_wp2_with (go_at_call 10;fail)
 refine(z22 W (HTB.out.next HB1.out)).mono ?_
 rintro e w2 ⟨rfl,hb⟩
 have HK2:=hid hb
 have HB2:=hid (HB1.out.trans (hb.mono HB1.out.size))
 clear hb
 have HS2:=hid (zdh x cx w2 (HEx.out w2 HK2.out))
 go_wp2_with (first|((with_reducible refine z8 29 _ rfl ?hwl1 (w.heap.size) (0) (cx) _ rfl (HWx.out w2 HK2.out).range Tryz.underlying29 rfl ?hil1 ?_);(case hwl1=>(exact wantA rfl));(case hil1=>rw[HLx.out];kernel_rfl))|(go_at_call 11;fail))
 refine HS2.out.mono ?_
 rintro e w3 ⟨q,rfl,hb⟩
 have HK3:=hid (HK2.out.trans (hb.mono HK2.out.size))
 have HB3:=hid (HB2.out.trans (hb.mono HB2.out.size))
 clear hb HS2
 cases q with
 |false=>
  go_wp2_with (go_at_call 10;fail)
  refine(z22 w3 (HTB.out.next HB3.out)).mono ?_
  rintro e w9 ⟨rfl,hb⟩
  have HB9:=hid (HB3.out.trans (hb.mono HB3.out.size))
  clear hb
  go_wp2
  go_ret
  exact⟨rfl,HB9.out⟩
 |true=>
  have HS3:=hid (zd0 E (.slice EA E.length ec) w3 (HEV.out w3 HK3.out) HEM.out)
  go_wp2_with (first|(go_at_call 12;fail))
  refine HS3.out.mono ?_
  rintro e w4 ⟨q,rfl,hq,hb⟩
  have HK4:=hid (HK3.out.trans (hb.mono HK3.out.size))
  have HB4:=hid (HB3.out.trans (hb.mono HB3.out.size))
  clear hb HS3
  cases q with
  |false=>
   clear hq
   go_wp2_with (go_at_call 10;fail)
   refine(z22 w4 (HTB.out.next HB4.out)).mono ?_
   rintro e w9 ⟨rfl,hb⟩
   have HB9:=hid (HB4.out.trans (hb.mono HB4.out.size))
   clear hb
   go_wp2
   go_ret
   exact⟨rfl,HB9.out⟩
  |true=>
   have HE40:=hid (hq rfl)
   clear hq
   have HS4:=hid (z6L vv cv w4 (HEv.out w4 HK4.out))
   go_wp2_with (first|((with_reducible refine z8 26 _ rfl ?hwl2 (w.heap.size+1) (0) (cv) _ rfl (HWv.out w4 HK4.out).range Tryz.underlying26 rfl ?hil2 ?_);(case hwl2=>(exact wantA rfl));(case hil2=>rw[HLv.out];kernel_rfl))|(go_at_call 20;fail))
   refine HS4.out.mono ?_
   rintro e w5 ⟨q,rfl,hb⟩
   have HK5:=hid (HK4.out.trans (hb.mono HK4.out.size))
   have HB5:=hid (HB4.out.trans (hb.mono HB4.out.size))
   clear hb HS4
   cases q with
   |false=>
    go_wp2_with (go_at_call 10;fail)
    refine(z22 w5 (HTB.out.next HB5.out)).mono ?_
    rintro e w9 ⟨rfl,hb⟩
    have HB9:=hid (HB5.out.trans (hb.mono HB5.out.size))
    clear hb
    go_wp2
    go_ret
    exact⟨rfl,HB9.out⟩
   |true=>
    obtain⟨rv,hrv⟩:∃ b,ze vv= b:=⟨_,rfl⟩
    have HS5:=hid (z3K vv cv w5 (HEv.out w5 HK5.out))
    rw[hrv] at HS5
    have HRV:=hid hrv
    clear hrv
    go_wp2_with (first|((with_reducible refine z8 26 _ rfl ?hwl3 (w.heap.size+1) (0) (cv) _ rfl (HWv.out w5 HK5.out).range Tryz.underlying26 rfl ?hil3 ?_);(case hwl3=>(exact wantA rfl));(case hil3=>rw[HLv.out];kernel_rfl))|(go_at_call 21;fail))
    refine HS5.out.mono ?_
    rintro e w6 ⟨rfl,hb⟩
    have HK6:=hid (HK5.out.trans (hb.mono HK5.out.size))
    have HB6:=hid (HB5.out.trans (hb.mono HB5.out.size))
    clear hb HS5
    cases rv with
    |false=>
     go_wp2_with (go_at_call 10;fail)
     refine(z22 w6 (HTB.out.next HB6.out)).mono ?_
     rintro e w9 ⟨rfl,hb⟩
     have HB9:=hid (HB6.out.trans (hb.mono HB6.out.size))
     clear hb
     go_wp2
     go_ret
     exact⟨rfl,HB9.out⟩
    |true=>
     by_cases hn0:E.length= 0
     ·have t0:((E.length:Int) ==0)= true:=by rw[hn0];rfl
      clear hn0
      go_wp2_with (go_at_call 10;fail)
      refine(z22 w6 (HTB.out.next HB6.out)).mono ?_
      rintro e w9 ⟨rfl,hb⟩
      have HB9:=hid (HB6.out.trans (hb.mono HB6.out.size))
      clear hb
      go_wp2
      go_ret
      exact⟨rfl,HB9.out⟩
     have t0:((E.length:Int) ==0)= false:=by rw[beq_eq_false_iff_ne];omega
     have hn1:(E.length:Int)≠0:=by omega
     have hn2:(E.length:Int)≤40:=by have:=HE40.out;omega
     obtain⟨r,hr,hrn⟩:=z9L a hn0 (by have:=HE40.out;omega)
     go_upto_region 4 with (fail)
     rw[hr]
     clear t0 hn0 hn1 hr
     have hr2:(r:Int) <(E.length:Int):=by omega
     have HRN:=hid hrn
     clear hrn
     obtain⟨F,hF⟩:∃ F,setE E r vv= F:=⟨_,rfl⟩
     have HF:=hid hF
     clear hF
     go_wp2
     obtain⟨G,hG⟩:∃ G,w6= G:=⟨_,rfl⟩
     rw[hG] at HK6 HB6
     rw[hG]
     clear hG
     have HKG:=HK6
     have HBG:=HB6
     obtain⟨j0,hi,hz0,hz1,hz2⟩:=z0i z11
     have HJ0:=hid hi
     have HY0:=hid hz0
     have HY1:=hid hz1
     have HY2:=hid hz2
     clear hi hz0 hz1 hz2
     go_loopg [9,10,54] E.length (fun q x1 y1 i u=>∃ (j:Nat) (KA KB:List zM),j+q= E.length∧i= .int .i64 j∧InitInv 26 G u x1 E j KA∧InitInv 26 G u y1 F j KB∧Apart x1 y1)
     case atStart=>exact⟨0,[],[],by omega,rfl,InitInv.start _ _ _,InitInv.start _ _ _,fun b h=>by cases h⟩
     case round=>
      obtain⟨j,KA,KB,hj,rfl,hIA,hIB,hap⟩:=hrel
      have HIA:=hid hIA
      have HIB:=hid hIB
      have HAP:=hid hap
      obtain⟨UA,uc,rfl⟩:=z3r hIA.own
      obtain⟨UB,ub,rfl⟩:=z3r hIB.own
      have hkl:=hIA.len
      have HKLA:=hid hkl
      have hkb:=hIB.len
      have HKLB:=hid hkb
      clear hIA hIB hkl hkb hap
      cases gk with
      |succ g=>
       have hlt:(j:Int) <(E.length:Int):=by omega
       obtain⟨y,hy⟩:∃ y,E[j]?= some y:=⟨_,List.getElem?_eq_getElem (by omega)⟩
       obtain⟨b,ob,rfl,hbb,hc⟩:=HEA.out (by omega)
       obtain⟨ks,hkl,hkr,hkv⟩:=hc j y hy
       obtain⟨c0,c1,c2,c3,c4,ci,rfl,hci,hvi⟩:=z5M hkv
       have hG:=HBG.out.trans (HIA.out.bel.mono HBG.out.size)
       have HR:=hid (zd hkr hG hbb)
       have HCI:=hid hci
       have HVI:Hid (ValAt G G.heap.size ci y.init):=hid ((hvi.under HBG.out).more HBG.out.size)
       have HOV:=hid hkv.one
       have HOI:=hid (zi hvi).2
       have HYY:=hid hy
       have HCL:Hid ((c0::c1::c2::c3::c4::ci).length= 11):=hid (by simp[hci])
       obtain⟨y',hy',hyi⟩:=z8o (r:=r) (v:=vv) hy
       rw[HF.out] at hy'
       have HY':=hid hy'
       have HYI:=hid hyi
       clear hc hkl hkr hkv hci hvi hG hy hy' hyi
       go_upto_region 8 with (first|((with_reducible refine z8 47 _ rfl ?hwl4 (b) (ob+j*11) (c0::c1::c2::c3::c4::ci) _ rfl HR.out Tryz.underlying47 rfl ?hil4 ?_);(case hwl4=>(exact wantA rfl));(case hil4=>rw[HCL.out];kernel_rfl))|((with_reducible refine z09 47 _ _ rfl ?hwx5 wr ?zz5 (c0::c1::c2::c3::c4::ci) ?hwld5 ?hz5 ?hx5 ?hy5 ?hi5 ?h15 ?_);(case hwld5=>rfl);(case hx5=>rfl);(case hy5=>rfl);(case hwx5=>(exact wantA rfl));(case hz5=>rw[HCL.out];rfl);(case hi5=>rw[HCL.out];kernel_rfl);(case h15=>exact HOV.out);intro Z hZ;have HXZ:=hid hZ;clear hZ))
       have HRI:Hid (Z.rangeAt wr.heap.size 5 ci):=hid (fun i u hu=>by have:=HXZ.out.range (5+i) u (by rw[show 5+i= i+1+1+1+1+1 by omega];exact hu);rw[show 0+ (5+i)= 5+i by omega] at this;exact this)
       have HC7:Hid (∀ i u,(enc6 ⟨ci,HCI.out⟩)[i]?= some u→(Z.alloc (.cells ⟨ci⟩ 26)).cell? ⟨Z.heap.size,i,none⟩= some u):=hid (z0s Z ci 26)
       have HB7:=hid (zc Z (.cells ⟨ci⟩ 26))
       have HU7:Hid (Below wr.heap.size wr (Z.alloc (.cells ⟨ci⟩ 26))):=hid (HXZ.out.below.trans (HB7.out.mono HXZ.out.below.size))
       have HMAc:Hid (G.heap.size≤(Z.alloc (.cells ⟨ci⟩ 26)).heap.size):=hid (Nat.le_trans HIA.out.bel.size HU7.out.size)
       have HOW:Hid (OwnSl 26 6 enc6 (Z.alloc (.cells ⟨ci⟩ 26)) G.heap.size (.slice UA KA.length uc) KA):=hid (HIA.out.own.below HU7.out)
       have HMAa:Hid (KA.length+1≤maxLen):=hid (by have:=HE40.out;have h2:=HKLA.out;unfold maxLen;omega)
       have HMAb:Hid ((KA.length+1) *88≤140737488355328):=hid (by have:=HE40.out;have h2:=HKLA.out;omega)
       have HXL:Hid (wr.heap.size < Z.heap.size):=hid HXZ.out.size
       go_upto_region 9 with (first|((with_reducible refine z8 26 _ rfl ?hwl6 (wr.heap.size) (5) (ci) _ rfl HRI.out Tryz.underlying26 rfl ?hil6 ?_);(case hwl6=>(exact wantA rfl));(case hil6=>rw[HCI.out];kernel_rfl))|((with_reducible refine z0F 24 _ rfl ?hw3a 26 j0 _ ci ?hx3a Tryz.underlying24 HJ0.out HY0.out ?hs3a ?h03a ?hm3a ?_);(case hw3a=>(exact wantA rfl));(case hx3a=>rfl);(case hs3a=>rw[HCI.out];exact HY1.out);(case h03a=>rw[HCI.out];decide);(case hm3a=>rw[HCI.out];decide))|(at_builtin;(refine z28 rfl _ _ 24 rfl G.heap.size 26 j0 _ 6 88 enc6 Tryz.underlying24 HJ0.out HY0.out HY1.out HY2.out rfl (by decide) z0h (.slice UA KA.length uc) KA rfl HOW.out Z.heap.size 1 ⟨ci,HCI.out⟩ HOI.out rfl HC7.out HMAa.out HMAb.out HMAc.out ?_;intro xa u8 hown hg hblk;have HNA:=hid (InitInv.next (k:=⟨ci,HCI.out⟩) HIA.out HU7.out HYY.out HVI.out hown hg);have HGR:=hid hg;have HBL:=hid hblk;clear hown hg hblk)))
       have HNB:Hid (InitInv 26 G u8 (.slice UB KB.length ub) F j KB):=hid (HIB.out.carry HU7.out HGR.out HAP.out.ne (HIA.out.ge))
       have hap:Apart xa (.slice UB KB.length ub):=HAP.out.next HBL.out (fun b hb=>Nat.lt_of_lt_of_le (HIB.out.lt b hb) HU7.out.size)
       have HAP2:=hid hap
       have hbox:u8.heap[wr.heap.size]?= Z.heap[wr.heap.size]?:=by
        rw[HGR.out.block wr.heap.size (Nat.lt_of_lt_of_le HXL.out HB7.out.size) (fun e=>Nat.lt_irrefl _ (HIA.out.lt _ e.symm)),HB7.out.block _ HXL.out]
       have HRJ:Hid (u8.rangeAt wr.heap.size 5 ci):=hid (fun i u hu=>(cell_of_heap hbox).trans (HRI.out i u hu))
       have HKW8:Hid (Below W.heap.size W u8):=hid (HKG.out.trans (HNA.out.bel.mono HKG.out.size))
       clear hap hbox
       have HMBa:Hid (KB.length+1≤maxLen):=hid (by have:=HE40.out;have h2:=HKLB.out;unfold maxLen;omega)
       have HMBb:Hid ((KB.length+1) *88≤140737488355328):=hid (by have:=HE40.out;have h2:=HKLB.out;omega)
       by_cases hjr:j= r
       ·have hjb:((j:Int) ==(r:Int))= true:=by rw[beq_iff_eq];omega
        have HVJ:Hid (y'.init= vv):=hid (by rw[HYI.out,if_pos hjr])
        have HC8:Hid (∀ i u,(enc6 ⟨cv,HLv.out⟩)[i]?= some u→(u8.alloc (.cells ⟨cv⟩ 26)).cell? ⟨u8.heap.size,i,none⟩= some u):=hid (z0s u8 cv 26)
        have HB8:=hid (zc u8 (.cells ⟨cv⟩ 26))
        have HMBc:Hid (G.heap.size≤(u8.alloc (.cells ⟨cv⟩ 26)).heap.size):=hid (Nat.le_trans HNB.out.bel.size HB8.out.size)
        have HOB:Hid (OwnSl 26 6 enc6 (u8.alloc (.cells ⟨cv⟩ 26)) G.heap.size (.slice UB KB.length ub) KB):=hid (HNB.out.own.below HB8.out)
        have HVK:Hid (ValAt G G.heap.size cv y'.init):=hid (by rw[HVJ.out];exact HEv.out G HKG.out)
        have HYQ:=HY'
        clear hjr
        go_wp2_with (first|((with_reducible refine z8 26 _ rfl ?hwl7 (w.heap.size+1) (0) (cv) _ rfl (HWv.out u8 HKW8.out).range Tryz.underlying26 rfl ?hil7 ?_);(case hwl7=>(exact wantA rfl));(case hil7=>rw[HLv.out];kernel_rfl))|((with_reducible refine z0F 24 _ rfl ?hw3b 26 j0 _ cv ?hx3b Tryz.underlying24 HJ0.out HY0.out ?hs3b ?h03b ?hm3b ?_);(case hw3b=>(exact wantA rfl));(case hx3b=>rfl);(case hs3b=>rw[HLv.out];exact HY1.out);(case h03b=>rw[HLv.out];decide);(case hm3b=>rw[HLv.out];decide))|(at_builtin;(refine z28 rfl _ _ 24 rfl G.heap.size 26 j0 _ 6 88 enc6 Tryz.underlying24 HJ0.out HY0.out HY1.out HY2.out rfl (by decide) z0h (.slice UB KB.length ub) KB rfl HOB.out u8.heap.size 1 ⟨cv,HLv.out⟩ HOv.out rfl HC8.out HMBa.out HMBb.out HMBc.out ?_;intro xb u9 hown hg hblk;have HNC:=hid (InitInv.next (k:=⟨cv,HLv.out⟩) HNB.out HB8.out HYQ.out HVK.out hown hg);have HNX:=hid (InitInv.carry HNA.out HB8.out hg HAP2.out.symm.ne HNB.out.ge);have HAX:=hid (HAP2.out.symm.next hblk (fun b hb=>Nat.lt_of_lt_of_le (HNA.out.lt b hb) HB8.out.size)).symm;clear hown hg hblk)))
        go_roundg g
        case measure=>omega
        case rel=>
         have hb40:=HE40.out
         have hq:wrap64 ((j:Int)+1)=((j+1:Nat):Int):=by unfold wrap64;omega
         exact⟨j+1,KA ++ [⟨ci,HCI.out⟩],KB ++ [⟨cv,HLv.out⟩],by omega,by first|rw[hq]|rfl,HNX.out,HNC.out,HAX.out⟩
       ·have hjb:((j:Int) ==(r:Int))= false:=by rw[beq_eq_false_iff_ne];omega
        have HVJ:Hid (y'.init= y.init):=hid (by rw[HYI.out,if_neg hjr])
        have HC8:Hid (∀ i u,(enc6 ⟨ci,HCI.out⟩)[i]?= some u→(u8.alloc (.cells ⟨ci⟩ 26)).cell? ⟨u8.heap.size,i,none⟩= some u):=hid (z0s u8 ci 26)
        have HB8:=hid (zc u8 (.cells ⟨ci⟩ 26))
        have HMBc:Hid (G.heap.size≤(u8.alloc (.cells ⟨ci⟩ 26)).heap.size):=hid (Nat.le_trans HNB.out.bel.size HB8.out.size)
        have HOB:Hid (OwnSl 26 6 enc6 (u8.alloc (.cells ⟨ci⟩ 26)) G.heap.size (.slice UB KB.length ub) KB):=hid (HNB.out.own.below HB8.out)
        have HVK:Hid (ValAt G G.heap.size ci y'.init):=hid (by rw[HVJ.out];exact HVI.out)
        have HYQ:=HY'
        clear hjr
        go_wp2_with (first|((with_reducible refine z8 26 _ rfl ?hwl8 (wr.heap.size) (5) (ci) _ rfl HRJ.out Tryz.underlying26 rfl ?hil8 ?_);(case hwl8=>(exact wantA rfl));(case hil8=>rw[HCI.out];kernel_rfl))|((with_reducible refine z0F 24 _ rfl ?hw3b 26 j0 _ ci ?hx3b Tryz.underlying24 HJ0.out HY0.out ?hs3b ?h03b ?hm3b ?_);(case hw3b=>(exact wantA rfl));(case hx3b=>rfl);(case hs3b=>rw[HCI.out];exact HY1.out);(case h03b=>rw[HCI.out];decide);(case hm3b=>rw[HCI.out];decide))|(at_builtin;(refine z28 rfl _ _ 24 rfl G.heap.size 26 j0 _ 6 88 enc6 Tryz.underlying24 HJ0.out HY0.out HY1.out HY2.out rfl (by decide) z0h (.slice UB KB.length ub) KB rfl HOB.out u8.heap.size 1 ⟨ci,HCI.out⟩ HOI.out rfl HC8.out HMBa.out HMBb.out HMBc.out ?_;intro xb u9 hown hg hblk;have HNC:=hid (InitInv.next (k:=⟨ci,HCI.out⟩) HNB.out HB8.out HYQ.out HVK.out hown hg);have HNX:=hid (InitInv.carry HNA.out HB8.out hg HAP2.out.symm.ne HNB.out.ge);have HAX:=hid (HAP2.out.symm.next hblk (fun b hb=>Nat.lt_of_lt_of_le (HNA.out.lt b hb) HB8.out.size)).symm;clear hown hg hblk)))
        go_roundg g
        case measure=>omega
        case rel=>
         have hb40:=HE40.out
         have hq:wrap64 ((j:Int)+1)=((j+1:Nat):Int):=by unfold wrap64;omega
         exact⟨j+1,KA ++ [⟨ci,HCI.out⟩],KB ++ [⟨ci,HCI.out⟩],by omega,by first|rw[hq]|rfl,HNX.out,HNC.out,HAX.out⟩
      |zero=>
       obtain rfl:j= E.length:=by omega
       have hge: ¬ ((E.length:Int) <(E.length:Int)):=by omega
       have HLA:=hid (fun z (hz:Below wr.heap.size wr z)=>HIA.out.row (by have:=HE40.out;omega) hz)
       have hFl:F.length= E.length:=by rw[← HF.out];exact zbf _ _ _
       have HLB:=hid (fun z (hz:Below wr.heap.size wr z)=>(show InitInv 26 G wr _ F F.length KB by rw[hFl];exact HIB.out).row (by rw[hFl];have:=HE40.out;omega) hz)
       have HFL:=hid hFl
       clear hFl
       have HWR:Hid (Below W.heap.size W wr):=hid (HKG.out.trans (HIA.out.bel.mono HKG.out.size))
       have HBR:Hid (Below w.heap.size w wr):=hid (HBG.out.trans (HIA.out.bel.mono HBG.out.size))
       obtain⟨kn,hkn⟩:∃ n,KA.length= n:=⟨_,rfl⟩
       obtain⟨km,hkm⟩:∃ n,KB.length= n:=⟨_,rfl⟩
       rw[hkn] at HLA
       rw[hkm] at HLB
       rw[hkn,hkm]
       clear hkn hkm HIA HIB HAP HKLA HKLB
       obtain⟨V0,hV0⟩:∃ z,z= wr:=⟨_,rfl⟩
       subst hV0
       go_upto_region 13 with (fail)
       obtain⟨y,hy⟩:∃ y,E[r]?= some y:=⟨_,List.getElem?_eq_getElem HRN.out⟩
       obtain⟨b,ob,rfl,hbb,hc⟩:=HEA.out (by have:=HRN.out;omega)
       obtain⟨ks,hkl,hkr,hkv⟩:=hc r y hy
       obtain⟨c0,c1,c2,c3,c4,ci,rfl,hci,hvi⟩:=z5M hkv
       obtain⟨nm,ks2,hks2,hnm⟩:=zbj hkv
       have HRK:=hid (fun z (hz:Below V0.heap.size V0 z)=>zd hkr (HBR.out.trans (hz.mono HBR.out.size)) hbb)
       have HRI:Hid (∀ z,Below V0.heap.size V0 z→z.rangeAt b (ob+r*11+5) ci):=hid (fun z hz i u hu=>by have:=HRK.out z hz (5+i) u (by rw[show 5+i= i+1+1+1+1+1 by omega];exact hu);rw[show ob+r*11+ (5+i)= ob+r*11+5+i by omega] at this;exact this)
       have HNM:Hid (∀ z,Below V0.heap.size V0 z→z.cell? ⟨b,ob+r*11,none⟩= some (.string y.name)):=hid (fun z hz=>by have:=HRK.out z hz 0 (.string y.name) (by rw[hks2,hnm];rfl);rwa [Nat.add_zero] at this)
       have HCI:=hid hci
       have HVI:Hid (∀ z,Below V0.heap.size V0 z→ValAt z z.heap.size ci y.init):=hid (fun z hz=>(hvi.under (HBR.out.trans (hz.mono HBR.out.size))).more (HBR.out.trans (hz.mono HBR.out.size)).size)
       have HYY:=hid hy
       clear hc hkl hkr hkv hci hvi hy hbb hks2 hnm
       have hs:Below V0.heap.size V0 V0.drew:=(Below.refl _ _).drew
       have hrn:=HRN.out
       have HSR:=hid (z3K y.init ci V0.drew (HVI.out V0.drew hs))
       obtain⟨rb,hrb⟩:∃ q,ze y.init= q:=⟨_,rfl⟩
       obtain⟨rd,hrd⟩:∃ q,z0q y.name x= q:=⟨_,rfl⟩
       have HRB:=hid hrb
       have HRD:=hid hrd
       clear hrb hrd HSR
       cases rb with
       |false=>
        refine zx [(0,true),(1,true),(2,true),(3,true),(4,true),(5,false),(6,true),(7,true),(8,true),(9,true),(10,true),(11,true),(12,true),(13,true),(14,false),(15,true)] (fun z=>Below V0.heap.size V0 z) (by kernel_rfl) (by kernel_rfl) (by kernel_rfl) rfl (by intro c a d v w h;cases d<;>exact h) ?_
        refine zj (some 77) (.slice (some ⟨b,ob,none⟩) E.length ec) _ _ rfl rfl rfl (by exact wantA rfl) hs rfl ?_
        go_frame
        refine zj (some 78) (.int .i64 r) _ _ rfl rfl rfl (by exact wantA rfl) hs rfl ?_
        go_frame
        refine za (some 79) (.pointer (some ⟨b,ob+r*11,none⟩)) _ rfl rfl (by exact wantA rfl) hs (fun z hz=>by go_simp) ?_
        go_frame
        refine za (some 80) (.pointer (some ⟨b,ob+r*11+5,none⟩)) _ rfl rfl (by exact wantA rfl) hs (fun z hz=>by go_simp) ?_
        go_frame
        refine za (some 81) (.agg ⟨ci⟩) _ rfl rfl (by exact wantA rfl) hs (fun z hz=>zG 26 rfl (b) (ob+r*11+5) (ci) _ rfl (HRI.out z hz) Tryz.underlying26 rfl (by rw[HCI.out];kernel_rfl)) ?_
        go_frame
        refine zv (some 82) 21 Tryz.func21 (by kernel_rfl) (by kernel_rfl) [.agg ⟨ci⟩] _ _ _ rfl rfl rfl (by exact wantA rfl) rfl ?_
        refine(z3K y.init ci V0.drew (HVI.out V0.drew hs)).mono ?_
        rintro e u1 ⟨rfl,hb⟩
        have hs:Below V0.heap.size V0 u1:=hs.trans (hb.mono hs.size)
        clear hb
        refine⟨_,rfl,hs,?_⟩
        go_frame
        rw[HRB.out]
        refine za (some 83) (.bool true) _ rfl rfl (by exact wantA rfl) hs (fun z hz=>by go_simp) ?_
        go_frame
        refine zj (some 84) (.bool true) _ _ rfl rfl rfl (by exact wantA rfl) hs rfl ?_
        go_frame
        refine z12 (some 85) _ rfl rfl (z0K rfl rfl rfl rfl (by decide)) hs ?_
        go_frame
        refine z12 (some 86) _ rfl rfl (z0K rfl rfl rfl rfl (by decide)) hs ?_
        go_frame
        refine z12 (some 87) _ rfl rfl (z0K rfl rfl rfl rfl (by decide)) hs ?_
        go_frame
        refine z12 (some 88) _ rfl rfl (z0K rfl rfl rfl rfl (by decide)) hs ?_
        go_frame
        refine z12 (some 89) _ rfl rfl (z0K rfl rfl rfl rfl (by decide)) hs ?_
        go_frame
        refine z12 (some 90) _ rfl rfl (z0K rfl rfl rfl rfl (by decide)) hs ?_
        go_frame
        refine z8v (some 91) _ rfl rfl (z0K rfl rfl rfl rfl (by decide)) hs ?_
        go_frame
        refine z2Y (some 92) (.bool true) _ _ _ _ true rfl rfl rfl rfl (by exact wantA rfl) hs rfl ?_
        go_frame
        refine z01 ?_
        have HU2:=hid hs
        clear hs hrn
        go_wp2
        go_ret
        exact⟨rfl,HBR.out.trans (HU2.out.mono HBR.out.size)⟩
       |true=>
        refine zx [(0,true),(1,true),(2,true),(3,true),(4,true),(5,false),(6,true),(7,true),(8,true),(9,true),(10,true),(11,true),(12,true),(13,true),(14,false),(15,true)] (fun z=>Below V0.heap.size V0 z) (by kernel_rfl) (by kernel_rfl) (by kernel_rfl) rfl (by intro c a d v w h;cases d<;>exact h) ?_
        refine zj (some 77) (.slice (some ⟨b,ob,none⟩) E.length ec) _ _ rfl rfl rfl (by exact wantA rfl) hs rfl ?_
        go_frame
        refine zj (some 78) (.int .i64 r) _ _ rfl rfl rfl (by exact wantA rfl) hs rfl ?_
        go_frame
        refine za (some 79) (.pointer (some ⟨b,ob+r*11,none⟩)) _ rfl rfl (by exact wantA rfl) hs (fun z hz=>by go_simp) ?_
        go_frame
        refine za (some 80) (.pointer (some ⟨b,ob+r*11+5,none⟩)) _ rfl rfl (by exact wantA rfl) hs (fun z hz=>by go_simp) ?_
        go_frame
        refine za (some 81) (.agg ⟨ci⟩) _ rfl rfl (by exact wantA rfl) hs (fun z hz=>zG 26 rfl (b) (ob+r*11+5) (ci) _ rfl (HRI.out z hz) Tryz.underlying26 rfl (by rw[HCI.out];kernel_rfl)) ?_
        go_frame
        refine zv (some 82) 21 Tryz.func21 (by kernel_rfl) (by kernel_rfl) [.agg ⟨ci⟩] _ _ _ rfl rfl rfl (by exact wantA rfl) rfl ?_
        refine(z3K y.init ci V0.drew (HVI.out V0.drew hs)).mono ?_
        rintro e u1 ⟨rfl,hb⟩
        have hs:Below V0.heap.size V0 u1:=hs.trans (hb.mono hs.size)
        clear hb
        refine⟨_,rfl,hs,?_⟩
        go_frame
        rw[HRB.out]
        refine za (some 83) (.bool false) _ rfl rfl (by exact wantA rfl) hs (fun z hz=>by go_simp) ?_
        go_frame
        refine zj (some 84) (.bool false) _ _ rfl rfl rfl (by exact wantA rfl) hs rfl ?_
        go_frame
        refine za (some 85) (.agg ⟨cx⟩) _ rfl rfl (by exact wantA rfl) hs (fun z hz=>zG 29 rfl (w.heap.size) (0) (cx) _ rfl ((HWx.out z (HWR.out.trans (hz.mono HWR.out.size))).range) Tryz.underlying29 rfl (by rw[HLx.out];kernel_rfl)) ?_
        go_frame
        refine zj (some 86) (.slice (some ⟨b,ob,none⟩) E.length ec) _ _ rfl rfl rfl (by exact wantA rfl) hs rfl ?_
        go_frame
        refine zj (some 87) (.int .i64 r) _ _ rfl rfl rfl (by exact wantA rfl) hs rfl ?_
        go_frame
        refine za (some 88) (.pointer (some ⟨b,ob+r*11,none⟩)) _ rfl rfl (by exact wantA rfl) hs (fun z hz=>by go_simp) ?_
        go_frame
        refine za (some 89) (.pointer (some ⟨b,ob+r*11,none⟩)) _ rfl rfl (by exact wantA rfl) hs (fun z hz=>by go_simp) ?_
        go_frame
        refine za (some 90) (.string y.name) _ rfl rfl (by exact wantA rfl) hs (fun z hz=>by have d1:=HNM.out z hz;clear hz;go_simp) ?_
        go_frame
        refine zv (some 91) 22 Tryz.func22 (by kernel_rfl) (by kernel_rfl) [.agg ⟨cx⟩,.string y.name] _ _ _ rfl rfl rfl (by exact wantA rfl) rfl ?_
        refine(zbt x y.name cx u1 (HEx.out u1 (HWR.out.trans (hs.mono HWR.out.size)))).mono ?_
        rintro e u2 ⟨rfl,hb⟩
        have hs:Below V0.heap.size V0 u2:=hs.trans (hb.mono hs.size)
        clear hb
        refine⟨_,rfl,hs,?_⟩
        go_frame
        rw[HRD.out]
        refine z2Y (some 92) (.bool rd) _ _ _ _ false rfl rfl rfl rfl (by exact wantA rfl) hs rfl ?_
        go_frame
        refine z01 ?_
        have HU2:=hid hs
        clear hs hrn
        cases rd with
        |true=>
         go_wp2
         go_ret
         exact⟨rfl,HBR.out.trans (HU2.out.mono HBR.out.size)⟩
        |false=>
         have HLW:Hid (evalT x E (F.map VarT.init)= evalT x E (E.map VarT.init)):=hid (by rw[← HF.out];exact z9o HYY.out HRB.out HRV.out HRD.out)
         have HW1:Hid (Below W.heap.size W u2):=hid (HWR.out.trans (HU2.out.mono HWR.out.size))
         have HD1:Hid (Below w.heap.size w u2):=hid (HBR.out.trans (HU2.out.mono HBR.out.size))
         have HEV1:=hid (z6W x E (E.map VarT.init) cx (.slice (some ⟨b,ob,none⟩) E.length ec) (.slice UA kn uc) u2 (HEx.out u2 HW1.out) (HEV.out u2 HW1.out) (HLA.out u2 HU2.out) (by have:=HE40.out;omega) (by rw[List.length_map];have:=HE40.out;omega) (HTB.out.next HD1.out))
         go_upto_region 16 with (first|((with_reducible refine z8 29 _ rfl ?hwl9 (w.heap.size) (0) (cx) _ rfl (HWx.out u2 HW1.out).range Tryz.underlying29 rfl ?hil9 ?_);(case hwl9=>(exact wantA rfl));(case hil9=>rw[HLx.out];kernel_rfl))|(go_at_call 14;refine HEV1.out.mono ?_;rintro e y1 ⟨cs1,rfl,hk,hr,hb⟩;have HC1:=hid (zi hk.val).1;have HOO1:=hid (zi hk.val).2;have HVV1:=hid hk.val;have HBY1:=hid hb;clear hk hr hb)|((with_reducible refine z09 26 _ _ rfl ?hwx10 y1 ?zz10 (cs1) ?hwld10 ?hz10 ?hx10 ?hy10 ?hi10 ?h110 ?_);(case hwld10=>rfl);(case hx10=>rfl);(case hy10=>rfl);(case hwx10=>(exact wantA rfl));(case hz10=>rw[HC1.out];rfl);(case hi10=>rw[HC1.out];kernel_rfl);(case h110=>exact HOO1.out);intro Z1 hZ;have HXX1:=hid hZ;clear hZ))
         have HST1:Hid (Below u2.heap.size u2 Z1):=hid (HBY1.out.trans (HXX1.out.below.mono HBY1.out.size))
         have HPL1:Hid (y1.heap.size < Z1.heap.size):=hid HXX1.out.size
         have HPC1:=hid HXX1.out.range
         have HVZ1:Hid (ValAt Z1 Z1.heap.size cs1 (resV (evalT x E (E.map VarT.init))).1):=hid ((HVV1.out.under HXX1.out.below).more HXX1.out.below.size)
         obtain⟨q1,hq1⟩:∃ q,y1.heap.size= q:=⟨_,rfl⟩
         rw[hq1] at HPL1 HPC1
         rw[hq1]
         clear hq1 HXX1 HEV1
         have HW2:Hid (Below W.heap.size W Z1):=hid (HW1.out.trans (HST1.out.mono HW1.out.size))
         have HD2:Hid (Below w.heap.size w Z1):=hid (HD1.out.trans (HST1.out.mono HD1.out.size))
         have HU3:Hid (Below V0.heap.size V0 Z1):=hid (HU2.out.trans (HST1.out.mono HU2.out.size))
         have HEV2:=hid (z6W x E (F.map VarT.init) cx (.slice (some ⟨b,ob,none⟩) E.length ec) (.slice UB km ub) Z1 (HEx.out Z1 HW2.out) (HEV.out Z1 HW2.out) (HLB.out Z1 HU3.out) (by have:=HE40.out;omega) (by rw[List.length_map,HFL.out];have:=HE40.out;omega) (HTB.out.next HD2.out))
         go_upto_region 17 with (first|((with_reducible refine z8 29 _ rfl ?hwl11 (w.heap.size) (0) (cx) _ rfl (HWx.out Z1 HW2.out).range Tryz.underlying29 rfl ?hil11 ?_);(case hwl11=>(exact wantA rfl));(case hil11=>rw[HLx.out];kernel_rfl))|(go_at_call 14;refine HEV2.out.mono ?_;rintro e y2 ⟨cs2,rfl,hk,hr,hb⟩;have HC2:=hid (zi hk.val).1;have HOO2:=hid (zi hk.val).2;have HVV2:=hid hk.val;have HBY2:=hid hb;clear hk hr hb)|((with_reducible refine z09 26 _ _ rfl ?hwx12 y2 ?zz12 (cs2) ?hwld12 ?hz12 ?hx12 ?hy12 ?hi12 ?h112 ?_);(case hwld12=>rfl);(case hx12=>rfl);(case hy12=>rfl);(case hwx12=>(exact wantA rfl));(case hz12=>rw[HC2.out];rfl);(case hi12=>rw[HC2.out];kernel_rfl);(case h112=>exact HOO2.out);intro Z2 hZ;have HXX2:=hid hZ;clear hZ))
         have HST2:Hid (Below Z1.heap.size Z1 Z2):=hid (HBY2.out.trans (HXX2.out.below.mono HBY2.out.size))
         have HPL2:Hid (y2.heap.size < Z2.heap.size):=hid HXX2.out.size
         have HPC2:=hid HXX2.out.range
         have HVZ2:Hid (ValAt Z2 Z2.heap.size cs2 (resV (evalT x E (F.map VarT.init))).1):=hid ((HVV2.out.under HXX2.out.below).more HXX2.out.below.size)
         obtain⟨q2,hq2⟩:∃ q,y2.heap.size= q:=⟨_,rfl⟩
         rw[hq2] at HPL2 HPC2
         rw[hq2]
         clear hq2 HXX2 HEV2
         have HD3:Hid (Below w.heap.size w Z2):=hid (HD2.out.trans (HST2.out.mono HD2.out.size))
         have HR1:Hid (Z2.rangeAt q1 0 cs1):=hid (zd HPC1.out HST2.out HPL1.out)
         have hv2:ValAt Z2 Z2.heap.size cs2 (resV (evalT x E (E.map VarT.init))).1:=by have h:=HVZ2.out;rw[HLW.out] at h;exact h
         have HSM:Hid (Calls Tryz.prog 16 #[.agg ⟨cs1⟩,.agg ⟨cs2⟩] Z2 fun e w'=>e= .returned (.bool true)∧Below Z2.heap.size Z2 w'):=hid ((zdH _ _ cs1 cs2 Z2 ((HVZ1.out.under HST2.out).more HST2.out.size) hv2).mono fun e w' ⟨h1,h2⟩=>⟨by rw[h1,zas];rfl,h2⟩)
         rw[HLW.out]
         obtain⟨n1,hn1⟩:∃ n,(resV (evalT x E (E.map VarT.init))).2= n:=⟨_,rfl⟩
         rw[hn1]
         have f2:(n1 ==n1)= true:=by simp
         clear hn1 hv2
         go_wp2_with (first|((with_reducible refine z8 26 _ rfl ?hwl13 (q1) (0) (cs1) _ rfl HR1.out Tryz.underlying26 rfl ?hil13 ?_);(case hwl13=>(exact wantA rfl));(case hil13=>rw[HC1.out];kernel_rfl))|((with_reducible refine z8 26 _ rfl ?hwl14 (q2) (0) (cs2) _ rfl HPC2.out Tryz.underlying26 rfl ?hil14 ?_);(case hwl14=>(exact wantA rfl));(case hil14=>rw[HC2.out];kernel_rfl))|(go_at_call 16;refine HSM.out.mono ?_;rintro e w9 ⟨rfl,hb⟩;have HB9:=hid hb;clear hb))
         go_ret
         exact⟨rfl,HD3.out.trans (HB9.out.mono HD3.out.size)⟩
end Go.Proofs.YtmpbepjjbaeebaaGreatDoor
end
