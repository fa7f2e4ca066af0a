/- Parts of a proof: TChk, WG, WR, WI, WN. -/
import Derived.Test.YtdjfpcmlffekkaaGreatDoorPackL11
import Derived.Test.YtdjfpcmlffekkaaGreatDoorPackL12
import Derived.Test.YtdjfpcmlffekkaaGreatDoorPackL25
import Derived.Test.YtdjfpcmlffekkaaGreatDoorPackL40
import Derived.Test.YtdjfpcmlffekkaaGreatDoorPackL41
import Derived.Test.YtdjfpcmlffekkaaGreatDoorPackL42
set_option maxHeartbeats 8000000
set_option maxRecDepth 100000
set_option linter.unusedVariables false
set_option linter.unusedSimpArgs false
namespace Go.Proofs.YtdjfpcmlffekkaaGreatDoor
section
open Go Go.RowKit
theorem TQ.yes {p:Nat->Prop} {r:Except Int TT} {t:TT} (hr:r= .ok t) {w:World} {e:Ending} {w':World} (h:TQ p r w e w'):∃ cs,e= .returned (.agg ⟨cs⟩)/\KeptT (fun b=>p b\/w.heap.size<=b) w' cs t/\Below w.heap.size w w':=by
 rcases h with ⟨t',cs,h1,h2,h3,h4⟩|⟨m,n,h1,_⟩
 ·rw[hr] at h1;injection h1 with h1;subst h1;exact⟨cs,h2,h3,h4⟩
 ·rw[hr] at h1;cases h1
theorem TQ.err {p:Nat->Prop} {r:Except Int TT} {m:Int} (hr:r= .error m) {w:World} {e:Ending} {w':World} (h:TQ p r w e w'):∃ n,n≠0/\e= panE n/\Below w.heap.size w w':=by
 rcases h with ⟨t',cs,h1,h2,h3,h4⟩|⟨m',n,h1,h2,h3,h4⟩
 ·rw[hr] at h1;cases h1
 ·exact⟨n,h2,h3,h4⟩
theorem z9Z (E:List VarT) (hEl:E.length<=10000):∀ (x:ET) (d:Nat) (p:Nat->Prop) (ce:List Value) (va:Value) (cb b o:Nat) (w:World),z0m x d= true->szE x<=200->KeptP p w ce x->w.rangeAt b o ce->b < w.heap.size->w.cell? ⟨cb,0,none⟩= some va->cb < w.heap.size->SlAt (only w p) w.heap.size 11 (VarAt (only w p) w.heap.size) va E->(∀ b,p b->b < w.heap.size)->
  Calls Tryz.prog 111 #[.pointer (some ⟨cb,0,none⟩),.pointer (some ⟨b,o,none⟩)] w (TQ p (z07 E x) w):=by
 intro x
 induction x using ET.ind with
 |h k s v ns its ih=>
  intro d p ce va cb b o w hr hz hx hrg hbl hcv hcl hv hp
  rw[z0m] at hr
  simp only[Bool.and_eq_true,decide_eq_true_eq] at hr
  obtain⟨_,hkids,hnames,_,hrl⟩:=hr
  rw[z2Q] at hrl
  rw[szE] at hz
  have hil:its.length<=200:=by have:=z4X its;omega
  obtain⟨A,c,h9,hcl9,hia⟩:=zaS hx
  have HCH:Hid (∀ x∈its,∀ (ks:List Value) b3 o3 z,Below w.heap.size w z->KeptP p w ks x->w.rangeAt b3 o3 ks->b3 < w.heap.size->Calls Tryz.prog 111 #[.pointer (some ⟨cb,0,none⟩),.pointer (some ⟨b3,o3,none⟩)] z (TQ p (z07 E x) z)):=I fun x hxm ks b3 o3 z hzb hkx hr3 hl3=>ih x hxm (d+1) p ks va cb b3 o3 z (hrl x hxm) (by have:=z4P hxm;omega) (hkx.next hzb) (zc hr3 hzb hl3) (Nat.lt_of_lt_of_le hl3 hzb.size) ((hzb.cell (p:=⟨cb,0,none⟩) hcl).trans hcv) (Nat.lt_of_lt_of_le hcl hzb.size) (z41 hv hzb) (fun b hb=>Nat.lt_of_lt_of_le (hp b hb) hzb.size)
  have HEX:=I hx
  have HVA:=I hv
  have HLO:=I hp
  have HEL:=I hEl
  have HKI:=I hkids
  have HRG:=I hrg
  have HLB:=I hbl
  have HCV:=I (And.intro hcv hcl)
  have HIA:=I hia
  have HIL:=I hil
  have HNM:=I hnames
  have H9:Hid (∀ z,Below w.heap.size w z->z.cell? ⟨b,o+9,none⟩= some (.slice A its.length c)):=I fun z hz=>(hz.cell (p:=⟨b,o+9,none⟩) hbl).trans (hrg 9 _ h9)
  have hil1:its.length<=1000:=by omega
  clear ih hrl hz hx hv hp hEl hkids h9 hcl9 hia hil hrg hbl hcv hcl hnames
  go_enter Tryz.func111,Tryz.ntmps111
  go_upto_region 1 with (fail)
  have hz3:(#[Value.int IntKind.i64 0,Value.slice none 0 0,Value.slice none 0 0]:Array Value)= zT3.toArray:=rfl
  rw[hz3]
  clear hz3
  have HBL:=I (zd w (.cells zT3.toArray 41))
  have HR:=I (Whole.new w zT3 41)
  generalize w.alloc (.cells zT3.toArray 41)= W at*
  obtain⟨jt,hi,hy0,hy1,hy2⟩:=zX z1L
  have HT0:=I hi
  have HT1:=I hy0
  have HT2:=I hy1
  have HT3:=I hy2
  have HRU:Hid (∀ u,Below W.heap.size W u->Whole 41 u w.heap.size zT3):=I fun u hu=>HR.o.keep (hu.block _ HR.o.lt)
  have HBU:Hid (∀ u,Below W.heap.size W u->Below w.heap.size w u):=I fun u hu=>HBL.o.trans (hu.mono HBL.o.size)
  have HWS:Hid (w.heap.size < W.heap.size):=I HR.o.lt
  have d9:=H9.o W HBL.o
  clear hi hy0 hy1 hy2 HR
  go_wp2
  clear d9
  go_loopg [5,13] its.length (fun g r i u=>∃ (j:Nat) (vs:List TT) (KL:List z0T),j+g= its.length/\i= .int .i64 j/\RowT p W.heap.size u r vs KL/\Below W.heap.size W u/\seqT (zR E (its.take j))= .ok vs)
  case atStart=>exact⟨0,[],[],by omega,rfl,RowT.start p (Nat.le_refl _),Below.refl _ _,by rw[List.take_zero,zR,seqT]⟩
  case round=>
   obtain⟨j,vs,KL,hj,rfl,hrt,hwb,hsq⟩:=hrel
   have HRT:=I hrt
   have HWB:=I hwb
   have HSQ:=I hsq
   obtain⟨RA,rc,rfl⟩:=z0x hrt.own
   clear hrt hwb hsq
   obtain⟨V,hV⟩:∃ z,z= wr:=⟨_,rfl⟩
   subst hV
   have HVL:Hid (vs.length= j):=I (by have h:=(z6g HSQ.o).1;rw[List.length_take] at h;omega)
   have HKL:Hid (KL.length= j):=I (HRT.o.len.trans HVL.o)
   have HBW:=I (HBU.o V HWB.o)
   cases gk with
   |zero=>
    obtain rfl:j= its.length:=by omega
    have hge: ¬ ((its.length:Int) <(its.length:Int)):=by omega
    have HSF:Hid (seqT (zR E its)= .ok vs):=I (by have h:=HSQ.o;rwa [List.take_length] at h)
    obtain⟨pp,hpp⟩:∃ pp:Nat->Prop,pp= fun b=>(p b\/W.heap.size<=b)/\b < V.heap.size:=⟨_,rfl⟩
    have HPP:Hid (∀ b,pp b->(p b\/W.heap.size<=b)/\b < V.heap.size):=I fun b hb=>by rw[hpp] at hb;exact hb
    have hpq:∀ b,(p b\/W.heap.size<=b)->b < V.heap.size->pp b:=fun b h1 h2=>by rw[hpp];exact⟨h1,h2⟩
    have hto:∀ a u,(only V p).cell? a= some u->(only V pp).cell? a= some u:=z36 fun b h1 h2=>⟨hpq b (.inl h1) h2,rfl⟩
    have htoks:∀ t∈vs,typeT t= true:=fun t ht=>by
     obtain⟨i,hi⟩:=List.mem_iff_getElem?.1 ht
     obtain⟨h1,h2⟩:=z6g HSF.o
     have hil:=(List.getElem?_eq_some_iff.1 hi).1
     have h3:=h2 i its[i] t (List.getElem?_eq_getElem (by omega)) hi
     cases hxi:its[i] with
     |mk k' s' v' ns' its'=>
      rw[hxi] at h3
      obtain⟨_,_,_,h4⟩:=z4I h3
      exact h4
    have hargs:OwnArgs pp V ce (.slice RA KL.length rc) va E k s v ns vs:=by
     refine⟨⟨its,(HEX.o.next HBW.o).to (fun b h1 h2=>⟨hpq b (.inl h1) h2,rfl⟩) (Nat.le_refl _)⟩,?_,?_,HEL.o,by rw[HVL.o];omega,fun b hb=>(HPP.o b hb).2,fun t ht=>zbe (htoks t ht)⟩
     ·exact HRT.o.row (by rw[HVL.o];unfold maxLen;omega) (fun b h1 h2=>⟨hpq b h1 h2,rfl⟩) (Nat.le_refl _)
     ·obtain⟨h0,A2,c2,e2,h1⟩:=z41 HVA.o HBW.o
      refine⟨h0,A2,c2,e2,fun hp=> ?_⟩
      obtain⟨b,o,e3,hlt,h2⟩:=h1 hp
      refine⟨b,o,e3,hlt,fun i x hx=> ?_⟩
      obtain⟨cs,h3,h4,h5⟩:=h2 i x hx
      exact⟨cs,h3,fun j v hv=>hto _ _ (h4 j v hv),h5.cells hto⟩
    have HOW:Hid (Calls Tryz.prog 131 #[.pointer (some ⟨cb,0,none⟩),.pointer (some ⟨b,o,none⟩),.slice RA KL.length rc] V (TQ pp (ownT E k s v ns vs) V)):=I (zbP hargs (zc HRG.o HBW.o HLB.o) (Nat.lt_of_lt_of_le HLB.o HBW.o.size) ((HBW.o.cell (p:=⟨cb,0,none⟩) HCV.o.2).trans HCV.o.1) (Nat.lt_of_lt_of_le HCV.o.2 HBW.o.size) (by rw[HVL.o];exact HKI.o) (fun t ht=>z5V (htoks t ht)) (fun h17=>by
     have h:=HNM.o
     rw[h17,zN,if_neg (by decide),if_neg (by decide),if_pos rfl] at h
     simp only[Bool.and_eq_true,beq_iff_eq] at h
     omega))
    clear hargs hto hpq hpp htoks
    have HCK:Hid (z07 E (.mk k s v ns its)= match ownT E k s v ns vs with| .error e=> .error e| .ok t=>if typeT t= true then .ok t else .error 15):=I (by rw[z07,HSF.o];dsimp only;cases ownT E k s v ns vs<;>rfl)
    cases ho:ownT E k s v ns vs with
    |error e=>
     have HCE:Hid (z07 E (.mk k s v ns its)= .error e):=I (by rw[HCK.o,ho])
     go_wp2_with (first|(go_at_call 131;refine(HOW.o).mono ?_;rintro e Y1 he;obtain⟨n,hn,rfl,hb⟩:=he.err ho;have HBC1:=I hb;have HNN:=I hn;clear hb he hn))
     exact⟨rfl,TQ.no HCE.o HNN.o (HBW.o.trans (HBC1.o.mono HBW.o.size))⟩
    |ok t=>
     rw[ho] at HCK
     go_upto_region 8 with (first|(go_at_call 131;refine(HOW.o).mono ?_;rintro e Y1 he;obtain⟨cs1,rfl,hk,hb⟩:=he.yes ho;have HLC1:=I (zk hk.typ).1;have HOC1:=I (zk hk.typ).2;have HKC1:=I hk;have HBC1:=I hb;clear hk hb he)|((with_reducible refine zJ 41 _ _ rfl ?hwx1 Y1 ?zz1 (cs1) ?hwld1 ?hz1 ?hx1 ?hy1 ?hi1 ?h11 ?_);(case hwld1=>rfl);(case hx1=>rfl);(case hy1=>rfl);(case hwx1=>(exact wA rfl));(case hz1=>rw[HLC1.o];rfl);(case hi1=>rw[HLC1.o];kernel_rfl);(case h11=>exact HOC1.o);intro Z1 hZ;have HXZ:=I hZ;clear hZ))
     have HW1:Hid (Below W.heap.size W Z1):=I (HWB.o.trans ((HBC1.o.trans (HXZ.o.below.mono HBC1.o.size)).mono HWB.o.size))
     have HTY:Hid (TypAt Z1 Z1.heap.size cs1 t):=I ((HKC1.o.next HXZ.o.below).typ)
     obtain⟨bt,hbt⟩:∃ b,typeT t= b:=⟨_,rfl⟩
     have HTR:Hid (Calls Tryz.prog 30 #[.agg ⟨cs1⟩] Z1 fun e w'=>e= .returned (.bool bt)/\Below Z1.heap.size Z1 w'):=I (by have h:=z0C t cs1 Z1 HTY.o;rw[← hbt];exact h)
     have TRC:=HCK.o
     clear ho
     cases bt with
     |false=>
      have HCE:Hid (z07 E (.mk k s v ns its)= .error 15):=I (by rw[TRC];exact if_neg (by rw[hbt];decide))
      clear TRC
      go_wp2_with (first|((with_reducible refine za 41 _ rfl ?_ (Y1.heap.size) (0) (cs1) _ rfl HXZ.o.range Tryz.underlying41 rfl ?_ ?_);(exact wA rfl);rw[HLC1.o];kernel_rfl)|(go_at_call 30;refine(HTR.o).mono ?_;rintro e Z2 ⟨rfl,hb⟩;have HB2:=I hb;clear hb)|(go_at_call 109;refine(z02 15 _).mono ?_;rintro e z9 ⟨rfl,hzw⟩;rw[hzw];clear hzw z9))
      exact⟨rfl,TQ.no HCE.o (by decide) (HBU.o Z2 (HW1.o.trans (HB2.o.mono HW1.o.size)))⟩
     |true=>
      have HCE:Hid (z07 E (.mk k s v ns its)= .ok t):=I (by rw[TRC];exact if_pos hbt)
      clear TRC
      go_wp2_with (first|((with_reducible refine za 41 _ rfl ?_ (Y1.heap.size) (0) (cs1) _ rfl HXZ.o.range Tryz.underlying41 rfl ?_ ?_);(exact wA rfl);rw[HLC1.o];kernel_rfl)|(go_at_call 30;refine(HTR.o).mono ?_;rintro e Z2 ⟨rfl,hb⟩;have HB12:=I hb;have HX2:=I (zc HXZ.o.range hb HXZ.o.size);have HR1:=I (HRU.o Z2 (HW1.o.trans (hb.mono HW1.o.size)));have HB1:=I (HBU.o Z2 (HW1.o.trans (hb.mono HW1.o.size)));clear hb)|(go_at_call 109;refine(z0k 15 _).mono ?_;rintro e z9 ⟨rfl,hzw⟩;rw[hzw];clear hzw z9)|((with_reducible refine za 41 _ rfl ?_ (Y1.heap.size) (0) (cs1) _ rfl HX2.o Tryz.underlying41 rfl ?_ ?_);(exact wA rfl);rw[HLC1.o];kernel_rfl)|((with_reducible refine zf 41 _ _ rfl rfl ?_ (w.heap.size) (zT3) (cs1) HR1.o ?_ ?_ ?_ ?_ ?_ ?_);(exact wA rfl);rw[HLC1.o];rfl;rfl;rfl;rw[HLC1.o];kernel_rfl;exact HOC1.o;intro Z hz hb;have HZZ:=I hz;have HBZ:=I hb;clear hz hb))
      (try simp only[Exit.inBlock,Exit.then])
      refine bodyPost_ret (zK rfl _ _ (w.heap.size) cs1 HLC1.o rfl HZZ.o) rfl ?_
      refine TQ.ok HCE.o ?_ (HB1.o.trans (HBZ.o.below HB1.o.size (Nat.le_refl _) (Nat.le_refl _)))
      refine KeptT.to (KeptT.next (KeptT.next HKC1.o HXZ.o.below) HB12.o) (fun b h1 h2=> ?_) HBZ.o.size
      have hne:b≠w.heap.size:=fun e=>by
       have h3:=HWS.o
       have h4:=HWB.o.size
       rcases h1 with h|h
       ·rcases(HPP.o b h).1 with h|h
        ·have:=HLO.o b h;omega
        ·omega
       ·omega
      refine⟨?_,HBZ.o.block b h2 hne hne⟩
      have h5:=HBL.o.size
      have h6:=HBW.o.size
      rcases h1 with h|h
      ·exact(HPP.o b h).1.imp id fun h=>Nat.le_trans h5 h
      ·exact .inr (Nat.le_trans h6 h)
   |succ g=>
    have hlt:(j:Int) <(its.length:Int):=by omega
    have ilt:j < its.length:=by omega
    obtain⟨y,hy⟩:∃ y,its[j]?= some y:=⟨_,List.getElem?_eq_getElem ilt⟩
    obtain⟨b3,o3,rfl,hbb,hc⟩:=HIA.o (by omega)
    obtain⟨kx,hlx,hrx,hkx⟩:=hc j y hy
    have HYY:=I hy
    have HCY:=I (HCH.o y (List.mem_of_getElem? hy) kx b3 (o3+j*10) V HBW.o hkx hrx hbb)
    have HM63:Hid (KL.length+1<=maxLen):=I (by have:=HKL.o;unfold maxLen;omega)
    have HM88:Hid ((KL.length+1) *56<=140737488355328):=I (by have:=HKL.o;omega)
    have d9:=H9.o V HBW.o
    clear hc hy hlx hrx hkx hbb
    cases ho:z07 E y with
    |error e=>
     have HCE:Hid (z07 E (.mk k s v ns its)= .error e):=I (by rw[z07,z8e HSQ.o HYY.o ho])
     go_wp2_with (first|(go_at_call 111;refine(HCY.o).mono ?_;rintro e Y1 he;obtain⟨n,hn,rfl,hb⟩:=he.err ho;have HBC1:=I hb;have HNN:=I hn;clear hb he hn))
     exact⟨rfl,TQ.no HCE.o HNN.o (HBW.o.trans (HBC1.o.mono HBW.o.size))⟩
    |ok t=>
     have HSN:=I (z6o HSQ.o HYY.o ho)
     go_wp2_with (first|(go_at_call 111;refine(HCY.o).mono ?_;rintro e Y1 he;obtain⟨cs1,rfl,hk,hb⟩:=he.yes ho;have HLC1:=I (zk hk.typ).1;have HOC1:=I (zk hk.typ).2;have HKC1:=I hk;have HBC1:=I hb;clear hk hb he)|((with_reducible refine z1u 39 _ rfl ?_ 41 jt _ cs1 ?_ Tryz.underlying39 HT0.o HT1.o ?_ ?_ ?_ ?_);(exact wA rfl);rfl;rw[HLC1.o];exact HT2.o;rw[HLC1.o];decide;rw[HLC1.o];decide;have HB17:=I (zd Y1 (.cells ⟨cs1⟩ 41));have HC7:Hid (∀ i u,(enc3 ⟨cs1,HLC1.o⟩)[i]?= some u->(Y1.alloc (.cells ⟨cs1⟩ 41)).cell? ⟨Y1.heap.size,i,none⟩= some u):=I (z16 Y1 cs1 41);have HS7:Hid (W.heap.size<=(Y1.alloc (.cells ⟨cs1⟩ 41)).heap.size):=I (Nat.le_trans HWB.o.size (Nat.le_trans HBC1.o.size HB17.o.size));have HOW:Hid (OwnSl 41 3 enc3 (Y1.alloc (.cells ⟨cs1⟩ 41)) W.heap.size (.slice RA KL.length rc) KL):=I (HRT.o.own.below (HBC1.o.trans (HB17.o.mono HBC1.o.size))))|(at_builtin;(refine z2o rfl _ _ 39 rfl W.heap.size 41 jt _ 3 56 enc3 Tryz.underlying39 HT0.o HT1.o HT2.o HT3.o rfl (by decide) z2v (.slice RA KL.length rc) KL rfl HOW.o Y1.heap.size 1 ⟨cs1,HLC1.o⟩ HOC1.o rfl HC7.o HM63.o HM88.o HS7.o ?_;intro v' u8 hown hg hblk;have HRN:=I (HRT.o.next (fun b hb=>Nat.lt_of_lt_of_le (HLO.o b hb) HBL.o.size) HBC1.o HB17.o (k:=⟨cs1,HLC1.o⟩) HKC1.o hown hg hblk);have HWN:=I ((HWB.o.trans ((HBC1.o.trans (HB17.o.mono HBC1.o.size)).mono HWB.o.size)).grown hg (Nat.le_trans HWB.o.size (Nat.le_trans HBC1.o.size HB17.o.size)) fun b hb=>HOW.o.block hb);clear hown hg hblk)))
     go_roundg g
     case measure=>omega
     case rel=>exact⟨j+1,vs ++ [t],_,by omega,by go_num,HRN.o,HWN.o,HSN.o⟩
def TopC (r:Option TT) (w:World) (e:Ending) (w':World):Prop:=
 (∃ t cs,r= some t/\e= .returned (.tuple #[.agg ⟨cs⟩,.int .i64 0])/\KeptT (fun b=>w.heap.size<=b) w' cs t/\Below w.heap.size w w')\/(∃ n,r= none/\n≠0/\e= .returned (.tuple #[.agg ⟨zT3⟩,.int .i64 n])/\Below w.heap.size w w')
theorem KeptP.low {w y:World} {cs:List Value} {t:ET} (h:ExpAt w w.heap.size cs t) (hb:Below w.heap.size w y):KeptP (fun b=>b < w.heap.size) y cs t:=ExpAt.cells (h.more hb.size) fun a v hv=>by
 have hlt:a.block < w.heap.size:=by
  rcases Nat.lt_or_ge a.block w.heap.size with h|h
  ·exact h
  ·unfold World.cell? at hv;rw[Array.getElem?_eq_none h] at hv;cases hv
 exact zp.2 ⟨hlt,(World.cell?_of_block (hb.block _ hlt)).trans hv⟩
theorem zd5 {w y:World} {v:Value} {E:List VarT} (h:SlAt w w.heap.size 11 (VarAt w w.heap.size) v E) (hb:Below w.heap.size w y):SlAt (only y fun b=>b < w.heap.size) y.heap.size 11 (VarAt (only y fun b=>b < w.heap.size) y.heap.size) v E:=by
 have hc:∀ a v,w.cell? a= some v->(only y fun b=>b < w.heap.size).cell? a= some v:=fun a v hv=>by
  have hlt:a.block < w.heap.size:=by
   rcases Nat.lt_or_ge a.block w.heap.size with h|h
   ·exact h
   ·unfold World.cell? at hv;rw[Array.getElem?_eq_none h] at hv;cases hv
  exact zp.2 ⟨hlt,(World.cell?_of_block (hb.block _ hlt)).trans hv⟩
 obtain⟨h0,A,c,rfl,h1⟩:=h
 refine⟨h0,A,c,rfl,fun hp=> ?_⟩
 obtain⟨b,o,rfl,hlt,h2⟩:=h1 hp
 refine⟨b,o,rfl,Nat.lt_of_lt_of_le hlt hb.size,fun i x hx=> ?_⟩
 obtain⟨cs,h3,h4,h5⟩:=h2 i x hx
 exact⟨cs,h3,fun j v hv=>hc _ _ (h4 j v hv),(h5.cells hc).more hb.size⟩
theorem zau {E:List VarT} {x:ET} {t:TT} (h:z07 E x= .ok t):typeT t= true:=by
 cases x with
 |mk k s v ns its=>
  obtain⟨_,_,_,h4⟩:=z4I h
  exact h4
theorem z8h {w:World} {B:Nat} {ks:List Value} {x:VarT} (h:VarAt w B ks x):∃ ct,ct.length= 3/\TypAt w B ct x.type/\∀ j v,ct[j]?= some v->ks[2+j]?= some v:=by
 obtain⟨⟨ct,ci,rfl,h1,h2,h3,h4⟩,_,_⟩:=h
 refine⟨ct,h1,h3,fun j v hv=> ?_⟩
 rw[List.append_assoc]
 show([Value.string x.name,Value.int .i64 x.label] ++ (ct ++ ci))[2+j]?= _
 rw[List.getElem?_append_right (by simp)]
 simp only[List.length_cons,List.length_nil]
 rw[show 2+j - (0+1+1)= j by omega,List.getElem?_append_left (List.getElem?_eq_some_iff.1 hv).1]
 exact hv
theorem z9I (E:List VarT) (x:ET) (cs:List Value) (va:Value) (w:World) (hx:ExpAt w w.heap.size cs x) (hE:SlAt w w.heap.size 11 (VarAt w w.heap.size) va E) (hEl:E.length<=10000):Calls Tryz.prog 85 #[.agg ⟨cs⟩,va] w (TopC (chkE E x) w):=by
 have HCL:=I (eslen hx)
 have HX:=I hx
 have HE:=I hE
 have HEL:=I hEl
 have hle2:(E.length:Int)<=10000:=by omega
 obtain⟨hel,EB0,ec,rfl,heA⟩:=hE
 have HEA:=I heA
 clear hx hEl heA hel
 go_enter_defers Tryz.func85,Tryz.ntmps85
 go_upto_region 1 with (fail)
 have hz3:(#[Value.int IntKind.i64 0,Value.slice none 0 0,Value.slice none 0 0]:Array Value)= zT3.toArray:=rfl
 rw[hz3]
 clear hz3
 have g1:=zd w (.cells ⟨cs⟩ 54)
 have h1:=Whole.new w cs 54
 have s1:(w.alloc (.cells ⟨cs⟩ 54)).heap.size= w.heap.size+1:=by simp
 generalize w.alloc (.cells ⟨cs⟩ 54)= W1 at*
 have g2:=zd W1 (.cells zT3.toArray 41)
 have h2:=Whole.new W1 zT3 41
 have s2:(W1.alloc (.cells zT3.toArray 41)).heap.size= w.heap.size+1+1:=by simp[s1]
 generalize W1.alloc (.cells zT3.toArray 41)= W2 at*
 have g3:=zd W2 (.cells #[.int .i64 0] 33)
 have h3:=Whole.new W2 [.int .i64 0] 33
 generalize W2.alloc (.cells #[.int .i64 0] 33)= W at*
 rw[s1] at h2
 rw[s2] at h3
 have g12:=g1.trans (g2.mono g1.size)
 have HXW:=I ((h1.keep (g2.block _ (by omega))).keep (g3.block _ (by omega)))
 have HTS:Hid (TS w W (w.heap.size+1) (w.heap.size+1+1)):=I ⟨h2.keep (g3.block _ (by omega)),h3,g12.trans (g3.mono g12.size),by omega,by omega,by omega⟩
 (try simp only[s1,s2])
 clear g1 g2 g3 g12 h1 h2 h3 s1 s2
 go_upto_region 3 with (fail)
 go_loopg [9] E.length (fun q y u=>∃ j:Nat,j+q= E.length/\y= .int .i64 j/\Below W.heap.size W u/\∀ i v,i < j->E[i]?= some v->typeT v.type= true)
 case atStart=>exact⟨0,by omega,rfl,Below.refl _ _,fun i v hi=>absurd hi (Nat.not_lt_zero i)⟩
 case round=>
  obtain⟨j,hj,rfl,hb,hri⟩:=hrel
  have HBU:=I hb
  have HRI:=I hri
  have HTV:=I (HTS.o.next hb)
  clear hb hri
  obtain⟨V,hV⟩:∃ z,z= wr:=⟨_,rfl⟩
  subst hV
  cases gk with
  |zero=>
   obtain rfl:j= E.length:=by omega
   have hge: ¬ ((E.length:Int) <(E.length:Int)):=by omega
   have HALL:Hid (E.all (fun v=>typeT v.type)= true):=I (by
    rw[List.all_eq_true]
    intro v hv
    obtain⟨i,hi⟩:=List.mem_iff_getElem?.1 hv
    exact HRI.o i v (List.getElem?_eq_some_iff.1 hi).1 hi)
   have HPR:=I (z6a x cs V ((HX.o.under HTV.o.bel).more HTV.o.bel.size))
   have HXR:=I (HXW.o.keep (HBU.o.block _ HXW.o.lt)).range
   obtain⟨bq,hbq⟩:∃ bq,z0i x= bq:=⟨_,rfl⟩
   have HBQ:=I hbq
   rw[hbq] at HPR
   clear hbq
   cases bq with
   |false=>
    have HRES:Hid (chkE E x= none):=I (by unfold chkE mayE;rw[HBQ.o,Bool.and_false];rfl)
    go_wp2_with (first|((with_reducible refine za 54 _ rfl ?_ (w.heap.size) (0) (cs) _ rfl HXR.o Tryz.underlying54 rfl ?_ ?_);(exact wA rfl);rw[HCL.o];kernel_rfl)|(go_at_call 84;refine HPR.o.mono ?_;rintro e z ⟨rfl,hb⟩;have HBY:=I hb;clear hb)|(go_at_call 109;refine(z02 2 _).mono ?_;rintro e z9 ⟨rfl,hzw⟩;rw[hzw];clear hzw z9))
    have HESZ:=I (HTV.o.next HBY.o)
    have HNE:Hid (w.heap.size+1≠w.heap.size+1+1):=I HESZ.o.ne
    refine leaves_cons (f:=108) (args:= #[.pointer (some ⟨w.heap.size+1,0,none⟩),.pointer (some ⟨w.heap.size+1+1,0,none⟩)]) (by simp) (by simp[go_sem]) ?_
    refine(z1a (w.heap.size+1) (w.heap.size+1+1) 2 0 33 [] _ HESZ.o.wt HESZ.o.we HNE.o).mono ?_
    rintro e u' w'' ⟨rfl,rfl,hq,hr,hb⟩
    exact⟨_,z0I rfl _ _ (w.heap.size+1) (w.heap.size+1+1) zT3 2 rfl rfl rfl hq hr,.inr ⟨2,HRES.o,by decide,rfl,HESZ.o.bel.trans (hb.below (B:=w.heap.size) HESZ.o.bel.size HESZ.o.qlo HESZ.o.rlo)⟩⟩
   |true=>
    have HME:Hid (mayE E x= true):=I (by unfold mayE;rw[HBQ.o,HALL.o];rfl)
    have hsz3:=(z4z.1 HBQ.o)
    go_wp2_with (first|((with_reducible refine za 54 _ rfl ?_ (w.heap.size) (0) (cs) _ rfl HXR.o Tryz.underlying54 rfl ?_ ?_);(exact wA rfl);rw[HCL.o];kernel_rfl)|(go_at_call 84;refine HPR.o.mono ?_;rintro e z ⟨rfl,hb⟩;have HBY:=I hb;clear hb)|(go_at_call 109;refine(z0k 2 _).mono ?_;rintro e z9 ⟨rfl,hzw⟩;rw[hzw];clear hzw z9)|(go_at_call 111;fail))
    have HBM:=I (zd z (.cells ⟨[.slice EB0 E.length ec]⟩ 164))
    have HTZ:=I ((HTV.o.next HBY.o).next HBM.o)
    have HCC:Hid ((z.alloc (.cells ⟨[.slice EB0 E.length ec]⟩ 164)).cell? ⟨z.heap.size,0,none⟩= some (.slice EB0 E.length ec)):=I ((Whole.new z [.slice EB0 E.length ec] 164).range 0 _ rfl)
    have HCZ:Hid (z.heap.size <(z.alloc (.cells ⟨[.slice EB0 E.length ec]⟩ 164)).heap.size):=I (by simp)
    have HXZ:=I ((((HXW.o.keep (HBU.o.block _ HXW.o.lt)).keep (HBY.o.block _ (Nat.lt_of_lt_of_le HXW.o.lt HBU.o.size)))).keep (HBM.o.block _ (Nat.lt_of_lt_of_le HXW.o.lt (Nat.le_trans HBU.o.size HBY.o.size))))
    have HCK:=I (z9Z E HEL.o x 1 (fun b=>b < w.heap.size) cs (.slice EB0 E.length ec) z.heap.size w.heap.size 0 (z.alloc (.cells ⟨[.slice EB0 E.length ec]⟩ 164)) hsz3.2 hsz3.1 (KeptP.low HX.o HTZ.o.bel) HXZ.o.range HXZ.o.lt HCC.o HCZ.o (zd5 HE.o HTZ.o.bel) (fun b hb=>Nat.lt_of_lt_of_le hb HTZ.o.bel.size))
    clear hsz3
    refine HCK.o.mono ?_
    rintro e Y1 (⟨t,cs1,hr,rfl,hk,hb⟩|⟨m,n,hr,hn,rfl,hb⟩)
    ·have HRES:Hid (chkE E x= some t):=I (by unfold chkE;rw[if_pos HME.o,hr])
     have HTY:=I (HTZ.o.next hb)
     have HOW:=I (zdz t cs1 Y1 (z3d (zau hr)) hk.typ)
     have HRL:Hid (w.heap.size+1+1 < Y1.heap.size):=I HTY.o.we.lt
     clear hr hk hb
     have ARM:=trivial
     go_wp2_with (first|(go_at_call 110;refine(HOW.o).mono ?_;rintro e Y2 ⟨cs2,rfl,hk,hb⟩;have HTS3:=I (HTY.o.next hb);have HCL2:=I (zk hk.typ).1;have HON:=I (zk hk.typ).2;have HK:=I hk;clear hk hb)|((with_reducible refine zf 41 _ _ rfl rfl ?_ (w.heap.size+1) zT3 cs2 HTS3.o.wt ?_ ?_ ?_ ?_ ?_ ?_);(exact wA rfl);rw[HCL2.o];rfl;rfl;rfl;rw[HCL2.o];kernel_rfl;exact HON.o;intro Z hz hb;have HXZ:=I hz;have HXB:=I hb;have hr2:Whole 33 Z (w.heap.size+1+1) [.int .i64 0]:=HTS3.o.we.keep (hb.block _ HTS3.o.we.lt (Ne.symm HTS3.o.ne) (Ne.symm HTS3.o.ne));have c0:Z.cell? ⟨w.heap.size+1+1,0,none⟩= some (.int .i64 0):=hr2.cells 0 rfl;have f0:Z.frozen? ⟨w.heap.size+1+1,0,none⟩= false:=hr2.thaw' 0;clear hz hb hr2))
     have HPQ:Hid (∀ b,Y1.heap.size<=b->b≠w.heap.size+1/\b≠w.heap.size+1+1):=I fun b hb=>by
      have h1:=HRL.o
      exact⟨by omega,by omega⟩
     have hy1:=HTY.o.bel.size
     have hc2:(Z.setCell ⟨w.heap.size+1+1,0,none⟩ (.int .i64 0)).cell? ⟨w.heap.size+1+1,0,none⟩= some (.int .i64 0):=World.cell?_setCell_same _ _ _ (by rw[c0])
     have hb2:∀ b,b≠w.heap.size+1+1->(Z.setCell ⟨w.heap.size+1+1,0,none⟩ (.int .i64 0)).heap[b]?= Z.heap[b]?:=fun b h=>Below.heap_setCell Z ⟨w.heap.size+1+1,0,none⟩ _ b h
     have hs2:(Z.setCell ⟨w.heap.size+1+1,0,none⟩ (.int .i64 0)).heap.size= Z.heap.size:=by simp[World.setCell]
     have hos:(Z.setCell ⟨w.heap.size+1+1,0,none⟩ (.int .i64 0)).os= Z.os/\(Z.setCell ⟨w.heap.size+1+1,0,none⟩ (.int .i64 0)).tape= Z.tape/\(Z.setCell ⟨w.heap.size+1+1,0,none⟩ (.int .i64 0)).output= Z.output:=⟨rfl,rfl,rfl⟩
     have HNE:Hid (w.heap.size+1≠w.heap.size+1+1):=I HTS3.o.ne
     generalize Z.setCell ⟨w.heap.size+1+1,0,none⟩ (.int .i64 0)= Z3 at*
     refine leaves_cons (f:=108) (args:= #[.pointer (some ⟨w.heap.size+1,0,none⟩),.pointer (some ⟨w.heap.size+1+1,0,none⟩)]) (by simp) (by simp[go_sem]) ?_
     refine(z4C (w.heap.size+1) (w.heap.size+1+1) _).mono ?_
     rintro e u' w'' ⟨rfl,rfl,rfl⟩
     have hZ:=HXB.o.size
     have h4:=HTS3.o.bel.size
     have hql:=HTS3.o.qlo
     have hrl:=HTS3.o.rlo
     have hW:Whole 41 w'' (w.heap.size+1) cs2:=HXZ.o.keep (hb2 _ HNE.o)
     refine⟨_,z0I rfl _ _ (w.heap.size+1) (w.heap.size+1+1) cs2 0 HCL2.o rfl rfl hW hc2,.inl ⟨t,cs2,HRES.o,rfl,(HK.o.to (q:=fun b=>w.heap.size<=b) (fun b hp hlt=>⟨by omega,?_⟩) (by omega)),?_⟩⟩
     ·have h6:=(HPQ.o b hp)
      exact(hb2 b h6.2).trans (HXB.o.block b hlt h6.1 h6.1)
     ·exact⟨hos.1.trans (HXB.o.os.trans HTS3.o.bel.os),hos.2.1.trans (HXB.o.tape.trans HTS3.o.bel.tape),hos.2.2.trans (HXB.o.output.trans HTS3.o.bel.output),by omega,fun b hlt=>(hb2 b (by omega)).trans ((HXB.o.block b (by omega) (by omega) (by omega)).trans (HTS3.o.bel.block b hlt))⟩
    ·have HRES:Hid (chkE E x= none):=I (by unfold chkE;rw[if_pos HME.o,hr])
     go_wp2
     have HESZ:=I (HTZ.o.next hb)
     have HNE:Hid (w.heap.size+1≠w.heap.size+1+1):=I HESZ.o.ne
     refine leaves_cons (f:=108) (args:= #[.pointer (some ⟨w.heap.size+1,0,none⟩),.pointer (some ⟨w.heap.size+1+1,0,none⟩)]) (by simp) (by simp[go_sem]) ?_
     refine(z1a (w.heap.size+1) (w.heap.size+1+1) n 0 33 [] _ HESZ.o.wt HESZ.o.we HNE.o).mono ?_
     rintro e u' w'' ⟨rfl,rfl,hq,hr,hb⟩
     exact⟨_,z0I rfl _ _ (w.heap.size+1) (w.heap.size+1+1) zT3 n rfl rfl rfl hq hr,.inr ⟨n,HRES.o,hn,rfl,HESZ.o.bel.trans (hb.below (B:=w.heap.size) HESZ.o.bel.size HESZ.o.qlo HESZ.o.rlo)⟩⟩
  |succ g=>
   have hlt:(j:Int) <(E.length:Int):=by omega
   obtain⟨y,hy⟩:∃ y,E[j]?= some y:=⟨_,List.getElem?_eq_getElem (by omega)⟩
   obtain⟨b,ob,rfl,hbb,hc⟩:=HEA.o (by omega)
   obtain⟨ks,hkl,hkr,hkv⟩:=hc j y hy
   obtain⟨ct,hctl,hctt,hcto⟩:=z8h hkv
   have HCT:Hid (V.rangeAt b (ob+j*11+2) ct):=I (fun i v hv=>by
    have h:=zc hkr HTV.o.bel hbb (2+i) v (hcto i v hv)
    rwa [show ob+j*11+ (2+i)= ob+j*11+2+i by omega] at h)
   have HLT:=I hctl
   have HYY:=I hy
   have HTR0:=I (z0C y.type ct V ((hctt.under HTV.o.bel).more HTV.o.bel.size))
   obtain⟨bt,hbt⟩:∃ b,typeT y.type= b:=⟨_,rfl⟩
   have HTR:Hid (Calls Tryz.prog 30 #[.agg ⟨ct⟩] V fun e w'=>e= .returned (.bool bt)/\Below V.heap.size V w'):=I (by rw[← hbt];exact HTR0.o)
   have HBT:=I hbt
   clear hc hy hkl hkr hkv hctl hctt hcto hbb hbt HTR0
   cases bt with
   |false=>
    have HRES:Hid (chkE E x= none):=I (by
     unfold chkE
     rw[if_neg]
     intro h
     unfold mayE at h
     rw[Bool.and_eq_true,List.all_eq_true] at h
     have h2:=h.1 y (List.mem_of_getElem? HYY.o)
     rw[HBT.o] at h2
     cases h2)
    go_wp2_with (first|((with_reducible refine za 41 _ rfl ?_ (b) (ob+j*11+2) (ct) _ rfl HCT.o Tryz.underlying41 rfl ?_ ?_);(exact wA rfl);rw[HLT.o];kernel_rfl)|(go_at_call 30;refine(HTR.o).mono ?_;rintro e z ⟨rfl,hb⟩;have HBY:=I hb;clear hb)|(go_at_call 109;refine(z02 2 _).mono ?_;rintro e z9 ⟨rfl,hzw⟩;rw[hzw];clear hzw z9))
    have HESZ:=I (HTV.o.next HBY.o)
    have HNE:Hid (w.heap.size+1≠w.heap.size+1+1):=I HESZ.o.ne
    refine leaves_cons (f:=108) (args:= #[.pointer (some ⟨w.heap.size+1,0,none⟩),.pointer (some ⟨w.heap.size+1+1,0,none⟩)]) (by simp) (by simp[go_sem]) ?_
    refine(z1a (w.heap.size+1) (w.heap.size+1+1) 2 0 33 [] _ HESZ.o.wt HESZ.o.we HNE.o).mono ?_
    rintro e u' w'' ⟨rfl,rfl,hq,hr,hb⟩
    exact⟨_,z0I rfl _ _ (w.heap.size+1) (w.heap.size+1+1) zT3 2 rfl rfl rfl hq hr,.inr ⟨2,HRES.o,by decide,rfl,HESZ.o.bel.trans (hb.below (B:=w.heap.size) HESZ.o.bel.size HESZ.o.qlo HESZ.o.rlo)⟩⟩
   |true=>
    go_wp2_with (first|((with_reducible refine za 41 _ rfl ?_ (b) (ob+j*11+2) (ct) _ rfl HCT.o Tryz.underlying41 rfl ?_ ?_);(exact wA rfl);rw[HLT.o];kernel_rfl)|(go_at_call 30;refine(HTR.o).mono ?_;rintro e z ⟨rfl,hb⟩;have HBY:=I hb;clear hb)|(go_at_call 109;refine(z0k 2 _).mono ?_;rintro e z9 ⟨rfl,hzw⟩;rw[hzw];clear hzw z9))
    go_roundg g
    case measure=>omega
    case rel=>exact⟨j+1,by omega,by go_num,HBU.o.trans (HBY.o.mono HBU.o.size),fun i v hi hv=>by
     by_cases ei:i= j
     ·subst ei
      have h:=HYY.o
      rw[hv] at h
      injection h with h
      rw[h];exact HBT.o
     ·exact HRI.o i v (by omega) hv⟩
end
section
open Go Go.RowKit P
theorem zdt {w:World} {v:Value} {l:List TT} (h:SlAt w w.heap.size 3 (TypAt w w.heap.size) v l):∃ A c,v= .slice A l.length c/\l.length<=9223372036854775807/\
  (0 < l.length->∃ b o,A= some ⟨b,o,none⟩/\b < w.heap.size/\∀ (i:Nat) x,l[i]?= some x->∃ cs:List Value,cs.length= 3/\w.rangeAt b (o+i*3) cs/\TypAt w w.heap.size cs x):=by
 obtain⟨h0,A,c,h1,h2⟩:=h
 refine⟨A,c,h1,h0,fun hp=> ?_⟩
 obtain⟨b,o,h3,h4,h5⟩:=h2 hp
 exact⟨b,o,h3,h4,fun i x hx=>h5 i x hx⟩
theorem zdm (l:List TT) (v:Value) (w:World) (hv:SlAt w w.heap.size 3 (TypAt w w.heap.size) v l)
  (hF:∀ x∈l,∀ cs z,TypAt z z.heap.size cs x->Calls Tryz.prog 52 #[.agg ⟨cs⟩] z fun e w'=>e= .returned (.bool (!z0E x))/\Below z.heap.size z w'):
  Calls Tryz.prog 74 #[v,.func (.func 52) #[] #[]] w fun e w'=>∃ i:Int,e= .returned (.int .i64 i)/\decide (0<=i)=!z0g l/\Below w.heap.size w w':=by
 obtain⟨A,c,rfl,hl,ha⟩:=zdt hv
 have HA:=I ha
 have HF:=I hF
 have hl2:(l.length:Int)<=9223372036854775807:=by omega
 clear hv hF ha
 go_enter Tryz.func74,Tryz.ntmps74
 go_wp2
 go_loopg [8] l.length (fun q x u=>∃ j:Nat,j+q= l.length/\x= .int .i64 j/\Below w.heap.size w u/\z0g (l.drop j)= z0g l)
 case atStart=>exact⟨0,by omega,rfl,Below.refl _ _,rfl⟩
 case round=>
  obtain⟨j,hj,rfl,hb,hg⟩:=hrel
  have HBK:=I hb
  have HG:=I hg
  clear hb hg
  cases gk with
  |zero=>
   obtain rfl:j= l.length:=by omega
   have hge: ¬ ((l.length:Int) <(l.length:Int)):=by omega
   go_wp2
   go_ret
   exact⟨-1,by first|rfl|simp,by rw[← HG.o,z8M];decide,HBK.o⟩
  |succ q=>
   have hlt:(j:Int) <(l.length:Int):=by omega
   obtain⟨x,hx⟩:∃ x,l[j]?= some x:=⟨_,List.getElem?_eq_getElem (by omega)⟩
   obtain⟨b,o,rfl,hbl,hc⟩:=HA.o (by omega)
   obtain⟨cs,hcl,hcs,hvx⟩:=hc j x hx
   have HR:=I (zc hcs HBK.o hbl)
   have HCL:=I hcl
   have HCF:=I (HF.o x (List.mem_of_getElem? hx) cs wr ((hvx.under HBK.o).more HBK.o.size))
   have HST:=I (z7s hx)
   clear hc hcs hvx hx hcl
   cases hg:z0E x with
   |true=>
    rw[hg] at HCF
    have HG2:Hid (z0g (l.drop (j+1))= z0g l):=I (by rw[← HG.o,HST.o,hg,Bool.true_and])
    clear hg
    go_wp2_with (first|((with_reducible refine za 41 _ rfl ?_ (b) (o+j*3) (cs) _ rfl HR.o Tryz.underlying41 rfl ?_ ?_);(exact wA rfl);rw[HCL.o];kernel_rfl)|(go_at_call 52;refine HCF.o.mono ?_;rintro e y ⟨rfl,hb⟩;have HBY:=I hb;clear hb))
    go_roundg q
    case measure=>omega
    case rel=>exact⟨j+1,by omega,by go_num,HBK.o.trans (HBY.o.mono HBK.o.size),HG2.o⟩
   |false=>
    rw[hg] at HCF
    have HG2:Hid (z0g l= false):=I (by rw[← HG.o,HST.o,hg,Bool.false_and])
    clear hg
    go_wp2_with (first|((with_reducible refine za 41 _ rfl ?_ (b) (o+j*3) (cs) _ rfl HR.o Tryz.underlying41 rfl ?_ ?_);(exact wA rfl);rw[HCL.o];kernel_rfl)|(go_at_call 52;refine HCF.o.mono ?_;rintro e y ⟨rfl,hb⟩;have HBY:=I hb;clear hb))
    go_ret
    exact⟨j,by first|rfl|simp,by rw[HG2.o];simp,HBK.o.trans (HBY.o.mono HBK.o.size)⟩
theorem zam : ∀ (t : TT) (cs : List Value) (b o : Nat) (w : World), w.rangeAt b o cs -> b < w.heap.size -> TypAt w w.heap.size cs t ->
    Calls Tryz.prog 31 #[.pointer (some ⟨b, o, none⟩)] w fun e w' => e = .returned (.bool (z0E t)) /\ Below w.heap.size w w' := by
  intro t
  induction t using TT.ind with
  | h k ns its ih =>
    intro cs b o w hr hb hv
    obtain ⟨vn, vi, rfl, _, _, _, hi⟩ := hv.inv
    have HIT := I hi
    have d0 : w.cell? ⟨b, o, none⟩ = some (.int .i64 k) := hr 0 _ rfl
    have d2 : w.cell? ⟨b, o + 2, none⟩ = some vi := hr 2 _ rfl
    have HG : Hid (z0E (.mk k ns its) = (!(k == 7) && z0g its)) := I (by rw [z0E])
    generalize z0E (.mk k ns its) = res at HG ⊢
    obtain ⟨_, A, c, rfl, _⟩ := id hi
    clear hi hv hr
    by_cases h7 : k = 7
    · subst h7
      go_enter Tryz.func31, Tryz.ntmps31
      go_wp2
      go_ret
      exact ⟨zb HG.o.symm, Below.refl _ _⟩
    have h7b : (k != 7) = true := by simpa using h7
    have HG2 : Hid (res = z0g its) := I (by rw [HG.o, (beq_eq_false_iff_ne.2 h7 : (k == 7) = false)]; rfl)
    have hclo : ∀ x ∈ its, ∀ cs z, TypAt z z.heap.size cs x -> Calls Tryz.prog 52 #[.agg ⟨cs⟩] z fun e w' => e = .returned (.bool (!z0E x)) /\ Below z.heap.size z w' := by
      intro x hx cs z hz
      have HB1 := I (zd z (.cells ⟨cs⟩ 41))
      have HIH := I (ih x hx cs z.heap.size 0 (z.alloc (.cells ⟨cs⟩ 41)) (zD z cs 41) (zL z _) (hz.next (zd z _)))
      clear ih hz hx HG HG2 HIT
      go_enter Tryz.func52, Tryz.ntmps52
      go_wp2_with (go_at_call 31; refine HIH.o.mono ?_; rintro e y ⟨rfl, hb⟩; have HBY := I hb; clear hb)
      go_ret
      exact ⟨rfl, HB1.o.trans (HBY.o.mono HB1.o.size)⟩
    have HIX := I (zdm its (.slice A its.length c) w HIT.o hclo)
    clear ih hclo HG
    have HCF : Hid (Calls Tryz.prog 51 #[.slice A its.length c, .func (.func 52) #[] #[]] w fun e w' => e = .returned (.bool (!z0g its)) /\ Below w.heap.size w w') := I (by
      clear d0 d2 h7b HG2
      go_enter Tryz.func51, Tryz.ntmps51
      go_wp2_with (go_at_call 74; refine HIX.o.mono ?_; rintro e y ⟨i, rfl, hi, hb⟩; have HBY := I hb; have HI := I hi; clear hb hi)
      go_ret
      exact ⟨zb HI.o, HBY.o⟩)
    clear HIX
    go_enter Tryz.func31, Tryz.ntmps31
    go_wp2_with (go_at_call 51; refine HCF.o.mono ?_; rintro e y ⟨rfl, hb⟩; have HBY := I hb; clear hb)
    go_ret
    exact ⟨zb (by rw [HG2.o]), HBY.o⟩
theorem z1i (t:TT) (cs:List Value) (w:World) (hv:TypAt w w.heap.size cs t):Calls Tryz.prog 11 #[.agg ⟨cs⟩] w fun e w'=>e= .returned (.bool (z0j t))/\Below w.heap.size w w':=by
 have HV:=I hv
 have HCL:=I (zk hv).1
 clear hv
 go_enter Tryz.func11,Tryz.ntmps11
 go_upto_region 1 with (fail)
 have HB:=I (zd w (.cells ⟨cs⟩ 41))
 have HW:=I (Whole.new w cs 41)
 generalize w.alloc (.cells ⟨cs⟩ 41)= W at*
 have HVW:=I (HV.o.next HB.o)
 have HTR0:=I (z0C t cs W HVW.o)
 obtain⟨bt,hbt⟩:∃ b,typeT t= b:=⟨_,rfl⟩
 have HTR:Hid (Calls Tryz.prog 30 #[.agg ⟨cs⟩] W fun e w'=>e= .returned (.bool bt)/\Below W.heap.size W w'):=I (by rw[← hbt];exact HTR0.o)
 have HGW:Hid (z0j t=(bt && z0E t)):=I (by rw[← hbt];rfl)
 clear hbt HTR0
 cases bt with
 |false=>
  go_wp2_with (first|((with_reducible refine za 41 _ rfl ?_ (w.heap.size) (0) (cs) _ rfl HW.o.range Tryz.underlying41 rfl ?_ ?_);(exact wA rfl);rw[HCL.o];kernel_rfl)|(go_at_call 30;refine HTR.o.mono ?_;rintro e y ⟨rfl,hb⟩;have HBY:=I hb;clear hb))
  go_ret
  exact⟨zb HGW.o.symm,HB.o.trans (HBY.o.mono HB.o.size)⟩
 |true=>
  have HGR:Hid (∀ y,Below W.heap.size W y->Calls Tryz.prog 31 #[.pointer (some ⟨w.heap.size,0,none⟩)] y fun e w'=>e= .returned (.bool (z0E t))/\Below y.heap.size y w'):=I fun y hy=>zam t cs w.heap.size 0 y (HW.o.keep (hy.block _ HW.o.lt)).range (Nat.lt_of_lt_of_le HW.o.lt hy.size) (HVW.o.next hy)
  go_wp2_with (first|((with_reducible refine za 41 _ rfl ?_ (w.heap.size) (0) (cs) _ rfl HW.o.range Tryz.underlying41 rfl ?_ ?_);(exact wA rfl);rw[HCL.o];kernel_rfl)|(go_at_call 30;refine HTR.o.mono ?_;rintro e y ⟨rfl,hb⟩;have HBY:=I hb;have HGY:=I (HGR.o y hb);clear hb)|(go_at_call 31;refine HGY.o.mono ?_;rintro e x ⟨rfl,hb⟩;have HBX:=I hb;clear hb))
  go_ret
  exact⟨zb (by rw[HGW.o,Bool.true_and]),HB.o.trans ((HBY.o.trans (HBX.o.mono HBY.o.size)).mono HB.o.size)⟩
theorem z6F (s:ByteArray) (w:World):Calls Tryz.prog 42 #[.string s] w fun e w'=>e= .returned (.bool (nameW s))/\Below w.heap.size w w':=by
 have HN0:=I (z4U s w)
 obtain⟨b1,hb1⟩:∃ b,nameB s= b:=⟨_,rfl⟩
 have HN:Hid (Calls Tryz.prog 59 #[.string s] w fun e w'=>e= .returned (.bool b1)/\Below w.heap.size w w'):=I (hb1▸HN0.o)
 have HR:Hid (nameW s=(b1 && !wordB s)):=I (by rw[← hb1];rfl)
 clear hb1 HN0
 go_enter Tryz.func42,Tryz.ntmps42
 cases b1 with
 |false=>
  go_wp2_with (go_at_call 59;refine HN.o.mono ?_;rintro e y ⟨rfl,hb⟩;have HBY:=I hb;clear hb)
  go_ret
  exact⟨zb HR.o.symm,HBY.o⟩
 |true=>
  go_wp2_with (first|(go_at_call 59;refine HN.o.mono ?_;rintro e y ⟨rfl,hb⟩;have HBY:=I hb;clear hb)|(go_at_call 60;refine(z6O s _).mono ?_;rintro e z ⟨rfl,hzw⟩;rw[hzw];clear hzw z))
  go_ret
  exact⟨zb (by rw[HR.o,Bool.true_and]),HBY.o⟩
theorem z83 (n most:Int) (must:Bool) (w:World):Calls Tryz.prog 68 #[.int .i64 n,.bool must,.int .i64 most] w fun e w'=>e= .returned (.bool (numB n must most))/\w'= w:=by
 have HR:Hid (numB n must most= if must then decide (0<=n) && decide (n < most) else n == -1):=I rfl
 cases must with
 |false=>
  go_enter Tryz.func68,Tryz.ntmps68
  go_wp2
  go_ret
  exact⟨zb HR.o.symm,rfl⟩
 |true=>
  cases h0:decide (0<=n) with
  |false=>
   have h0': ¬ 0<=n:=by simpa using h0
   go_enter Tryz.func68,Tryz.ntmps68
   go_wp2
   go_ret
   exact⟨zb (by rw[HR.o];simp[h0'];try (intros;omega)),rfl⟩
  |true=>
   have h0':0<=n:=by simpa using h0
   go_enter Tryz.func68,Tryz.ntmps68
   go_wp2
   go_ret
   exact⟨zb (by rw[HR.o];simp[h0'];try (intros;omega)),rfl⟩
theorem zaf:(Tryz.prog.info? 37).map (fun i=>(i.zero,i.size,i.bytes))= some (some (.agg #[.int .i64 0,.int .i64 0]),2,16):=by kernel_rfl
theorem z5Z (cb:Nat) (r a:Int) (w:World):Calls Tryz.prog 21 #[.pointer (some ⟨cb,0,none⟩),.bool true,.int .i64 r,.int .i64 a] w fun e w'=>e= .returned (.tuple #[])/\w'= w:=by
 go_enter Tryz.func21,Tryz.ntmps21
 go_wp2
 refine bodyPost_end (results_none rfl _ _ _) rfl ?_
 exact⟨rfl,rfl⟩
theorem Ck.cells {TC TF:TypeId} {W u:World} {cb:Nat} {mp lp lv:Value} {L:List zT} (h:Ck TC TF W u cb mp lp lv L):u.rangeAt cb 0 [mp,lp,lv]/\cb < u.heap.size/\∀ j,j < 3->u.frozen? ⟨cb,j,none⟩= false:=by
 have hw:Whole TC u cb [mp,lp,lv]:=h.box
 exact⟨hw.range,hw.lt,fun j hj=>hw.frozV (j:=j) hj⟩
theorem z3W {W u:World} {cb:Nat} {mp lp lv:Value} {L:List zT} (h:Ck 71 37 W u cb mp lp lv L) (hL:L.length<=1000) (r a:Int):
  Calls Tryz.prog 21 #[.pointer (some ⟨cb,0,none⟩),.bool false,.int .i64 r,.int .i64 a] u fun e u'=>e= .returned (.tuple #[])/\∃ lv',Ck 71 37 W u' cb mp lp lv' (L ++ [(r,a)])/\CkStep cb u u' lv lv':=by
 obtain⟨FA,fc,rfl⟩:=z0x h.own
 obtain⟨hr,hlt,hfz⟩:=h.cells
 have HC:=I h
 have d2:u.cell? ⟨cb,2,none⟩= some (.slice FA L.length fc):=hr 2 _ rfl
 have HW:Hid (Whole 71 u cb [mp,lp,.slice FA L.length fc]):=I h.box
 obtain⟨jf,hi,hy0,hy1,hy2⟩:=zX zaf
 have HT0:=I hi
 have HT1:=I hy0
 have HT2:=I hy1
 have HT3:=I hy2
 have HB7:=I (zd u (.cells ⟨encF (r,a)⟩ 37))
 have HC7:Hid (∀ i v,(encF (r,a))[i]?= some v->(u.alloc (.cells ⟨encF (r,a)⟩ 37)).cell? ⟨u.heap.size,i,none⟩= some v):=I (z16 u (encF (r,a)) 37)
 have HOW:Hid (OwnSl 37 2 encF (u.alloc (.cells ⟨encF (r,a)⟩ 37)) W.heap.size (.slice FA L.length fc) L):=I (h.own.below HB7.o)
 have HS7:Hid (W.heap.size<=(u.alloc (.cells ⟨encF (r,a)⟩ 37)).heap.size):=I (Nat.le_trans h.step.size HB7.o.size)
 have HM63:Hid (L.length+1<=maxLen):=I (by unfold maxLen;omega)
 have HM88:Hid ((L.length+1) *16<=140737488355328):=I (by omega)
 have HCB:Hid (cb < W.heap.size):=I h.lt
 have HLT:=I hlt
 clear h hr hfz hi hy0 hy1 hy2 hlt
 go_enter Tryz.func21,Tryz.ntmps21
 go_wp2_with (first|((with_reducible refine z1u 30 _ rfl ?_ 37 jf _ (encF (r,a)) ?_ Tryz.underlying30 HT0.o HT1.o ?_ ?_ ?_ ?_);(exact wA rfl);rfl;exact HT2.o;decide;decide)|(at_builtin;(refine z2o rfl _ _ 30 rfl W.heap.size 37 jf _ 2 16 encF Tryz.underlying30 HT0.o HT1.o HT2.o HT3.o rfl (by decide) z3m (.slice FA L.length fc) L rfl HOW.o u.heap.size 1 (r,a) (zd1 (r,a)) rfl HC7.o HM63.o HM88.o HS7.o ?_;intro v' u8 hown hg hblk;have HG8:=I (z8x HB7.o hg);have hcn:some cb≠(Value.slice FA L.length fc).ownBlock:=(fun e=>by have:=HOW.o.block e.symm;have:=HCB.o;omega);have HW8:=I (HW.o.keep (HG8.o.block cb HLT.o hcn));obtain⟨XA,xc,rfl⟩:=z0x hown;have HBK8:Hid ((Value.slice XA (L.length+1) xc).ownBlock=(Value.slice FA L.length fc).ownBlock\/(Value.slice XA (L.length+1) xc).ownBlock= some (u.alloc (.cells ⟨encF (r,a)⟩ 37)).heap.size):=I (by have h:=hblk;rw[List.length_append] at h;exact h);have HOW8:Hid (OwnSl 37 2 encF u8 W.heap.size (.slice XA (L.length+1) xc) (L ++ [(r,a)])):=I (by have h:=hown;rw[List.length_append] at h;exact h);have d5:u8.cell? ⟨cb,2,none⟩= some (.slice FA L.length fc):=HW8.o.range 2 _ rfl;have f5:u8.frozen? ⟨cb,2,none⟩= false:=HW8.o.frozV (j:=2) (show 2 < 3 by decide);clear hown hg hblk hcn)))
 refine bodyPost_end (results_none rfl _ _ _) rfl ?_
 refine⟨rfl,.slice XA (L.length+1) xc,?_,?_⟩
 ·have hbut:=But.set1 u8 cb cb 2 (.slice XA (L.length+1) xc)
  refine⟨?_,?_,?_,HCB.o⟩
  ·exact Whole.putM (pre:=[mp,lp]) (post:=[]) HW8.o
  ·refine World.ownsRow.kept HOW8.o (row:=some cb) ⟨hbut.os,hbut.tape,hbut.output,hbut.size,fun i hi hne=>hbut.block i hi (fun e=>hne (by rw[e])) (fun e=>hne (by rw[e]))⟩ ?_
   exact .inr fun e=>by have:=HOW8.o.block e;have:=HCB.o;omega
  ·exact HC.o.step.trans (⟨(But.set1 u8 cb cb 2 (.slice XA (L.length+1) xc)).os.trans HG8.o.os,(But.set1 u8 cb cb 2 (.slice XA (L.length+1) xc)).tape.trans HG8.o.tape,(But.set1 u8 cb cb 2 (.slice XA (L.length+1) xc)).output.trans HG8.o.output,Nat.le_trans HG8.o.size (But.set1 u8 cb cb 2 (.slice XA (L.length+1) xc)).size,fun b hb h1 h2=>((But.set1 u8 cb cb 2 (.slice XA (L.length+1) xc)).block b (Nat.lt_of_lt_of_le hb HG8.o.size) h1 h1).trans (HG8.o.block b hb h2),HBK8.o.imp id fun e=>⟨_,e,HB7.o.size⟩⟩:CkStep cb u _ (.slice FA L.length fc) (.slice XA (L.length+1) xc))
 ·exact(⟨(But.set1 u8 cb cb 2 (.slice XA (L.length+1) xc)).os.trans HG8.o.os,(But.set1 u8 cb cb 2 (.slice XA (L.length+1) xc)).tape.trans HG8.o.tape,(But.set1 u8 cb cb 2 (.slice XA (L.length+1) xc)).output.trans HG8.o.output,Nat.le_trans HG8.o.size (But.set1 u8 cb cb 2 (.slice XA (L.length+1) xc)).size,fun b hb h1 h2=>((But.set1 u8 cb cb 2 (.slice XA (L.length+1) xc)).block b (Nat.lt_of_lt_of_le hb HG8.o.size) h1 h1).trans (HG8.o.block b hb h2),HBK8.o.imp id fun e=>⟨_,e,HB7.o.size⟩⟩:CkStep cb u _ (.slice FA L.length fc) (.slice XA (L.length+1) xc))
end
section
open Go Go.RowKit P
structure CkS (m:ModelT) (mb lb n:Nat) (R:Rel) (w0:World) (OA GA VA MA NA:Option Addr) (oc gc vc mc nc:Nat):Prop where
 range:w0.rangeAt mb 0 [.int .i64 m.labels,.slice OA m.order.length oc,.slice GA m.grants.length gc,.slice VA m.vars.length vc,.slice MA m.msgs.length mc,.slice NA m.nodes.length nc]
 lt:mb < w0.heap.size
 grants:SlAt w0 w0.heap.size 2 PairR (.slice GA m.grants.length gc) m.grants
 vars:SlAt w0 w0.heap.size 11 (VarAt w0 w0.heap.size) (.slice VA m.vars.length vc) m.vars
 msgs:SlAt w0 w0.heap.size 8 (MsgAt w0 w0.heap.size) (.slice MA m.msgs.length mc) m.msgs
 nodes:SlAt w0 w0.heap.size 29 (NodeAt w0 w0.heap.size) (.slice NA m.nodes.length nc) m.nodes
 lat:LatR w0 lb n R
 tab:TabP w0
 few:m.vars.length<=1000/\m.msgs.length<=1000/\m.grants.length<=1000/\m.nodes.length<=1000
structure CkD (mb lb:Nat) (w0:World) (cb:Nat) (u:World):Prop where
 bel:Below w0.heap.size w0 u
 c0:u.cell? ⟨cb,0,none⟩= some (.pointer (some ⟨mb,0,none⟩))
 c1:u.cell? ⟨cb,1,none⟩= some (.pointer (some ⟨lb,0,none⟩))
 lt:cb < u.heap.size
theorem CkD.next {mb lb:Nat} {w0:World} {cb:Nat} {u u':World} (h:CkD mb lb w0 cb u) (hb:Below u.heap.size u u'):CkD mb lb w0 cb u':=
 ⟨h.bel.trans (hb.mono h.bel.size),(hb.cell (p:=⟨cb,0,none⟩) h.lt).trans h.c0,(hb.cell (p:=⟨cb,1,none⟩) h.lt).trans h.c1,Nat.lt_of_lt_of_le h.lt hb.size⟩
section
variable {m:ModelT} {mb lb n:Nat} {R:Rel} {w0 u:World} {OA GA VA MA NA:Option Addr} {oc gc vc mc nc cb:Nat}
theorem CkS.cell (h:CkS m mb lb n R w0 OA GA VA MA NA oc gc vc mc nc) (hb:Below w0.heap.size w0 u) {j:Nat} {v:Value} (hv:([.int .i64 m.labels,.slice OA m.order.length oc,.slice GA m.grants.length gc,.slice VA m.vars.length vc,.slice MA m.msgs.length mc,.slice NA m.nodes.length nc]:List Value)[j]?= some v):u.cell? ⟨mb,j,none⟩= some v:=by
 have:=(hb.cell (p:=⟨mb,0+j,none⟩) h.lt).trans (h.range j v hv)
 rwa [Nat.zero_add] at this
end
structure NdF (w0:World) (nb no:Nat) (x:NodeT) (XA CA:Option Addr) (xc cc:Nat) (ce cb:List Value):Prop where
 rng:∀ u,Below w0.heap.size w0 u->u.rangeAt nb no ([.int .i64 x.kind,.int .i64 x.label,.slice XA x.next.length xc,.slice CA x.conds.length cc] ++ ce ++ cb ++ [.int .i64 x.var,.int .i64 x.msg,.int .i64 x.catch_,.int .i64 x.wait,.int .i64 x.from_])
 lce:ce.length= 10
 lcb:cb.length= 10
 expr:ExpAt w0 w0.heap.size ce x.expr
 body:ExpAt w0 w0.heap.size cb x.body
 next:SlAt w0 w0.heap.size 1 IntR (.slice XA x.next.length xc) x.next
 conds:SlAt w0 w0.heap.size 10 (ExpAt w0 w0.heap.size) (.slice CA x.conds.length cc) x.conds
 lt:nb < w0.heap.size
theorem zcj {w0:World} {nb no:Nat} {ks:List Value} {x:NodeT} (hr:w0.rangeAt nb no ks) (hn:NodeAt w0 w0.heap.size ks x) (hl:nb < w0.heap.size):∃ XA CA xc cc ce cb,NdF w0 nb no x XA CA xc cc ce cb:=by
 obtain⟨⟨vn,vc,ce,cb,rfl,h1,h2,h3,h4,h5,h6,h7⟩,_⟩:=hn
 obtain⟨-,XA,xc,rfl, -⟩:=id h3
 obtain⟨-,CA,cc,rfl, -⟩:=id h4
 exact⟨XA,CA,xc,cc,ce,cb,fun u hu=>zc hr hu hl,h1,h2,h6,h7,h3,h4,hl⟩
section
variable {w0 u:World} {nb no:Nat} {x:NodeT} {XA CA:Option Addr} {xc cc:Nat} {ce cb:List Value}
theorem NdF.c0 (h:NdF w0 nb no x XA CA xc cc ce cb) (hu:Below w0.heap.size w0 u):u.cell? ⟨nb,no,none⟩= some (.int .i64 x.kind):=h.rng u hu 0 _ rfl
theorem NdF.c1 (h:NdF w0 nb no x XA CA xc cc ce cb) (hu:Below w0.heap.size w0 u):u.cell? ⟨nb,no+1,none⟩= some (.int .i64 x.label):=h.rng u hu 1 _ rfl
theorem NdF.c2 (h:NdF w0 nb no x XA CA xc cc ce cb) (hu:Below w0.heap.size w0 u):u.cell? ⟨nb,no+2,none⟩= some (.slice XA x.next.length xc):=h.rng u hu 2 _ rfl
theorem NdF.c3 (h:NdF w0 nb no x XA CA xc cc ce cb) (hu:Below w0.heap.size w0 u):u.cell? ⟨nb,no+3,none⟩= some (.slice CA x.conds.length cc):=h.rng u hu 3 _ rfl
theorem NdF.tail (h:NdF w0 nb no x XA CA xc cc ce cb) (hu:Below w0.heap.size w0 u) {j:Nat} {v:Value} (hv:([.int .i64 x.var,.int .i64 x.msg,.int .i64 x.catch_,.int .i64 x.wait,.int .i64 x.from_]:List Value)[j]?= some v):u.cell? ⟨nb,no+24+j,none⟩= some v:=by
 have:=h.rng u hu (24+j) v (by
  rw[List.getElem?_append_right (by simp[h.lce,h.lcb]<;>omega)]
  simp only[List.length_append,List.length_cons,List.length_nil,h.lce,h.lcb]
  rw[show 24+j - (0+1+1+1+1+10+10)= j by omega]
  exact hv)
 rwa [show no+ (24+j)= no+24+j by omega] at this
theorem NdF.c24 (h:NdF w0 nb no x XA CA xc cc ce cb) (hu:Below w0.heap.size w0 u):u.cell? ⟨nb,no+24,none⟩= some (.int .i64 x.var):=h.tail hu (j:=0) rfl
theorem NdF.c25 (h:NdF w0 nb no x XA CA xc cc ce cb) (hu:Below w0.heap.size w0 u):u.cell? ⟨nb,no+25,none⟩= some (.int .i64 x.msg):=h.tail hu (j:=1) rfl
theorem NdF.c26 (h:NdF w0 nb no x XA CA xc cc ce cb) (hu:Below w0.heap.size w0 u):u.cell? ⟨nb,no+26,none⟩= some (.int .i64 x.catch_):=h.tail hu (j:=2) rfl
theorem NdF.c27 (h:NdF w0 nb no x XA CA xc cc ce cb) (hu:Below w0.heap.size w0 u):u.cell? ⟨nb,no+27,none⟩= some (.int .i64 x.wait):=h.tail hu (j:=3) rfl
theorem NdF.c28 (h:NdF w0 nb no x XA CA xc cc ce cb) (hu:Below w0.heap.size w0 u):u.cell? ⟨nb,no+28,none⟩= some (.int .i64 x.from_):=h.tail hu (j:=4) rfl
theorem NdF.rce (h:NdF w0 nb no x XA CA xc cc ce cb) (hu:Below w0.heap.size w0 u):u.rangeAt nb (no+4) ce:=fun j v hv=>by
 have:=h.rng u hu (4+j) v (by
  rw[List.append_assoc,List.append_assoc,List.getElem?_append_right (by simp)]
  simp only[List.length_cons,List.length_nil]
  rw[show 4+j - (0+1+1+1+1)= j by omega,List.getElem?_append_left (List.getElem?_eq_some_iff.1 hv).1]
  exact hv)
 rwa [show no+ (4+j)= no+4+j by omega] at this
theorem NdF.rcb (h:NdF w0 nb no x XA CA xc cc ce cb) (hu:Below w0.heap.size w0 u):u.rangeAt nb (no+14) cb:=fun j v hv=>by
 have hj:=(List.getElem?_eq_some_iff.1 hv).1
 have:=h.rng u hu (14+j) v (by
  rw[List.append_assoc,List.getElem?_append_right (by simp[h.lce]<;>omega)]
  simp only[List.length_append,List.length_cons,List.length_nil,h.lce]
  rw[show 14+j - (0+1+1+1+1+10)= j by omega,List.getElem?_append_left hj]
  exact hv)
 rwa [show no+ (14+j)= no+14+j by omega] at this
end
section
variable {m:ModelT} {mb lb n:Nat} {R:Rel} {w0 u:World} {OA GA VA MA NA:Option Addr} {oc gc vc mc nc cb:Nat}
theorem z1b (hs:CkS m mb lb n R w0 OA GA VA MA NA oc gc vc mc nc) (hd:CkD mb lb w0 cb u) (a:Int):Calls Tryz.prog 24 #[.pointer (some ⟨cb,0,none⟩),.int .i64 a] u fun e u'=>e= .returned (.bool (lqI n R a a))/\u'= u:=by
 have d1:=hd.c1
 have HL:=I (hs.lat.below hd.bel hs.lat.lt)
 have HQ:=I (leq_r HL.o a a)
 obtain⟨r,hr⟩:∃ r,lqI n R a a= r:=⟨_,rfl⟩
 rw[hr] at HQ
 rw[hr]
 clear hs hd HL hr
 go_enter Tryz.func24,Tryz.ntmps24
 go_wp2_with (go_at_call 44;refine HQ.o.mono ?_;rintro e z ⟨rfl,hzw⟩;rw[← hzw];clear hzw z)
 go_ret
 exact⟨rfl,rfl⟩
theorem z7V (hs:CkS m mb lb n R w0 OA GA VA MA NA oc gc vc mc nc) (hd:CkD mb lb w0 cb u) (z:Int):Calls Tryz.prog 82 #[.pointer (some ⟨cb,0,none⟩),.int .i64 z] u fun e u'=>e= .returned (.bool (wayB m.nodes z))/\u'= u:=by
 have d0:=hd.c0
 have d5:=hs.cell hd.bel (j:=5) rfl
 have HND:=I hs.nodes
 have HB:=I hd.bel
 have hfew:=hs.few.2.2.2
 obtain⟨r,hr⟩:∃ r,wayB m.nodes z= r:=⟨_,rfl⟩
 have HR:=I hr
 rw[hr]
 clear hs hd hr
 by_cases h0:0<=z
 case neg=>
  have HV:Hid (r= false):=I (by rw[← HR.o];unfold wayB;simp[h0])
  go_enter Tryz.func82,Tryz.ntmps82
  go_wp2
  go_ret
  exact⟨zb HV.o.symm,rfl⟩
 obtain⟨j,rfl⟩:∃ j:Nat,z=(j:Int):=⟨z.toNat,by omega⟩
 by_cases h1:j < m.nodes.length
 case neg=>
  have HV:Hid (r= false):=I (by rw[← HR.o];unfold wayB;simp;omega)
  have h1': ¬ (j:Int) <(m.nodes.length:Int):=by omega
  go_enter Tryz.func82,Tryz.ntmps82
  go_wp2
  go_ret
  exact⟨zb HV.o.symm,rfl⟩
 obtain⟨x,hx⟩:∃ x,m.nodes[j]?= some x:=⟨_,List.getElem?_eq_getElem h1⟩
 have hxg:m.nodes[j]= x:=by have h:=List.getElem?_eq_getElem h1;rw[hx] at h;injection h with h;exact h.symm
 have HV:Hid (r=!(x.kind ==1)):=I (by rw[← HR.o];unfold wayB;simp[hxg,h1])
 obtain⟨_,NA',nc',e1,hnd⟩:=HND.o
 injection e1 with e1 e2 e3
 subst e1 e3
 obtain⟨nb,no,rfl,hlt,hc⟩:=hnd (by omega)
 obtain⟨ks,_,hks,hno⟩:=hc j x hx
 obtain⟨XA,CA,xc,cc,ce,cbx,hf⟩:=zcj hks hno hlt
 have d6:=hf.c0 HB.o
 have h1':(j:Int) <(m.nodes.length:Int):=by omega
 clear hf hks hno hc hnd e2 hx HND
 obtain⟨k,hk⟩:∃ k,x.kind= k:=⟨_,rfl⟩
 rw[hk] at d6 HV
 clear hk
 go_enter Tryz.func82,Tryz.ntmps82
 go_wp2
 go_ret
 exact⟨zb (by rw[HV.o];rfl),rfl⟩
end
theorem Need.len (d:Need):(encNd d).length= 9:=rfl
theorem Need.one (d:Need):∀ v∈encNd d,v.oneCell'= true:=by
 intro v hv
 simp only[encNd,List.mem_cons,List.not_mem_nil,or_false] at hv
 rcases hv with rfl|rfl|rfl|rfl|rfl|rfl|rfl|rfl|rfl<;>rfl
theorem za1 {w0 u:World} {nb no:Nat} {x:NodeT} {XA CA:Option Addr} {xc cc:Nat} {ce cb:List Value} (h:NdF w0 nb no x XA CA xc cc ce cb) (hb:Below w0.heap.size w0 u) (d:Need):
  Calls Tryz.prog 66 #[.pointer (some ⟨nb,no,none⟩),.agg ⟨encNd d⟩] u fun e u'=>e= .returned (.bool (z2T x d))/\Below u.heap.size u u':=by
 have HB:=I (zd u (.cells ⟨encNd d⟩ 112))
 have HW:=I (Whole.new u (encNd d) 112)
 have HBB:=I (hb.trans (HB.o.mono hb.size))
 have d0:=h.c0 HBB.o
 have d9:=h.c27 HBB.o
 have d8:=h.c26 HBB.o
 have HR:Hid (z2T x d=(decide (0<=x.wait) && (decide (x.wait<=1000) && (if x.kind= 7 then(decide (0 < x.wait) ==decide (0<=x.catch_)) else(decide (0 < x.wait) ==(d.wait ==2)))))):=I rfl
 generalize z2T x d= r at HR ⊢
 obtain⟨wt,hwt⟩:∃ k,x.wait= k:=⟨_,rfl⟩
 obtain⟨kd,hkd⟩:∃ k,x.kind= k:=⟨_,rfl⟩
 obtain⟨ct,hct⟩:∃ k,x.catch_= k:=⟨_,rfl⟩
 rw[hwt] at HR d9
 rw[hkd] at HR d0
 rw[hct] at HR d8
 clear h hb HBB hwt hkd hct
 go_enter Tryz.func66,Tryz.ntmps66
 go_upto_region 1 with (fail)
 have e8:(u.alloc (.cells ⟨encNd d⟩ 112)).cell? ⟨u.heap.size,8,none⟩= some (.int .i64 d.wait):=HW.o.range 8 _ rfl
 generalize u.alloc (.cells ⟨encNd d⟩ 112)= W at*
 by_cases h1:wt < 0
 ·have HV:Hid (r= false):=I (by rw[HR.o];have h3: ¬ 0<=wt:=(by omega);simp[h3])
  go_wp2
  go_ret
  exact⟨zb HV.o.symm,HB.o⟩
 by_cases h2:1000 < wt
 ·have HV:Hid (r= false):=I (by rw[HR.o];have h3: ¬ wt<=1000:=(by omega);simp[h3])
  go_wp2
  go_ret
  exact⟨zb HV.o.symm,HB.o⟩
 have h1b:decide (wt < 0)= false:=by simpa using h1
 have h2b:decide (1000 < wt)= false:=by simpa using h2
 by_cases h7:kd= 7
 ·subst h7
  have HV:Hid (r=(decide (0 < wt) ==decide (0<=ct))):=I (by rw[HR.o];have h3:0<=wt:=(by omega);have h4:wt<=1000:=(by omega);simp[h3,h4])
  go_upto_region 4 with (fail)
  go_quiet (fail)
  go_wp2
  go_ret
  exact⟨zb (by rw[HV.o]),zj HB.o _⟩
 ·have h7b:(kd ==7)= false:=by rw[beq_eq_false_iff_ne];exact h7
  have HV:Hid (r=(decide (0 < wt) ==(d.wait ==2))):=I (by rw[HR.o];have h3:0<=wt:=(by omega);have h4:wt<=1000:=(by omega);simp[h3,h4,h7])
  go_upto_region 5 with (fail)
  go_quiet (fail)
  go_wp2
  go_ret
  exact⟨zb (by rw[HV.o]),zj HB.o _⟩
def zE10:List Value:=[.int .i64 0,.string ⟨#[]⟩,.int .i64 0,.int .i64 0,.float .f64 0,.string ⟨#[]⟩,.slice none 0 0,.slice none 0 0,.slice none 0 0,.slice none 0 0]
theorem ez_at (w:World) (B:Nat):ExpAt w B zE10 ez:=ExpAt.of (zx 0 (by decide +kernel)) (Nat.zero_le _) (ValAt.of (zx 0 (by decide +kernel)) (zx 0 (by decide +kernel)) (by decide +kernel) (Nat.zero_le _) (SlAt.nil _ _ _ _) (Nat.zero_le _) (SlAt.nil _ _ _ _)) (SlAt.nil _ _ _ _) (Nat.zero_le _) (SlAt.nil _ _ _ _)
theorem zeI {w:World} {B:Nat} {c0 c1 c2 c3 c4 c5:Value} {v:VT} (h:ValAt w B [c0,c1,c2,c3,c4,c5] v):ExpAt w B [.int .i64 2,.string ⟨#[120]⟩,c0,c1,c2,c3,c4,c5,.slice none 0 0,.slice none 0 0] (.mk 2 ⟨#[120]⟩ v [] []):=
 ExpAt.of (zx 2 (by decide +kernel)) (by decide +kernel) h (SlAt.nil _ _ _ _) (Nat.zero_le _) (SlAt.nil _ _ _ _)
theorem z5O (x:ET) (ce:List Value) (b o:Nat) (u:World) (must:Bool) (hr:u.rangeAt b o ce) (hb:b < u.heap.size) (hx:ExpAt u u.heap.size ce x):
  Calls Tryz.prog 67 #[.pointer (some ⟨b,o,none⟩),.bool must] u fun e u'=>e= .returned (.bool (z0Q x must))/\Below u.heap.size u u':=by
 cases x with
 |mk k s v ns its=>
 have HX:=I hx
 have HS:=I (zbk (.mk k s v ns its) ez ce zE10 u hx (ez_at _ _))
 obtain⟨c0,c1,c2,c3,c4,c5,vn,vi,rfl,_,_,hv,_⟩:=ExpAt.inv hx
 have HVX:=I hv
 have HLB:=I hb
 have HRG:=I hr
 have HL10:Hid (([.int .i64 k,.string s,c0,c1,c2,c3,c4,c5,vn,vi]:List Value).length= 10):=I rfl
 have HL6:Hid (([c0,c1,c2,c3,c4,c5]:List Value).length= 6):=I rfl
 have d0:u.cell? ⟨b,o,none⟩= some (.int .i64 k):=hr 0 _ rfl
 have HR:Hid (z0Q (.mk k s v ns its) must= if must then !(k ==0) else sameE (.mk k s v ns its) ez && z0i (.mk 2 ⟨#[120]⟩ v [] [])):=I rfl
 generalize z0Q (.mk k s v ns its) must= r at HR ⊢
 clear hx hv hb hr
 cases must with
 |true=>
  have HV:Hid (r=!(k ==0)):=I (by rw[HR.o];rfl)
  go_enter Tryz.func67,Tryz.ntmps67
  go_wp2
  go_ret
  exact⟨zb (by rw[HV.o];rfl),Below.refl _ _⟩
 |false=>
  obtain⟨b1,hb1⟩:∃ b1,sameE (.mk k s v ns its) ez= b1:=⟨_,rfl⟩
  rw[hb1] at HS HR
  clear hb1
  have HS2:Hid (Calls Tryz.prog 83 #[.agg ⟨[.int .i64 k,.string s,c0,c1,c2,c3,c4,c5,vn,vi]⟩,.agg ⟨zE10⟩] u fun e u'=>e= .returned (.bool b1)/\Below u.heap.size u u'):=HS
  cases b1 with
  |false=>
   have HV:Hid (r= false):=I (by rw[HR.o];rfl)
   go_enter Tryz.func67,Tryz.ntmps67
   go_wp2_with (first|((with_reducible refine za 54 _ rfl ?_ (b) (o) ([.int .i64 k,.string s,c0,c1,c2,c3,c4,c5,vn,vi]) _ rfl HRG.o Tryz.underlying54 rfl ?_ ?_);(exact wA rfl);rw[HL10.o];kernel_rfl)|(go_at_call 83;refine(HS2.o).mono ?_;rintro e y ⟨rfl,hb⟩;have HBY:=I hb;clear hb))
   go_ret
   exact⟨zb HV.o.symm,HBY.o⟩
  |true=>
   have HV:Hid (r= z0i (.mk 2 ⟨#[120]⟩ v [] [])):=I (by rw[HR.o];exact Bool.true_and _)
   have HPR:Hid (∀ y,Below u.heap.size u y->Calls Tryz.prog 84 #[.agg ⟨[.int .i64 2,.string ⟨#[120]⟩,c0,c1,c2,c3,c4,c5,.slice none 0 0,.slice none 0 0]⟩] y fun e w'=>e= .returned (.bool (z0i (.mk 2 ⟨#[120]⟩ v [] [])))/\Below y.heap.size y w'):=I fun y hy=>z6a _ _ y (zeI ((HVX.o.under hy).more hy.size))
   have HR6:Hid (∀ y,Below u.heap.size u y->y.rangeAt b (o+2) [c0,c1,c2,c3,c4,c5]):=I fun y hy=>fun j w hj=>by
    have h:=zc HRG.o hy HLB.o (2+j) w (by match j,hj with|0,h=>exact h|1,h=>exact h|2,h=>exact h|3,h=>exact h|4,h=>exact h|5,h=>exact h|j+6,h=>simp at h)
    rwa [show o+ (2+j)= o+2+j by omega] at h
   obtain⟨b2,hb2⟩:∃ b,z0i (.mk 2 ⟨#[120]⟩ v [] [])= b:=⟨_,rfl⟩
   rw[hb2] at HV HPR
   clear hb2
   go_enter Tryz.func67,Tryz.ntmps67
   go_wp2_with (first|((with_reducible refine za 54 _ rfl ?_ (b) (o) ([.int .i64 k,.string s,c0,c1,c2,c3,c4,c5,vn,vi]) _ rfl HRG.o Tryz.underlying54 rfl ?_ ?_);(exact wA rfl);rw[HL10.o];kernel_rfl)|((with_reducible refine za 52 _ rfl ?_ (b) (o+2) ([c0,c1,c2,c3,c4,c5]) _ rfl HR6Y.o Tryz.underlying52 rfl ?_ ?_);(exact wA rfl);rw[HL6.o];kernel_rfl)|(go_at_call 83;refine(HS2.o).mono ?_;rintro e y ⟨rfl,hb⟩;have HBY:=I hb;have HR6Y:=I (HR6.o y hb);have HPY:=I (HPR.o y hb);clear hb)|(go_at_call 84;refine(HPY.o).mono ?_;rintro e z ⟨rfl,hb⟩;have HBZ:=I hb;clear hb))
   go_ret
   exact⟨zb HV.o.symm,HBY.o.trans (HBZ.o.mono HBY.o.size)⟩
end
section
open Go Go.RowKit P
def z91 (r:Option TT) (w:World) (e:Ending) (w':World):Prop:=∃ cs code,e= .returned (.tuple #[.agg ⟨cs⟩,.int .i64 code])/\cs.length= 3/\(∀ v∈cs,v.oneCell'= true)/\((∃ t,r= some t/\code= 0/\KeptT (fun b=>w.heap.size<=b) w' cs t)\/(r= none/\(code ==0)= false))/\Below w.heap.size w w'
theorem TopC.chk {r:Option TT} {w:World} {e:Ending} {w':World} (h:TopC r w e w'):z91 r w e w':=by
 rcases h with ⟨t,cs,h1,h2,h3,h4⟩|⟨n,h1,h2,h3,h4⟩
 ·exact⟨cs,0,h2,(zk h3.typ).1,(zk h3.typ).2,.inl ⟨t,h1,rfl,h3⟩,h4⟩
 ·exact⟨zT3,n,h3,rfl,zI _ _ _ _ _ _ _,.inr ⟨h1,by simpa using h2⟩,h4⟩
theorem TypAt.but {w w':World} {cs:List Value} {t:TT} {q:Nat} (h:TypAt w w.heap.size cs t) (hq:KeptT (fun b=>b≠q) w cs t) (hb:But w w' q q):TypAt w' w'.heap.size cs t:=
 (hq.to (q:=fun _=>True) (fun b h1 h2=>⟨trivial,hb.block b h2 h1 h1⟩) hb.size).typ
theorem z4d {m:ModelT} {mb lb n:Nat} {R:Rel} {w0 u:World} {OA GA VA MA NA:Option Addr} {oc gc vc mc nc cb:Nat} (hs:CkS m mb lb n R w0 OA GA VA MA NA oc gc vc mc nc) (hd:CkD mb lb w0 cb u) (x:ET) (t:TT) (ce ct:List Value) (hx:ExpAt u u.heap.size ce x) (ht:TypAt u u.heap.size ct t):
  Calls Tryz.prog 69 #[.pointer (some ⟨cb,0,none⟩),.agg ⟨ce⟩,.agg ⟨ct⟩] u fun e u'=>e= .returned (.bool (isE m.vars x t))/\Below u.heap.size u u':=by
 have HS:=I hs
 have HD:=I hd
 have HX:=I hx
 have HT:=I ht
 have HCL:=I (eslen hx)
 have HTL:=I (zk ht).1
 have HIE:Hid (isE m.vars x t= match chkE m.vars x with|some u=>isT u t|none=>false):=I rfl
 generalize isE m.vars x t= r at HIE ⊢
 obtain⟨jt,hi,hy0,hy1,hy2⟩:=zX z1L
 have HT0:=I hi
 have HT1:=I hy0
 clear hi hy0 hy1 hy2 hs hd hx ht
 go_enter Tryz.func69,Tryz.ntmps69
 go_upto_region 1 with (fail)
 have g1:=zd u (.cells ⟨ce⟩ 54)
 have h1:=Whole.new u ce 54
 have s1:(u.alloc (.cells ⟨ce⟩ 54)).heap.size= u.heap.size+1:=by simp
 generalize u.alloc (.cells ⟨ce⟩ 54)= W1 at*
 have g2:=zd W1 (.cells ⟨ct⟩ 41)
 have h2:=Whole.new W1 ct 41
 generalize W1.alloc (.cells ⟨ct⟩ 41)= W at*
 rw[s1] at h2
 (try rw[s1])
 have HXB:=I (h1.keep (g2.block _ (by omega)))
 have HTB:=I h2
 have HBL:=I (g1.trans (g2.mono g1.size))
 clear g1 g2 h1 h2 s1
 have HDW:=I (HD.o.next HBL.o)
 have HC:Hid (∀ z,Below W.heap.size W z->CkD mb lb w0 cb z):=I fun z hz=>HDW.o.next hz
 have HXS:Hid (∀ z,Below W.heap.size W z->z.rangeAt u.heap.size 0 ce):=I fun z hz=>(HXB.o.keep (hz.block _ HXB.o.lt)).range
 have HTS:Hid (∀ z,Below W.heap.size W z->z.rangeAt (u.heap.size+1) 0 ct):=I fun z hz=>(HTB.o.keep (hz.block _ HTB.o.lt)).range
 have HUZ:Hid (∀ z,Below W.heap.size W z->Below u.heap.size u z):=I fun z hz=>HBL.o.trans (hz.mono HBL.o.size)
 have HCK:Hid (∀ z,Below W.heap.size W z->Calls Tryz.prog 85 #[.agg ⟨ce⟩,.slice VA m.vars.length vc] z (z91 (chkE m.vars x) z)):=I fun z hz=>(z9I m.vars x ce (.slice VA m.vars.length vc) z ((HX.o.under (HUZ.o z hz)).more (HUZ.o z hz).size) ((HS.o.vars.below (HC.o z hz).bel fun _ _ _ h=>(h.under (HC.o z hz).bel).more (HC.o z hz).bel.size).more (HC.o z hz).bel.size) (by have:=HS.o.few.1;omega)).mono fun e w' h=>h.chk
 have hs:Below W.heap.size W W.drew:=(Below.refl _ _).drew
 go_cut [7,8] (fun v n z=>∃ q cs code,v= .pointer (some ⟨q,0,none⟩)/\n= .int .i64 code/\z.rangeAt q 0 cs/\q < z.heap.size/\cs.length= 3/\((∃ t,chkE m.vars x= some t/\code= 0/\TypAt z z.heap.size cs t)\/(chkE m.vars x= none/\(code ==0)= false))/\Below W.heap.size W z)
 case first=>
  refine z1K (.take 0 (.take 1 (.take 2 (.take 3 (.take 4 (.take 5 (.take 6 (.take 7 (.two 8 12 (.take 9 (.take 10 (.take 11 (.act 12 (.act 13 (.take 14 .done)))))) (.act 8 (.take 9 (.take 10 (.take 11 (.act 13 (.take 14 .done))))))))))))))) (fun z=>Below W.heap.size W z) (by kernel_rfl) (by kernel_rfl) (by kernel_rfl) rfl (by intro c a d v w h;cases d<;>exact h) ?_
  refine zV (some 10) (.agg ⟨ce⟩) _ rfl rfl (by exact wA rfl) hs (fun z hz=>zt 54 rfl (u.heap.size) (0) (ce) _ rfl (HXS.o z hz) Tryz.underlying54 rfl (by rw[HCL.o];kernel_rfl)) ?_
  go_frame
  refine z3Y (some 11) (.pointer (some ⟨cb,0,none⟩)) _ _ rfl rfl rfl (by exact wA rfl) hs rfl ?_
  go_frame
  refine zV (some 12) (.pointer (some ⟨cb,0,none⟩)) _ rfl rfl (by exact wA rfl) hs (fun z hz=>by go_simp) ?_
  go_frame
  refine zV (some 13) (.pointer (some ⟨cb,0,none⟩)) _ rfl rfl (by exact wA rfl) hs (fun z hz=>by go_simp) ?_
  go_frame
  refine zV (some 14) (.pointer (some ⟨mb,0,none⟩)) _ rfl rfl (by exact wA rfl) hs (fun z hz=>by have d1:=(HC.o z hz).c0;clear hz;go_simp) ?_
  go_frame
  refine zV (some 15) (.pointer (some ⟨mb,0,none⟩)) _ rfl rfl (by exact wA rfl) hs (fun z hz=>by go_simp) ?_
  go_frame
  refine zV (some 16) (.pointer (some ⟨mb,3,none⟩)) _ rfl rfl (by exact wA rfl) hs (fun z hz=>by go_simp) ?_
  go_frame
  refine zV (some 17) (.slice VA m.vars.length vc) _ rfl rfl (by exact wA rfl) hs (fun z hz=>by have d1:=HS.o.cell (HC.o z hz).bel (j:=3) rfl;clear hz;go_simp) ?_
  go_frame
  refine z3i ?_ ?_
  ·refine z4j (some 18) 85 Tryz.func85 (by kernel_rfl) (by kernel_rfl) [.agg ⟨ce⟩,.slice VA m.vars.length vc] _ _ _ rfl rfl rfl (by exact wA rfl) rfl ?_
   refine(HCK.o W.drew hs).mono ?_
   rintro e w1 ⟨cs,code,rfl,hcl,hco,htp,hbc⟩
   have hs0:=hs
   have hs:Below W.heap.size W w1:=hs.trans (hbc.mono hs.size)
   refine⟨_,rfl,hs,?_⟩
   go_frame
   refine z3Y (some 9) (.tuple #[.agg ⟨cs⟩,.int .i64 code]) _ _ rfl rfl rfl (by exact wA rfl) hs rfl ?_
   go_frame
   refine zV (some 19) (.agg ⟨cs⟩) _ rfl rfl (by exact wA rfl) hs (fun z hz=>by go_simp) ?_
   go_frame
   refine zV (some 20) (.int .i64 code) _ rfl rfl (by exact wA rfl) hs (fun z hz=>by go_simp) ?_
   go_frame
   refine z0G (some 7) (.pointer (some ⟨w1.heap.size,0,none⟩)) (w1.alloc (.cells zT3.toArray 41)) _ rfl rfl (by exact wA rfl) (z1c 41 rfl _ _ HT0.o HT1.o) (hs.trans ((zd w1 _).mono hs.size)) ?_
   go_frame
   have hbw2:=zd w1 (.cells zT3.toArray 41)
   have hww2:Whole 41 (w1.alloc (.cells zT3.toArray 41)) w1.heap.size zT3:=Whole.new w1 zT3 41
   have hgw2:W.heap.size<=w1.heap.size:=hs.size
   have hs:Below W.heap.size W (w1.alloc (.cells zT3.toArray 41)):=hs.trans (hbw2.mono hs.size)
   generalize w1.alloc (.cells zT3.toArray 41)= w2 at*
   refine z0D none 41 _ _ _ rfl rfl rfl (by exact wA rfl) (w1.heap.size) zT3 cs hww2 (by rw[hcl];rfl) rfl rfl (by rw[hcl];kernel_rfl) hco ?_
   intro wf hwf hbf
   have hsf:Below W.heap.size W wf:=hs.trans (hbf.below hs.size hgw2 hgw2)
   refine⟨hsf,?_⟩
   go_frame
   refine z1R (some 8) (.int .i64 code) _ _ rfl rfl rfl (by exact wA rfl) hsf rfl ?_
   go_frame
   refine z1H ?_
   go_wp2
   go_meet
   case rel=>exact⟨w1.heap.size,cs,code,rfl,rfl,hwf.range,hwf.lt,hcl,htp.imp (fun⟨t,h1,h2,h3⟩=>⟨t,h1,h2,((KeptT.to h3 (q:=fun _=>True) (fun b _ hl=>⟨trivial,(hbf.block b (Nat.lt_of_lt_of_le hl hbw2.size) (by omega) (by omega)).trans (hbw2.block b hl)⟩) (Nat.le_trans hbw2.size hbf.size)).typ)⟩) id,hsf⟩
  ·refine z0G (some 7) (.pointer (some ⟨W.drew.heap.size,0,none⟩)) (W.drew.alloc (.cells zT3.toArray 41)) _ rfl rfl (by exact wA rfl) (z1c 41 rfl _ _ HT0.o HT1.o) (hs.trans ((zd W.drew _).mono hs.size)) ?_
   go_frame
   have hbw1:=zd W.drew (.cells zT3.toArray 41)
   have hww1:Whole 41 (W.drew.alloc (.cells zT3.toArray 41)) W.drew.heap.size zT3:=Whole.new W.drew zT3 41
   have hgw1:W.heap.size<=W.drew.heap.size:=hs.size
   have hs:Below W.heap.size W (W.drew.alloc (.cells zT3.toArray 41)):=hs.trans (hbw1.mono hs.size)
   generalize W.drew.alloc (.cells zT3.toArray 41)= w1 at*
   have hlt1:W.drew.heap.size < w1.heap.size:=hww1.lt
   refine z4j (some 18) 85 Tryz.func85 (by kernel_rfl) (by kernel_rfl) [.agg ⟨ce⟩,.slice VA m.vars.length vc] _ _ _ rfl rfl rfl (by exact wA rfl) rfl ?_
   refine(HCK.o w1 hs).mono ?_
   rintro e w2 ⟨cs,code,rfl,hcl,hco,htp,hbc⟩
   have hs0:=hs
   have hs:Below W.heap.size W w2:=hs.trans (hbc.mono hs.size)
   refine⟨_,rfl,hs,?_⟩
   go_frame
   have hww2:=hww1.keep (hbc.block _ hww1.lt)
   refine z3Y (some 9) (.tuple #[.agg ⟨cs⟩,.int .i64 code]) _ _ rfl rfl rfl (by exact wA rfl) hs rfl ?_
   go_frame
   refine zV (some 19) (.agg ⟨cs⟩) _ rfl rfl (by exact wA rfl) hs (fun z hz=>by go_simp) ?_
   go_frame
   refine zV (some 20) (.int .i64 code) _ rfl rfl (by exact wA rfl) hs (fun z hz=>by go_simp) ?_
   go_frame
   refine z0D none 41 _ _ _ rfl rfl rfl (by exact wA rfl) (W.drew.heap.size) zT3 cs hww2 (by rw[hcl];rfl) rfl rfl (by rw[hcl];kernel_rfl) hco ?_
   intro wf hwf hbf
   have hsf:Below W.heap.size W wf:=hs.trans (hbf.below hs.size hgw1 hgw1)
   refine⟨hsf,?_⟩
   go_frame
   refine z1R (some 8) (.int .i64 code) _ _ rfl rfl rfl (by exact wA rfl) hsf rfl ?_
   go_frame
   refine z1H ?_
   go_wp2
   go_meet
   case rel=>exact⟨W.drew.heap.size,cs,code,rfl,rfl,hwf.range,hwf.lt,hcl,htp.imp (fun⟨t,h1,h2,h3⟩=>⟨t,h1,h2,((KeptT.to h3 (q:=fun _=>True) (fun b hp hl=>⟨trivial,hbf.block b hl (by omega) (by omega)⟩) hbf.size).typ)⟩) id,hsf⟩
 case rest=>
 obtain⟨q,cs,code,rfl,rfl,hrg,hql,hcl,hor,hbz⟩:=hcut
 obtain⟨V,hV⟩:∃ z,z= wc:=⟨_,rfl⟩
 subst hV
 have HQ:=I (And.intro hrg hcl)
 have HBV:Hid (Below u.heap.size u V):=I (HUZ.o V hbz)
 have HTV:=I (HTS.o V hbz)
 rcases hor with ⟨s,hs1,rfl,hty⟩|⟨hs1,hc0⟩
 ·have HV:Hid (r= isT s t):=I (by rw[HIE.o,hs1])
  have HIS:=I (z9b s t cs ct V hty ((HT.o.under HBV.o).more HBV.o.size))
  clear hrg hql hcl hbz hs1 hty HIE
  go_wp2_with (first|((with_reducible refine za 41 _ rfl ?_ (q) (0) (cs) _ rfl HQ.o.1 Tryz.underlying41 rfl ?_ ?_);(exact wA rfl);rw[HQ.o.2];kernel_rfl)|((with_reducible refine za 41 _ rfl ?_ (u.heap.size+1) (0) (ct) _ rfl HTV.o Tryz.underlying41 rfl ?_ ?_);(exact wA rfl);rw[HTL.o];kernel_rfl)|(go_at_call 70;refine(HIS.o).mono ?_;rintro e y ⟨rfl,hb⟩;have HBY:=I hb;clear hb))
  go_ret
  exact⟨zb HV.o.symm,HBV.o.trans (HBY.o.mono HBV.o.size)⟩
 ·have HV:Hid (r= false):=I (by rw[HIE.o,hs1])
  clear hrg hql hcl hbz hs1 HIE
  go_wp2
  go_ret
  exact⟨zb HV.o.symm,HBV.o⟩
end
section
open Go Go.RowKit P
def zN9:List Value:=[.int .i64 0,.int .i64 0,.bool false,.bool false,.bool false,.bool false,.bool false,.bool false,.int .i64 0]
theorem z01 {fn:Func} {p u:Tmp} (h:fn.results= #[.cell p 112,.tmp u]) (tmps:Array Value) (w:World) (g:Nat) (cs:List Value) (hl:cs.length= 9) (x:Value)
  (hp:tmps.getD p undef= .pointer (some ⟨g,0,none⟩)) (hm:Whole 112 w g cs) (hu:tmps.getD u undef= x):(results fn tmps).run Tryz.prog w= .ok (.tuple #[.agg ⟨cs⟩,x]) w:=by
 have hp':tmps[p]?.getD undef= .pointer (some ⟨g,0,none⟩):=by simpa using hp
 have hu':tmps[u]?.getD undef= x:=by simpa using hu
 have hl:=run_loadVar_mid (P:=Tryz.prog) w g 0 112 cs _ hm.range Tryz.underlying112 rfl (by rw[hl];kernel_rfl)
 simp[results,h,hp',hu',asAddr,hl]
theorem zw {a b h:Int} {c d e f g i:Bool}:∀ v∈[Value.int .i64 a,.int .i64 b,.bool c,.bool d,.bool e,.bool f,.bool g,.bool i,.int .i64 h],v.oneCell'= true:=by
 intro v hv
 simp only[List.mem_cons,List.not_mem_nil,or_false] at hv
 rcases hv with rfl|rfl|rfl|rfl|rfl|rfl|rfl|rfl|rfl<;>rfl
theorem zae (k:Int):k= 1\/k= 2\/k= 3\/k= 4\/k= 5\/k= 6\/k= 7\/k= 8\/k= 9\/k= 10\/k= 11\/k= 12\/k= 13\/(z1j k= none/\k≠1/\k≠2/\k≠3/\k≠4/\k≠5/\k≠6/\k≠7/\k≠8/\k≠9/\k≠10/\k≠11/\k≠12/\k≠13):=by
 by_cases h:1<=k/\k<=13
 ·omega
 ·refine .inr (.inr (.inr (.inr (.inr (.inr (.inr (.inr (.inr (.inr (.inr (.inr (.inr ⟨?_,by omega⟩))))))))))))
  unfold z1j
  rw[if_neg (by omega),if_neg (by omega),if_neg (by omega),if_neg (by omega),if_neg (by omega),if_neg (by omega),if_neg (by omega),if_neg (by omega),if_neg (by omega),if_neg (by omega),if_neg (by omega)]
def NeedPost (k:Int) (w:World) (e:Ending) (w':World):Prop:=∃ cs,e= .returned (.tuple #[.agg ⟨cs⟩,.bool (z1j k).isSome])/\cs.length= 9/\(∀ v∈cs,v.oneCell'= true)/\(∀ d,z1j k= some d->cs= encNd d)/\Below w.heap.size w w'
theorem z9R (k:Int) (w:World):Calls Tryz.prog 64 #[.int .i64 k] w (NeedPost k w):=by
 go_enter Tryz.func64,Tryz.ntmps64
 go_upto_region 1 with (fail)
 have hz9:(#[.int .i64 0,.int .i64 0,.bool false,.bool false,.bool false,.bool false,.bool false,.bool false,.int .i64 0]:Array Value)= zN9.toArray:=rfl
 rw[hz9]
 clear hz9
 have HB0:=I (zd w (.cells zN9.toArray 112))
 have HW:=I (Whole.new w zN9 112)
 generalize w.alloc (.cells zN9.toArray 112)= W at*
 rcases zae k with rfl|rfl|rfl|rfl|rfl|rfl|rfl|rfl|rfl|rfl|rfl|rfl|rfl|⟨hnone,h1,h2,h3,h4,h5,h6,h7,h8,h9,h10,h11,h12,h13⟩
 ·go_upto_region 27 with (first|((with_reducible refine zf 112 _ _ rfl rfl ?_ (w.heap.size) (zN9) ([.int .i64 1,.int .i64 1,.bool false,.bool false,.bool false,.bool false,.bool false,.bool false,.int .i64 0]) HW.o ?_ ?_ ?_ ?_ ?_ ?_);(exact wA rfl);rfl;rfl;rfl;kernel_rfl;exact zw;intro Z1 hz hb;have HZZ1:=I hz;have HBZ1:=I hb;clear hz hb))
  have HQ:=I HZZ1.o
  have HBQ:Hid (Below w.heap.size w Z1):=I (HB0.o.trans (HBZ1.o.below HB0.o.size (Nat.le_refl _) (Nat.le_refl _)))
  have HL9:Hid (([.int .i64 1,.int .i64 1,.bool false,.bool false,.bool false,.bool false,.bool false,.bool false,.int .i64 0]:List Value).length= 9):=I rfl
  go_wp2_with (first|((with_reducible refine za 112 _ rfl ?_ (w.heap.size) (0) ([.int .i64 1,.int .i64 1,.bool false,.bool false,.bool false,.bool false,.bool false,.bool false,.int .i64 0]) _ rfl HQ.o.range Tryz.underlying112 rfl ?_ ?_);(exact wA rfl);rw[HL9.o];kernel_rfl)|((with_reducible refine zf 112 _ _ rfl rfl ?_ (w.heap.size) ([.int .i64 1,.int .i64 1,.bool false,.bool false,.bool false,.bool false,.bool false,.bool false,.int .i64 0]) ([.int .i64 1,.int .i64 1,.bool false,.bool false,.bool false,.bool false,.bool false,.bool false,.int .i64 0]) HQ.o ?_ ?_ ?_ ?_ ?_ ?_);(exact wA rfl);rfl;rfl;rfl;kernel_rfl;exact zw;intro Z9 hz hb;have HZZ9:=I hz;have HBZ9:=I hb;clear hz hb))
  (try simp only[Exit.inBlock,Exit.then])
  refine bodyPost_ret (z01 rfl _ _ w.heap.size [.int .i64 1,.int .i64 1,.bool false,.bool false,.bool false,.bool false,.bool false,.bool false,.int .i64 0] rfl (.bool true) rfl HZZ9.o rfl) rfl ?_
  exact⟨_,rfl,rfl,zw,fun d hd=>by first|(injection hd with hd;subst hd;rfl)|(rw[hnone] at hd;cases hd),HBQ.o.trans (HBZ9.o.below HBQ.o.size (Nat.le_refl _) (Nat.le_refl _))⟩
 ·go_upto_region 27 with (first|((with_reducible refine zf 112 _ _ rfl rfl ?_ (w.heap.size) (zN9) ([.int .i64 1,.int .i64 1,.bool false,.bool false,.bool false,.bool false,.bool false,.bool false,.int .i64 0]) HW.o ?_ ?_ ?_ ?_ ?_ ?_);(exact wA rfl);rfl;rfl;rfl;kernel_rfl;exact zw;intro Z0 hz hb;have HZZ0:=I hz;have HBZ0:=I hb;clear hz hb)|((with_reducible refine zf 112 _ _ rfl rfl ?_ (w.heap.size) ([.int .i64 1,.int .i64 1,.bool false,.bool false,.bool false,.bool false,.bool false,.bool false,.int .i64 0]) ([.int .i64 0,.int .i64 0,.bool false,.bool false,.bool false,.bool false,.bool false,.bool false,.int .i64 0]) HZZ0.o ?_ ?_ ?_ ?_ ?_ ?_);(exact wA rfl);rfl;rfl;rfl;kernel_rfl;exact zw;intro Z1 hz hb;have HZZ1:=I hz;have HBZ1:=I hb;clear hz hb))
  have HQ:=I HZZ1.o
  have HBQ:Hid (Below w.heap.size w Z1):=I ((HB0.o.trans (HBZ0.o.below HB0.o.size (Nat.le_refl _) (Nat.le_refl _))).trans (HBZ1.o.below (Nat.le_trans HB0.o.size HBZ0.o.size) (Nat.le_refl _) (Nat.le_refl _)))
  have HL9:Hid (([.int .i64 0,.int .i64 0,.bool false,.bool false,.bool false,.bool false,.bool false,.bool false,.int .i64 0]:List Value).length= 9):=I rfl
  go_wp2_with (first|((with_reducible refine za 112 _ rfl ?_ (w.heap.size) (0) ([.int .i64 0,.int .i64 0,.bool false,.bool false,.bool false,.bool false,.bool false,.bool false,.int .i64 0]) _ rfl HQ.o.range Tryz.underlying112 rfl ?_ ?_);(exact wA rfl);rw[HL9.o];kernel_rfl)|((with_reducible refine zf 112 _ _ rfl rfl ?_ (w.heap.size) ([.int .i64 0,.int .i64 0,.bool false,.bool false,.bool false,.bool false,.bool false,.bool false,.int .i64 0]) ([.int .i64 0,.int .i64 0,.bool false,.bool false,.bool false,.bool false,.bool false,.bool false,.int .i64 0]) HQ.o ?_ ?_ ?_ ?_ ?_ ?_);(exact wA rfl);rfl;rfl;rfl;kernel_rfl;exact zw;intro Z9 hz hb;have HZZ9:=I hz;have HBZ9:=I hb;clear hz hb))
  (try simp only[Exit.inBlock,Exit.then])
  refine bodyPost_ret (z01 rfl _ _ w.heap.size [.int .i64 0,.int .i64 0,.bool false,.bool false,.bool false,.bool false,.bool false,.bool false,.int .i64 0] rfl (.bool true) rfl HZZ9.o rfl) rfl ?_
  exact⟨_,rfl,rfl,zw,fun d hd=>by first|(injection hd with hd;subst hd;rfl)|(rw[hnone] at hd;cases hd),HBQ.o.trans (HBZ9.o.below HBQ.o.size (Nat.le_refl _) (Nat.le_refl _))⟩
 ·go_upto_region 19 with (first|((with_reducible refine zf 112 _ _ rfl rfl ?_ (w.heap.size) (zN9) ([.int .i64 1,.int .i64 1,.bool false,.bool false,.bool false,.bool false,.bool false,.bool false,.int .i64 0]) HW.o ?_ ?_ ?_ ?_ ?_ ?_);(exact wA rfl);rfl;rfl;rfl;kernel_rfl;exact zw;intro Z1 hz hb;have HZZ1:=I hz;have HBZ1:=I hb;clear hz hb))
  have HQ0:=I HZZ1.o
  have HBQ0:Hid (Below w.heap.size w Z1):=I (HB0.o.trans (HBZ1.o.below HB0.o.size (Nat.le_refl _) (Nat.le_refl _)))
  have e3:Z1.cell? ⟨w.heap.size,3,none⟩= some (.bool false):=(by have h:=HQ0.o.range 3 (.bool false) rfl;rwa [Nat.zero_add] at h)
  have f3:Z1.frozen? ⟨w.heap.size,3,none⟩= false:=HQ0.o.frozV (j:=3) (show 3 < 9 by decide)
  have e5:Z1.cell? ⟨w.heap.size,5,none⟩= some (.bool false):=(by have h:=HQ0.o.range 5 (.bool false) rfl;rwa [Nat.zero_add] at h)
  have f5:Z1.frozen? ⟨w.heap.size,5,none⟩= false:=HQ0.o.frozV (j:=5) (show 5 < 9 by decide)
  have e7:Z1.cell? ⟨w.heap.size,7,none⟩= some (.bool false):=(by have h:=HQ0.o.range 7 (.bool false) rfl;rwa [Nat.zero_add] at h)
  have f7:Z1.frozen? ⟨w.heap.size,7,none⟩= false:=HQ0.o.frozV (j:=7) (show 7 < 9 by decide)
  go_upto_region 27 with (fail)
  clear e3 f3 e5 f5 e7 f7
  have HP0x0:Hid (Whole 112 (Z1.setCell ⟨w.heap.size,3,none⟩ (.bool true)) w.heap.size [.int .i64 1,.int .i64 1,.bool false,.bool true,.bool false,.bool false,.bool false,.bool false,.int .i64 0]):=I (Whole.putM (pre:=[.int .i64 1,.int .i64 1,.bool false]) (post:=[.bool false,.bool false,.bool false,.bool false,.int .i64 0]) HQ0.o)
  have HR0x0:Hid (Below w.heap.size w (Z1.setCell ⟨w.heap.size,3,none⟩ (.bool true))):=I (HBQ0.o.trans ((But.set1 Z1 w.heap.size w.heap.size 3 (.bool true)).below HBQ0.o.size (Nat.le_refl _) (Nat.le_refl _)))
  have HP0x1:Hid (Whole 112 ((Z1.setCell ⟨w.heap.size,3,none⟩ (.bool true)).setCell ⟨w.heap.size,5,none⟩ (.bool true)) w.heap.size [.int .i64 1,.int .i64 1,.bool false,.bool true,.bool false,.bool true,.bool false,.bool false,.int .i64 0]):=I (Whole.putM (pre:=[.int .i64 1,.int .i64 1,.bool false,.bool true,.bool false]) (post:=[.bool false,.bool false,.int .i64 0]) HP0x0.o)
  have HR0x1:Hid (Below w.heap.size w ((Z1.setCell ⟨w.heap.size,3,none⟩ (.bool true)).setCell ⟨w.heap.size,5,none⟩ (.bool true))):=I (HR0x0.o.trans ((But.set1 (Z1.setCell ⟨w.heap.size,3,none⟩ (.bool true)) w.heap.size w.heap.size 5 (.bool true)).below HR0x0.o.size (Nat.le_refl _) (Nat.le_refl _)))
  have HP0x2:Hid (Whole 112 (((Z1.setCell ⟨w.heap.size,3,none⟩ (.bool true)).setCell ⟨w.heap.size,5,none⟩ (.bool true)).setCell ⟨w.heap.size,7,none⟩ (.bool true)) w.heap.size [.int .i64 1,.int .i64 1,.bool false,.bool true,.bool false,.bool true,.bool false,.bool true,.int .i64 0]):=I (Whole.putM (pre:=[.int .i64 1,.int .i64 1,.bool false,.bool true,.bool false,.bool true,.bool false]) (post:=[.int .i64 0]) HP0x1.o)
  have HR0x2:Hid (Below w.heap.size w (((Z1.setCell ⟨w.heap.size,3,none⟩ (.bool true)).setCell ⟨w.heap.size,5,none⟩ (.bool true)).setCell ⟨w.heap.size,7,none⟩ (.bool true))):=I (HR0x1.o.trans ((But.set1 ((Z1.setCell ⟨w.heap.size,3,none⟩ (.bool true)).setCell ⟨w.heap.size,5,none⟩ (.bool true)) w.heap.size w.heap.size 7 (.bool true)).below HR0x1.o.size (Nat.le_refl _) (Nat.le_refl _)))
  obtain⟨Q1,hQ⟩:∃ z,(((Z1.setCell ⟨w.heap.size,3,none⟩ (.bool true)).setCell ⟨w.heap.size,5,none⟩ (.bool true)).setCell ⟨w.heap.size,7,none⟩ (.bool true))= z:=⟨_,rfl⟩
  have HQ1:=I (hQ▸HP0x2.o)
  have HBQ1:=I (hQ▸HR0x2.o)
  rw[hQ]
  clear hQ HP0x0 HR0x0 HP0x1 HR0x1 HP0x2 HR0x2
  have HQ:=I HQ1.o
  have HBQ:=I HBQ1.o
  have HL9:Hid (([.int .i64 1,.int .i64 1,.bool false,.bool true,.bool false,.bool true,.bool false,.bool true,.int .i64 0]:List Value).length= 9):=I rfl
  go_wp2_with (first|((with_reducible refine za 112 _ rfl ?_ (w.heap.size) (0) ([.int .i64 1,.int .i64 1,.bool false,.bool true,.bool false,.bool true,.bool false,.bool true,.int .i64 0]) _ rfl HQ.o.range Tryz.underlying112 rfl ?_ ?_);(exact wA rfl);rw[HL9.o];kernel_rfl)|((with_reducible refine zf 112 _ _ rfl rfl ?_ (w.heap.size) ([.int .i64 1,.int .i64 1,.bool false,.bool true,.bool false,.bool true,.bool false,.bool true,.int .i64 0]) ([.int .i64 1,.int .i64 1,.bool false,.bool true,.bool false,.bool true,.bool false,.bool true,.int .i64 0]) HQ.o ?_ ?_ ?_ ?_ ?_ ?_);(exact wA rfl);rfl;rfl;rfl;kernel_rfl;exact zw;intro Z9 hz hb;have HZZ9:=I hz;have HBZ9:=I hb;clear hz hb))
  (try simp only[Exit.inBlock,Exit.then])
  refine bodyPost_ret (z01 rfl _ _ w.heap.size [.int .i64 1,.int .i64 1,.bool false,.bool true,.bool false,.bool true,.bool false,.bool true,.int .i64 0] rfl (.bool true) rfl HZZ9.o rfl) rfl ?_
  exact⟨_,rfl,rfl,zw,fun d hd=>by first|(injection hd with hd;subst hd;rfl)|(rw[hnone] at hd;cases hd),HBQ.o.trans (HBZ9.o.below HBQ.o.size (Nat.le_refl _) (Nat.le_refl _))⟩
 ·go_upto_region 27 with (first|((with_reducible refine zf 112 _ _ rfl rfl ?_ (w.heap.size) (zN9) ([.int .i64 1,.int .i64 1,.bool false,.bool false,.bool false,.bool false,.bool false,.bool false,.int .i64 0]) HW.o ?_ ?_ ?_ ?_ ?_ ?_);(exact wA rfl);rfl;rfl;rfl;kernel_rfl;exact zw;intro Z0 hz hb;have HZZ0:=I hz;have HBZ0:=I hb;clear hz hb)|((with_reducible refine zf 112 _ _ rfl rfl ?_ (w.heap.size) ([.int .i64 1,.int .i64 1,.bool false,.bool false,.bool false,.bool false,.bool false,.bool false,.int .i64 0]) ([.int .i64 2,.int .i64 6,.bool true,.bool false,.bool false,.bool false,.bool false,.bool true,.int .i64 0]) HZZ0.o ?_ ?_ ?_ ?_ ?_ ?_);(exact wA rfl);rfl;rfl;rfl;kernel_rfl;exact zw;intro Z1 hz hb;have HZZ1:=I hz;have HBZ1:=I hb;clear hz hb))
  have HQ:=I HZZ1.o
  have HBQ:Hid (Below w.heap.size w Z1):=I ((HB0.o.trans (HBZ0.o.below HB0.o.size (Nat.le_refl _) (Nat.le_refl _))).trans (HBZ1.o.below (Nat.le_trans HB0.o.size HBZ0.o.size) (Nat.le_refl _) (Nat.le_refl _)))
  have HL9:Hid (([.int .i64 2,.int .i64 6,.bool true,.bool false,.bool false,.bool false,.bool false,.bool true,.int .i64 0]:List Value).length= 9):=I rfl
  go_wp2_with (first|((with_reducible refine za 112 _ rfl ?_ (w.heap.size) (0) ([.int .i64 2,.int .i64 6,.bool true,.bool false,.bool false,.bool false,.bool false,.bool true,.int .i64 0]) _ rfl HQ.o.range Tryz.underlying112 rfl ?_ ?_);(exact wA rfl);rw[HL9.o];kernel_rfl)|((with_reducible refine zf 112 _ _ rfl rfl ?_ (w.heap.size) ([.int .i64 2,.int .i64 6,.bool true,.bool false,.bool false,.bool false,.bool false,.bool true,.int .i64 0]) ([.int .i64 2,.int .i64 6,.bool true,.bool false,.bool false,.bool false,.bool false,.bool true,.int .i64 0]) HQ.o ?_ ?_ ?_ ?_ ?_ ?_);(exact wA rfl);rfl;rfl;rfl;kernel_rfl;exact zw;intro Z9 hz hb;have HZZ9:=I hz;have HBZ9:=I hb;clear hz hb))
  (try simp only[Exit.inBlock,Exit.then])
  refine bodyPost_ret (z01 rfl _ _ w.heap.size [.int .i64 2,.int .i64 6,.bool true,.bool false,.bool false,.bool false,.bool false,.bool true,.int .i64 0] rfl (.bool true) rfl HZZ9.o rfl) rfl ?_
  exact⟨_,rfl,rfl,zw,fun d hd=>by first|(injection hd with hd;subst hd;rfl)|(rw[hnone] at hd;cases hd),HBQ.o.trans (HBZ9.o.below HBQ.o.size (Nat.le_refl _) (Nat.le_refl _))⟩
 ·go_upto_region 27 with (first|((with_reducible refine zf 112 _ _ rfl rfl ?_ (w.heap.size) (zN9) ([.int .i64 1,.int .i64 1,.bool false,.bool false,.bool false,.bool false,.bool false,.bool false,.int .i64 0]) HW.o ?_ ?_ ?_ ?_ ?_ ?_);(exact wA rfl);rfl;rfl;rfl;kernel_rfl;exact zw;intro Z0 hz hb;have HZZ0:=I hz;have HBZ0:=I hb;clear hz hb)|((with_reducible refine zf 112 _ _ rfl rfl ?_ (w.heap.size) ([.int .i64 1,.int .i64 1,.bool false,.bool false,.bool false,.bool false,.bool false,.bool false,.int .i64 0]) ([.int .i64 2,.int .i64 6,.bool true,.bool false,.bool false,.bool false,.bool false,.bool true,.int .i64 0]) HZZ0.o ?_ ?_ ?_ ?_ ?_ ?_);(exact wA rfl);rfl;rfl;rfl;kernel_rfl;exact zw;intro Z1 hz hb;have HZZ1:=I hz;have HBZ1:=I hb;clear hz hb))
  have HQ:=I HZZ1.o
  have HBQ:Hid (Below w.heap.size w Z1):=I ((HB0.o.trans (HBZ0.o.below HB0.o.size (Nat.le_refl _) (Nat.le_refl _))).trans (HBZ1.o.below (Nat.le_trans HB0.o.size HBZ0.o.size) (Nat.le_refl _) (Nat.le_refl _)))
  have HL9:Hid (([.int .i64 2,.int .i64 6,.bool true,.bool false,.bool false,.bool false,.bool false,.bool true,.int .i64 0]:List Value).length= 9):=I rfl
  go_wp2_with (first|((with_reducible refine za 112 _ rfl ?_ (w.heap.size) (0) ([.int .i64 2,.int .i64 6,.bool true,.bool false,.bool false,.bool false,.bool false,.bool true,.int .i64 0]) _ rfl HQ.o.range Tryz.underlying112 rfl ?_ ?_);(exact wA rfl);rw[HL9.o];kernel_rfl)|((with_reducible refine zf 112 _ _ rfl rfl ?_ (w.heap.size) ([.int .i64 2,.int .i64 6,.bool true,.bool false,.bool false,.bool false,.bool false,.bool true,.int .i64 0]) ([.int .i64 2,.int .i64 6,.bool true,.bool false,.bool false,.bool false,.bool false,.bool true,.int .i64 0]) HQ.o ?_ ?_ ?_ ?_ ?_ ?_);(exact wA rfl);rfl;rfl;rfl;kernel_rfl;exact zw;intro Z9 hz hb;have HZZ9:=I hz;have HBZ9:=I hb;clear hz hb))
  (try simp only[Exit.inBlock,Exit.then])
  refine bodyPost_ret (z01 rfl _ _ w.heap.size [.int .i64 2,.int .i64 6,.bool true,.bool false,.bool false,.bool false,.bool false,.bool true,.int .i64 0] rfl (.bool true) rfl HZZ9.o rfl) rfl ?_
  exact⟨_,rfl,rfl,zw,fun d hd=>by first|(injection hd with hd;subst hd;rfl)|(rw[hnone] at hd;cases hd),HBQ.o.trans (HBZ9.o.below HBQ.o.size (Nat.le_refl _) (Nat.le_refl _))⟩
 ·go_upto_region 21 with (first|((with_reducible refine zf 112 _ _ rfl rfl ?_ (w.heap.size) (zN9) ([.int .i64 1,.int .i64 1,.bool false,.bool false,.bool false,.bool false,.bool false,.bool false,.int .i64 0]) HW.o ?_ ?_ ?_ ?_ ?_ ?_);(exact wA rfl);rfl;rfl;rfl;kernel_rfl;exact zw;intro Z1 hz hb;have HZZ1:=I hz;have HBZ1:=I hb;clear hz hb))
  have HQ0:=I HZZ1.o
  have HBQ0:Hid (Below w.heap.size w Z1):=I (HB0.o.trans (HBZ1.o.below HB0.o.size (Nat.le_refl _) (Nat.le_refl _)))
  have e1:Z1.cell? ⟨w.heap.size,1,none⟩= some (.int .i64 1):=(by have h:=HQ0.o.range 1 (.int .i64 1) rfl;rwa [Nat.zero_add] at h)
  have f1:Z1.frozen? ⟨w.heap.size,1,none⟩= false:=HQ0.o.frozV (j:=1) (show 1 < 9 by decide)
  go_upto_region 27 with (fail)
  clear e1 f1
  have HP0x0:Hid (Whole 112 (Z1.setCell ⟨w.heap.size,1,none⟩ (.int .i64 6)) w.heap.size [.int .i64 1,.int .i64 6,.bool false,.bool false,.bool false,.bool false,.bool false,.bool false,.int .i64 0]):=I (Whole.putM (pre:=[.int .i64 1]) (post:=[.bool false,.bool false,.bool false,.bool false,.bool false,.bool false,.int .i64 0]) HQ0.o)
  have HR0x0:Hid (Below w.heap.size w (Z1.setCell ⟨w.heap.size,1,none⟩ (.int .i64 6))):=I (HBQ0.o.trans ((But.set1 Z1 w.heap.size w.heap.size 1 (.int .i64 6)).below HBQ0.o.size (Nat.le_refl _) (Nat.le_refl _)))
  obtain⟨Q1,hQ⟩:∃ z,(Z1.setCell ⟨w.heap.size,1,none⟩ (.int .i64 6))= z:=⟨_,rfl⟩
  have HQ1:=I (hQ▸HP0x0.o)
  have HBQ1:=I (hQ▸HR0x0.o)
  rw[hQ]
  clear hQ HP0x0 HR0x0
  have HQ:=I HQ1.o
  have HBQ:=I HBQ1.o
  have HL9:Hid (([.int .i64 1,.int .i64 6,.bool false,.bool false,.bool false,.bool false,.bool false,.bool false,.int .i64 0]:List Value).length= 9):=I rfl
  go_wp2_with (first|((with_reducible refine za 112 _ rfl ?_ (w.heap.size) (0) ([.int .i64 1,.int .i64 6,.bool false,.bool false,.bool false,.bool false,.bool false,.bool false,.int .i64 0]) _ rfl HQ.o.range Tryz.underlying112 rfl ?_ ?_);(exact wA rfl);rw[HL9.o];kernel_rfl)|((with_reducible refine zf 112 _ _ rfl rfl ?_ (w.heap.size) ([.int .i64 1,.int .i64 6,.bool false,.bool false,.bool false,.bool false,.bool false,.bool false,.int .i64 0]) ([.int .i64 1,.int .i64 6,.bool false,.bool false,.bool false,.bool false,.bool false,.bool false,.int .i64 0]) HQ.o ?_ ?_ ?_ ?_ ?_ ?_);(exact wA rfl);rfl;rfl;rfl;kernel_rfl;exact zw;intro Z9 hz hb;have HZZ9:=I hz;have HBZ9:=I hb;clear hz hb))
  (try simp only[Exit.inBlock,Exit.then])
  refine bodyPost_ret (z01 rfl _ _ w.heap.size [.int .i64 1,.int .i64 6,.bool false,.bool false,.bool false,.bool false,.bool false,.bool false,.int .i64 0] rfl (.bool true) rfl HZZ9.o rfl) rfl ?_
  exact⟨_,rfl,rfl,zw,fun d hd=>by first|(injection hd with hd;subst hd;rfl)|(rw[hnone] at hd;cases hd),HBQ.o.trans (HBZ9.o.below HBQ.o.size (Nat.le_refl _) (Nat.le_refl _))⟩
 ·go_upto_region 22 with (first|((with_reducible refine zf 112 _ _ rfl rfl ?_ (w.heap.size) (zN9) ([.int .i64 1,.int .i64 1,.bool false,.bool false,.bool false,.bool false,.bool false,.bool false,.int .i64 0]) HW.o ?_ ?_ ?_ ?_ ?_ ?_);(exact wA rfl);rfl;rfl;rfl;kernel_rfl;exact zw;intro Z1 hz hb;have HZZ1:=I hz;have HBZ1:=I hb;clear hz hb))
  have HQ0:=I HZZ1.o
  have HBQ0:Hid (Below w.heap.size w Z1):=I (HB0.o.trans (HBZ1.o.below HB0.o.size (Nat.le_refl _) (Nat.le_refl _)))
  have e5:Z1.cell? ⟨w.heap.size,5,none⟩= some (.bool false):=(by have h:=HQ0.o.range 5 (.bool false) rfl;rwa [Nat.zero_add] at h)
  have f5:Z1.frozen? ⟨w.heap.size,5,none⟩= false:=HQ0.o.frozV (j:=5) (show 5 < 9 by decide)
  have e7:Z1.cell? ⟨w.heap.size,7,none⟩= some (.bool false):=(by have h:=HQ0.o.range 7 (.bool false) rfl;rwa [Nat.zero_add] at h)
  have f7:Z1.frozen? ⟨w.heap.size,7,none⟩= false:=HQ0.o.frozV (j:=7) (show 7 < 9 by decide)
  have e8:Z1.cell? ⟨w.heap.size,8,none⟩= some (.int .i64 0):=(by have h:=HQ0.o.range 8 (.int .i64 0) rfl;rwa [Nat.zero_add] at h)
  have f8:Z1.frozen? ⟨w.heap.size,8,none⟩= false:=HQ0.o.frozV (j:=8) (show 8 < 9 by decide)
  go_upto_region 27 with (fail)
  clear e5 f5 e7 f7 e8 f8
  have HP0x0:Hid (Whole 112 (Z1.setCell ⟨w.heap.size,5,none⟩ (.bool true)) w.heap.size [.int .i64 1,.int .i64 1,.bool false,.bool false,.bool false,.bool true,.bool false,.bool false,.int .i64 0]):=I (Whole.putM (pre:=[.int .i64 1,.int .i64 1,.bool false,.bool false,.bool false]) (post:=[.bool false,.bool false,.int .i64 0]) HQ0.o)
  have HR0x0:Hid (Below w.heap.size w (Z1.setCell ⟨w.heap.size,5,none⟩ (.bool true))):=I (HBQ0.o.trans ((But.set1 Z1 w.heap.size w.heap.size 5 (.bool true)).below HBQ0.o.size (Nat.le_refl _) (Nat.le_refl _)))
  have HP0x1:Hid (Whole 112 ((Z1.setCell ⟨w.heap.size,5,none⟩ (.bool true)).setCell ⟨w.heap.size,7,none⟩ (.bool true)) w.heap.size [.int .i64 1,.int .i64 1,.bool false,.bool false,.bool false,.bool true,.bool false,.bool true,.int .i64 0]):=I (Whole.putM (pre:=[.int .i64 1,.int .i64 1,.bool false,.bool false,.bool false,.bool true,.bool false]) (post:=[.int .i64 0]) HP0x0.o)
  have HR0x1:Hid (Below w.heap.size w ((Z1.setCell ⟨w.heap.size,5,none⟩ (.bool true)).setCell ⟨w.heap.size,7,none⟩ (.bool true))):=I (HR0x0.o.trans ((But.set1 (Z1.setCell ⟨w.heap.size,5,none⟩ (.bool true)) w.heap.size w.heap.size 7 (.bool true)).below HR0x0.o.size (Nat.le_refl _) (Nat.le_refl _)))
  have HP0x2:Hid (Whole 112 (((Z1.setCell ⟨w.heap.size,5,none⟩ (.bool true)).setCell ⟨w.heap.size,7,none⟩ (.bool true)).setCell ⟨w.heap.size,8,none⟩ (.int .i64 1)) w.heap.size [.int .i64 1,.int .i64 1,.bool false,.bool false,.bool false,.bool true,.bool false,.bool true,.int .i64 1]):=I (Whole.putM (pre:=[.int .i64 1,.int .i64 1,.bool false,.bool false,.bool false,.bool true,.bool false,.bool true]) (post:=[]) HP0x1.o)
  have HR0x2:Hid (Below w.heap.size w (((Z1.setCell ⟨w.heap.size,5,none⟩ (.bool true)).setCell ⟨w.heap.size,7,none⟩ (.bool true)).setCell ⟨w.heap.size,8,none⟩ (.int .i64 1))):=I (HR0x1.o.trans ((But.set1 ((Z1.setCell ⟨w.heap.size,5,none⟩ (.bool true)).setCell ⟨w.heap.size,7,none⟩ (.bool true)) w.heap.size w.heap.size 8 (.int .i64 1)).below HR0x1.o.size (Nat.le_refl _) (Nat.le_refl _)))
  obtain⟨Q1,hQ⟩:∃ z,(((Z1.setCell ⟨w.heap.size,5,none⟩ (.bool true)).setCell ⟨w.heap.size,7,none⟩ (.bool true)).setCell ⟨w.heap.size,8,none⟩ (.int .i64 1))= z:=⟨_,rfl⟩
  have HQ1:=I (hQ▸HP0x2.o)
  have HBQ1:=I (hQ▸HR0x2.o)
  rw[hQ]
  clear hQ HP0x0 HR0x0 HP0x1 HR0x1 HP0x2 HR0x2
  have HQ:=I HQ1.o
  have HBQ:=I HBQ1.o
  have HL9:Hid (([.int .i64 1,.int .i64 1,.bool false,.bool false,.bool false,.bool true,.bool false,.bool true,.int .i64 1]:List Value).length= 9):=I rfl
  go_wp2_with (first|((with_reducible refine za 112 _ rfl ?_ (w.heap.size) (0) ([.int .i64 1,.int .i64 1,.bool false,.bool false,.bool false,.bool true,.bool false,.bool true,.int .i64 1]) _ rfl HQ.o.range Tryz.underlying112 rfl ?_ ?_);(exact wA rfl);rw[HL9.o];kernel_rfl)|((with_reducible refine zf 112 _ _ rfl rfl ?_ (w.heap.size) ([.int .i64 1,.int .i64 1,.bool false,.bool false,.bool false,.bool true,.bool false,.bool true,.int .i64 1]) ([.int .i64 1,.int .i64 1,.bool false,.bool false,.bool false,.bool true,.bool false,.bool true,.int .i64 1]) HQ.o ?_ ?_ ?_ ?_ ?_ ?_);(exact wA rfl);rfl;rfl;rfl;kernel_rfl;exact zw;intro Z9 hz hb;have HZZ9:=I hz;have HBZ9:=I hb;clear hz hb))
  (try simp only[Exit.inBlock,Exit.then])
  refine bodyPost_ret (z01 rfl _ _ w.heap.size [.int .i64 1,.int .i64 1,.bool false,.bool false,.bool false,.bool true,.bool false,.bool true,.int .i64 1] rfl (.bool true) rfl HZZ9.o rfl) rfl ?_
  exact⟨_,rfl,rfl,zw,fun d hd=>by first|(injection hd with hd;subst hd;rfl)|(rw[hnone] at hd;cases hd),HBQ.o.trans (HBZ9.o.below HBQ.o.size (Nat.le_refl _) (Nat.le_refl _))⟩
 ·go_upto_region 23 with (first|((with_reducible refine zf 112 _ _ rfl rfl ?_ (w.heap.size) (zN9) ([.int .i64 1,.int .i64 1,.bool false,.bool false,.bool false,.bool false,.bool false,.bool false,.int .i64 0]) HW.o ?_ ?_ ?_ ?_ ?_ ?_);(exact wA rfl);rfl;rfl;rfl;kernel_rfl;exact zw;intro Z1 hz hb;have HZZ1:=I hz;have HBZ1:=I hb;clear hz hb))
  have HQ0:=I HZZ1.o
  have HBQ0:Hid (Below w.heap.size w Z1):=I (HB0.o.trans (HBZ1.o.below HB0.o.size (Nat.le_refl _) (Nat.le_refl _)))
  have e8:Z1.cell? ⟨w.heap.size,8,none⟩= some (.int .i64 0):=(by have h:=HQ0.o.range 8 (.int .i64 0) rfl;rwa [Nat.zero_add] at h)
  have f8:Z1.frozen? ⟨w.heap.size,8,none⟩= false:=HQ0.o.frozV (j:=8) (show 8 < 9 by decide)
  go_upto_region 27 with (fail)
  clear e8 f8
  have HP0x0:Hid (Whole 112 (Z1.setCell ⟨w.heap.size,8,none⟩ (.int .i64 2)) w.heap.size [.int .i64 1,.int .i64 1,.bool false,.bool false,.bool false,.bool false,.bool false,.bool false,.int .i64 2]):=I (Whole.putM (pre:=[.int .i64 1,.int .i64 1,.bool false,.bool false,.bool false,.bool false,.bool false,.bool false]) (post:=[]) HQ0.o)
  have HR0x0:Hid (Below w.heap.size w (Z1.setCell ⟨w.heap.size,8,none⟩ (.int .i64 2))):=I (HBQ0.o.trans ((But.set1 Z1 w.heap.size w.heap.size 8 (.int .i64 2)).below HBQ0.o.size (Nat.le_refl _) (Nat.le_refl _)))
  obtain⟨Q1,hQ⟩:∃ z,(Z1.setCell ⟨w.heap.size,8,none⟩ (.int .i64 2))= z:=⟨_,rfl⟩
  have HQ1:=I (hQ▸HP0x0.o)
  have HBQ1:=I (hQ▸HR0x0.o)
  rw[hQ]
  clear hQ HP0x0 HR0x0
  have HQ:=I HQ1.o
  have HBQ:=I HBQ1.o
  have HL9:Hid (([.int .i64 1,.int .i64 1,.bool false,.bool false,.bool false,.bool false,.bool false,.bool false,.int .i64 2]:List Value).length= 9):=I rfl
  go_wp2_with (first|((with_reducible refine za 112 _ rfl ?_ (w.heap.size) (0) ([.int .i64 1,.int .i64 1,.bool false,.bool false,.bool false,.bool false,.bool false,.bool false,.int .i64 2]) _ rfl HQ.o.range Tryz.underlying112 rfl ?_ ?_);(exact wA rfl);rw[HL9.o];kernel_rfl)|((with_reducible refine zf 112 _ _ rfl rfl ?_ (w.heap.size) ([.int .i64 1,.int .i64 1,.bool false,.bool false,.bool false,.bool false,.bool false,.bool false,.int .i64 2]) ([.int .i64 1,.int .i64 1,.bool false,.bool false,.bool false,.bool false,.bool false,.bool false,.int .i64 2]) HQ.o ?_ ?_ ?_ ?_ ?_ ?_);(exact wA rfl);rfl;rfl;rfl;kernel_rfl;exact zw;intro Z9 hz hb;have HZZ9:=I hz;have HBZ9:=I hb;clear hz hb))
  (try simp only[Exit.inBlock,Exit.then])
  refine bodyPost_ret (z01 rfl _ _ w.heap.size [.int .i64 1,.int .i64 1,.bool false,.bool false,.bool false,.bool false,.bool false,.bool false,.int .i64 2] rfl (.bool true) rfl HZZ9.o rfl) rfl ?_
  exact⟨_,rfl,rfl,zw,fun d hd=>by first|(injection hd with hd;subst hd;rfl)|(rw[hnone] at hd;cases hd),HBQ.o.trans (HBZ9.o.below HBQ.o.size (Nat.le_refl _) (Nat.le_refl _))⟩
 ·go_upto_region 18 with (first|((with_reducible refine zf 112 _ _ rfl rfl ?_ (w.heap.size) (zN9) ([.int .i64 1,.int .i64 1,.bool false,.bool false,.bool false,.bool false,.bool false,.bool false,.int .i64 0]) HW.o ?_ ?_ ?_ ?_ ?_ ?_);(exact wA rfl);rfl;rfl;rfl;kernel_rfl;exact zw;intro Z1 hz hb;have HZZ1:=I hz;have HBZ1:=I hb;clear hz hb))
  have HQ0:=I HZZ1.o
  have HBQ0:Hid (Below w.heap.size w Z1):=I (HB0.o.trans (HBZ1.o.below HB0.o.size (Nat.le_refl _) (Nat.le_refl _)))
  have e6:Z1.cell? ⟨w.heap.size,6,none⟩= some (.bool false):=(by have h:=HQ0.o.range 6 (.bool false) rfl;rwa [Nat.zero_add] at h)
  have f6:Z1.frozen? ⟨w.heap.size,6,none⟩= false:=HQ0.o.frozV (j:=6) (show 6 < 9 by decide)
  go_upto_region 19 with (fail)
  clear e6 f6
  have HP0x0:Hid (Whole 112 (Z1.setCell ⟨w.heap.size,6,none⟩ (.bool true)) w.heap.size [.int .i64 1,.int .i64 1,.bool false,.bool false,.bool false,.bool false,.bool true,.bool false,.int .i64 0]):=I (Whole.putM (pre:=[.int .i64 1,.int .i64 1,.bool false,.bool false,.bool false,.bool false]) (post:=[.bool false,.int .i64 0]) HQ0.o)
  have HR0x0:Hid (Below w.heap.size w (Z1.setCell ⟨w.heap.size,6,none⟩ (.bool true))):=I (HBQ0.o.trans ((But.set1 Z1 w.heap.size w.heap.size 6 (.bool true)).below HBQ0.o.size (Nat.le_refl _) (Nat.le_refl _)))
  obtain⟨Q1,hQ⟩:∃ z,(Z1.setCell ⟨w.heap.size,6,none⟩ (.bool true))= z:=⟨_,rfl⟩
  have HQ1:=I (hQ▸HP0x0.o)
  have HBQ1:=I (hQ▸HR0x0.o)
  rw[hQ]
  clear hQ HP0x0 HR0x0
  have e3:Q1.cell? ⟨w.heap.size,3,none⟩= some (.bool false):=(by have h:=HQ1.o.range 3 (.bool false) rfl;rwa [Nat.zero_add] at h)
  have f3:Q1.frozen? ⟨w.heap.size,3,none⟩= false:=HQ1.o.frozV (j:=3) (show 3 < 9 by decide)
  have e5:Q1.cell? ⟨w.heap.size,5,none⟩= some (.bool false):=(by have h:=HQ1.o.range 5 (.bool false) rfl;rwa [Nat.zero_add] at h)
  have f5:Q1.frozen? ⟨w.heap.size,5,none⟩= false:=HQ1.o.frozV (j:=5) (show 5 < 9 by decide)
  have e7:Q1.cell? ⟨w.heap.size,7,none⟩= some (.bool false):=(by have h:=HQ1.o.range 7 (.bool false) rfl;rwa [Nat.zero_add] at h)
  have f7:Q1.frozen? ⟨w.heap.size,7,none⟩= false:=HQ1.o.frozV (j:=7) (show 7 < 9 by decide)
  go_upto_region 27 with (fail)
  clear e3 f3 e5 f5 e7 f7
  have HP1x0:Hid (Whole 112 (Q1.setCell ⟨w.heap.size,3,none⟩ (.bool true)) w.heap.size [.int .i64 1,.int .i64 1,.bool false,.bool true,.bool false,.bool false,.bool true,.bool false,.int .i64 0]):=I (Whole.putM (pre:=[.int .i64 1,.int .i64 1,.bool false]) (post:=[.bool false,.bool false,.bool true,.bool false,.int .i64 0]) HQ1.o)
  have HR1x0:Hid (Below w.heap.size w (Q1.setCell ⟨w.heap.size,3,none⟩ (.bool true))):=I (HBQ1.o.trans ((But.set1 Q1 w.heap.size w.heap.size 3 (.bool true)).below HBQ1.o.size (Nat.le_refl _) (Nat.le_refl _)))
  have HP1x1:Hid (Whole 112 ((Q1.setCell ⟨w.heap.size,3,none⟩ (.bool true)).setCell ⟨w.heap.size,5,none⟩ (.bool true)) w.heap.size [.int .i64 1,.int .i64 1,.bool false,.bool true,.bool false,.bool true,.bool true,.bool false,.int .i64 0]):=I (Whole.putM (pre:=[.int .i64 1,.int .i64 1,.bool false,.bool true,.bool false]) (post:=[.bool true,.bool false,.int .i64 0]) HP1x0.o)
  have HR1x1:Hid (Below w.heap.size w ((Q1.setCell ⟨w.heap.size,3,none⟩ (.bool true)).setCell ⟨w.heap.size,5,none⟩ (.bool true))):=I (HR1x0.o.trans ((But.set1 (Q1.setCell ⟨w.heap.size,3,none⟩ (.bool true)) w.heap.size w.heap.size 5 (.bool true)).below HR1x0.o.size (Nat.le_refl _) (Nat.le_refl _)))
  have HP1x2:Hid (Whole 112 (((Q1.setCell ⟨w.heap.size,3,none⟩ (.bool true)).setCell ⟨w.heap.size,5,none⟩ (.bool true)).setCell ⟨w.heap.size,7,none⟩ (.bool true)) w.heap.size [.int .i64 1,.int .i64 1,.bool false,.bool true,.bool false,.bool true,.bool true,.bool true,.int .i64 0]):=I (Whole.putM (pre:=[.int .i64 1,.int .i64 1,.bool false,.bool true,.bool false,.bool true,.bool true]) (post:=[.int .i64 0]) HP1x1.o)
  have HR1x2:Hid (Below w.heap.size w (((Q1.setCell ⟨w.heap.size,3,none⟩ (.bool true)).setCell ⟨w.heap.size,5,none⟩ (.bool true)).setCell ⟨w.heap.size,7,none⟩ (.bool true))):=I (HR1x1.o.trans ((But.set1 ((Q1.setCell ⟨w.heap.size,3,none⟩ (.bool true)).setCell ⟨w.heap.size,5,none⟩ (.bool true)) w.heap.size w.heap.size 7 (.bool true)).below HR1x1.o.size (Nat.le_refl _) (Nat.le_refl _)))
  obtain⟨Q2,hQ⟩:∃ z,(((Q1.setCell ⟨w.heap.size,3,none⟩ (.bool true)).setCell ⟨w.heap.size,5,none⟩ (.bool true)).setCell ⟨w.heap.size,7,none⟩ (.bool true))= z:=⟨_,rfl⟩
  have HQ2:=I (hQ▸HP1x2.o)
  have HBQ2:=I (hQ▸HR1x2.o)
  rw[hQ]
  clear hQ HP1x0 HR1x0 HP1x1 HR1x1 HP1x2 HR1x2
  have HQ:=I HQ2.o
  have HBQ:=I HBQ2.o
  have HL9:Hid (([.int .i64 1,.int .i64 1,.bool false,.bool true,.bool false,.bool true,.bool true,.bool true,.int .i64 0]:List Value).length= 9):=I rfl
  go_wp2_with (first|((with_reducible refine za 112 _ rfl ?_ (w.heap.size) (0) ([.int .i64 1,.int .i64 1,.bool false,.bool true,.bool false,.bool true,.bool true,.bool true,.int .i64 0]) _ rfl HQ.o.range Tryz.underlying112 rfl ?_ ?_);(exact wA rfl);rw[HL9.o];kernel_rfl)|((with_reducible refine zf 112 _ _ rfl rfl ?_ (w.heap.size) ([.int .i64 1,.int .i64 1,.bool false,.bool true,.bool false,.bool true,.bool true,.bool true,.int .i64 0]) ([.int .i64 1,.int .i64 1,.bool false,.bool true,.bool false,.bool true,.bool true,.bool true,.int .i64 0]) HQ.o ?_ ?_ ?_ ?_ ?_ ?_);(exact wA rfl);rfl;rfl;rfl;kernel_rfl;exact zw;intro Z9 hz hb;have HZZ9:=I hz;have HBZ9:=I hb;clear hz hb))
  (try simp only[Exit.inBlock,Exit.then])
  refine bodyPost_ret (z01 rfl _ _ w.heap.size [.int .i64 1,.int .i64 1,.bool false,.bool true,.bool false,.bool true,.bool true,.bool true,.int .i64 0] rfl (.bool true) rfl HZZ9.o rfl) rfl ?_
  exact⟨_,rfl,rfl,zw,fun d hd=>by first|(injection hd with hd;subst hd;rfl)|(rw[hnone] at hd;cases hd),HBQ.o.trans (HBZ9.o.below HBQ.o.size (Nat.le_refl _) (Nat.le_refl _))⟩
 ·go_upto_region 24 with (first|((with_reducible refine zf 112 _ _ rfl rfl ?_ (w.heap.size) (zN9) ([.int .i64 1,.int .i64 1,.bool false,.bool false,.bool false,.bool false,.bool false,.bool false,.int .i64 0]) HW.o ?_ ?_ ?_ ?_ ?_ ?_);(exact wA rfl);rfl;rfl;rfl;kernel_rfl;exact zw;intro Z1 hz hb;have HZZ1:=I hz;have HBZ1:=I hb;clear hz hb))
  have HQ0:=I HZZ1.o
  have HBQ0:Hid (Below w.heap.size w Z1):=I (HB0.o.trans (HBZ1.o.below HB0.o.size (Nat.le_refl _) (Nat.le_refl _)))
  have e3:Z1.cell? ⟨w.heap.size,3,none⟩= some (.bool false):=(by have h:=HQ0.o.range 3 (.bool false) rfl;rwa [Nat.zero_add] at h)
  have f3:Z1.frozen? ⟨w.heap.size,3,none⟩= false:=HQ0.o.frozV (j:=3) (show 3 < 9 by decide)
  have e4:Z1.cell? ⟨w.heap.size,4,none⟩= some (.bool false):=(by have h:=HQ0.o.range 4 (.bool false) rfl;rwa [Nat.zero_add] at h)
  have f4:Z1.frozen? ⟨w.heap.size,4,none⟩= false:=HQ0.o.frozV (j:=4) (show 4 < 9 by decide)
  have e6:Z1.cell? ⟨w.heap.size,6,none⟩= some (.bool false):=(by have h:=HQ0.o.range 6 (.bool false) rfl;rwa [Nat.zero_add] at h)
  have f6:Z1.frozen? ⟨w.heap.size,6,none⟩= false:=HQ0.o.frozV (j:=6) (show 6 < 9 by decide)
  have e7:Z1.cell? ⟨w.heap.size,7,none⟩= some (.bool false):=(by have h:=HQ0.o.range 7 (.bool false) rfl;rwa [Nat.zero_add] at h)
  have f7:Z1.frozen? ⟨w.heap.size,7,none⟩= false:=HQ0.o.frozV (j:=7) (show 7 < 9 by decide)
  go_upto_region 27 with (fail)
  clear e3 f3 e4 f4 e6 f6 e7 f7
  have HP0x0:Hid (Whole 112 (Z1.setCell ⟨w.heap.size,3,none⟩ (.bool true)) w.heap.size [.int .i64 1,.int .i64 1,.bool false,.bool true,.bool false,.bool false,.bool false,.bool false,.int .i64 0]):=I (Whole.putM (pre:=[.int .i64 1,.int .i64 1,.bool false]) (post:=[.bool false,.bool false,.bool false,.bool false,.int .i64 0]) HQ0.o)
  have HR0x0:Hid (Below w.heap.size w (Z1.setCell ⟨w.heap.size,3,none⟩ (.bool true))):=I (HBQ0.o.trans ((But.set1 Z1 w.heap.size w.heap.size 3 (.bool true)).below HBQ0.o.size (Nat.le_refl _) (Nat.le_refl _)))
  have HP0x1:Hid (Whole 112 ((Z1.setCell ⟨w.heap.size,3,none⟩ (.bool true)).setCell ⟨w.heap.size,4,none⟩ (.bool true)) w.heap.size [.int .i64 1,.int .i64 1,.bool false,.bool true,.bool true,.bool false,.bool false,.bool false,.int .i64 0]):=I (Whole.putM (pre:=[.int .i64 1,.int .i64 1,.bool false,.bool true]) (post:=[.bool false,.bool false,.bool false,.int .i64 0]) HP0x0.o)
  have HR0x1:Hid (Below w.heap.size w ((Z1.setCell ⟨w.heap.size,3,none⟩ (.bool true)).setCell ⟨w.heap.size,4,none⟩ (.bool true))):=I (HR0x0.o.trans ((But.set1 (Z1.setCell ⟨w.heap.size,3,none⟩ (.bool true)) w.heap.size w.heap.size 4 (.bool true)).below HR0x0.o.size (Nat.le_refl _) (Nat.le_refl _)))
  have HP0x2:Hid (Whole 112 (((Z1.setCell ⟨w.heap.size,3,none⟩ (.bool true)).setCell ⟨w.heap.size,4,none⟩ (.bool true)).setCell ⟨w.heap.size,6,none⟩ (.bool true)) w.heap.size [.int .i64 1,.int .i64 1,.bool false,.bool true,.bool true,.bool false,.bool true,.bool false,.int .i64 0]):=I (Whole.putM (pre:=[.int .i64 1,.int .i64 1,.bool false,.bool true,.bool true,.bool false]) (post:=[.bool false,.int .i64 0]) HP0x1.o)
  have HR0x2:Hid (Below w.heap.size w (((Z1.setCell ⟨w.heap.size,3,none⟩ (.bool true)).setCell ⟨w.heap.size,4,none⟩ (.bool true)).setCell ⟨w.heap.size,6,none⟩ (.bool true))):=I (HR0x1.o.trans ((But.set1 ((Z1.setCell ⟨w.heap.size,3,none⟩ (.bool true)).setCell ⟨w.heap.size,4,none⟩ (.bool true)) w.heap.size w.heap.size 6 (.bool true)).below HR0x1.o.size (Nat.le_refl _) (Nat.le_refl _)))
  have HP0x3:Hid (Whole 112 ((((Z1.setCell ⟨w.heap.size,3,none⟩ (.bool true)).setCell ⟨w.heap.size,4,none⟩ (.bool true)).setCell ⟨w.heap.size,6,none⟩ (.bool true)).setCell ⟨w.heap.size,7,none⟩ (.bool true)) w.heap.size [.int .i64 1,.int .i64 1,.bool false,.bool true,.bool true,.bool false,.bool true,.bool true,.int .i64 0]):=I (Whole.putM (pre:=[.int .i64 1,.int .i64 1,.bool false,.bool true,.bool true,.bool false,.bool true]) (post:=[.int .i64 0]) HP0x2.o)
  have HR0x3:Hid (Below w.heap.size w ((((Z1.setCell ⟨w.heap.size,3,none⟩ (.bool true)).setCell ⟨w.heap.size,4,none⟩ (.bool true)).setCell ⟨w.heap.size,6,none⟩ (.bool true)).setCell ⟨w.heap.size,7,none⟩ (.bool true))):=I (HR0x2.o.trans ((But.set1 (((Z1.setCell ⟨w.heap.size,3,none⟩ (.bool true)).setCell ⟨w.heap.size,4,none⟩ (.bool true)).setCell ⟨w.heap.size,6,none⟩ (.bool true)) w.heap.size w.heap.size 7 (.bool true)).below HR0x2.o.size (Nat.le_refl _) (Nat.le_refl _)))
  obtain⟨Q1,hQ⟩:∃ z,((((Z1.setCell ⟨w.heap.size,3,none⟩ (.bool true)).setCell ⟨w.heap.size,4,none⟩ (.bool true)).setCell ⟨w.heap.size,6,none⟩ (.bool true)).setCell ⟨w.heap.size,7,none⟩ (.bool true))= z:=⟨_,rfl⟩
  have HQ1:=I (hQ▸HP0x3.o)
  have HBQ1:=I (hQ▸HR0x3.o)
  rw[hQ]
  clear hQ HP0x0 HR0x0 HP0x1 HR0x1 HP0x2 HR0x2 HP0x3 HR0x3
  have HQ:=I HQ1.o
  have HBQ:=I HBQ1.o
  have HL9:Hid (([.int .i64 1,.int .i64 1,.bool false,.bool true,.bool true,.bool false,.bool true,.bool true,.int .i64 0]:List Value).length= 9):=I rfl
  go_wp2_with (first|((with_reducible refine za 112 _ rfl ?_ (w.heap.size) (0) ([.int .i64 1,.int .i64 1,.bool false,.bool true,.bool true,.bool false,.bool true,.bool true,.int .i64 0]) _ rfl HQ.o.range Tryz.underlying112 rfl ?_ ?_);(exact wA rfl);rw[HL9.o];kernel_rfl)|((with_reducible refine zf 112 _ _ rfl rfl ?_ (w.heap.size) ([.int .i64 1,.int .i64 1,.bool false,.bool true,.bool true,.bool false,.bool true,.bool true,.int .i64 0]) ([.int .i64 1,.int .i64 1,.bool false,.bool true,.bool true,.bool false,.bool true,.bool true,.int .i64 0]) HQ.o ?_ ?_ ?_ ?_ ?_ ?_);(exact wA rfl);rfl;rfl;rfl;kernel_rfl;exact zw;intro Z9 hz hb;have HZZ9:=I hz;have HBZ9:=I hb;clear hz hb))
  (try simp only[Exit.inBlock,Exit.then])
  refine bodyPost_ret (z01 rfl _ _ w.heap.size [.int .i64 1,.int .i64 1,.bool false,.bool true,.bool true,.bool false,.bool true,.bool true,.int .i64 0] rfl (.bool true) rfl HZZ9.o rfl) rfl ?_
  exact⟨_,rfl,rfl,zw,fun d hd=>by first|(injection hd with hd;subst hd;rfl)|(rw[hnone] at hd;cases hd),HBQ.o.trans (HBZ9.o.below HBQ.o.size (Nat.le_refl _) (Nat.le_refl _))⟩
 ·go_upto_region 17 with (first|((with_reducible refine zf 112 _ _ rfl rfl ?_ (w.heap.size) (zN9) ([.int .i64 1,.int .i64 1,.bool false,.bool false,.bool false,.bool false,.bool false,.bool false,.int .i64 0]) HW.o ?_ ?_ ?_ ?_ ?_ ?_);(exact wA rfl);rfl;rfl;rfl;kernel_rfl;exact zw;intro Z1 hz hb;have HZZ1:=I hz;have HBZ1:=I hb;clear hz hb))
  have HQ0:=I HZZ1.o
  have HBQ0:Hid (Below w.heap.size w Z1):=I (HB0.o.trans (HBZ1.o.below HB0.o.size (Nat.le_refl _) (Nat.le_refl _)))
  have e0:Z1.cell? ⟨w.heap.size,0,none⟩= some (.int .i64 1):=(by have h:=HQ0.o.range 0 (.int .i64 1) rfl;rwa [Nat.zero_add] at h)
  have f0:Z1.frozen? ⟨w.heap.size,0,none⟩= false:=HQ0.o.frozV (j:=0) (show 0 < 9 by decide)
  have e1:Z1.cell? ⟨w.heap.size,1,none⟩= some (.int .i64 1):=(by have h:=HQ0.o.range 1 (.int .i64 1) rfl;rwa [Nat.zero_add] at h)
  have f1:Z1.frozen? ⟨w.heap.size,1,none⟩= false:=HQ0.o.frozV (j:=1) (show 1 < 9 by decide)
  have e8:Z1.cell? ⟨w.heap.size,8,none⟩= some (.int .i64 0):=(by have h:=HQ0.o.range 8 (.int .i64 0) rfl;rwa [Nat.zero_add] at h)
  have f8:Z1.frozen? ⟨w.heap.size,8,none⟩= false:=HQ0.o.frozV (j:=8) (show 8 < 9 by decide)
  go_upto_region 18 with (fail)
  clear e0 f0 e1 f1 e8 f8
  have HP0x0:Hid (Whole 112 (Z1.setCell ⟨w.heap.size,0,none⟩ (.int .i64 2)) w.heap.size [.int .i64 2,.int .i64 1,.bool false,.bool false,.bool false,.bool false,.bool false,.bool false,.int .i64 0]):=I (Whole.putM (pre:=[]) (post:=[.int .i64 1,.bool false,.bool false,.bool false,.bool false,.bool false,.bool false,.int .i64 0]) HQ0.o)
  have HR0x0:Hid (Below w.heap.size w (Z1.setCell ⟨w.heap.size,0,none⟩ (.int .i64 2))):=I (HBQ0.o.trans ((But.set1 Z1 w.heap.size w.heap.size 0 (.int .i64 2)).below HBQ0.o.size (Nat.le_refl _) (Nat.le_refl _)))
  have HP0x1:Hid (Whole 112 ((Z1.setCell ⟨w.heap.size,0,none⟩ (.int .i64 2)).setCell ⟨w.heap.size,1,none⟩ (.int .i64 2)) w.heap.size [.int .i64 2,.int .i64 2,.bool false,.bool false,.bool false,.bool false,.bool false,.bool false,.int .i64 0]):=I (Whole.putM (pre:=[.int .i64 2]) (post:=[.bool false,.bool false,.bool false,.bool false,.bool false,.bool false,.int .i64 0]) HP0x0.o)
  have HR0x1:Hid (Below w.heap.size w ((Z1.setCell ⟨w.heap.size,0,none⟩ (.int .i64 2)).setCell ⟨w.heap.size,1,none⟩ (.int .i64 2))):=I (HR0x0.o.trans ((But.set1 (Z1.setCell ⟨w.heap.size,0,none⟩ (.int .i64 2)) w.heap.size w.heap.size 1 (.int .i64 2)).below HR0x0.o.size (Nat.le_refl _) (Nat.le_refl _)))
  have HP0x2:Hid (Whole 112 (((Z1.setCell ⟨w.heap.size,0,none⟩ (.int .i64 2)).setCell ⟨w.heap.size,1,none⟩ (.int .i64 2)).setCell ⟨w.heap.size,8,none⟩ (.int .i64 2)) w.heap.size [.int .i64 2,.int .i64 2,.bool false,.bool false,.bool false,.bool false,.bool false,.bool false,.int .i64 2]):=I (Whole.putM (pre:=[.int .i64 2,.int .i64 2,.bool false,.bool false,.bool false,.bool false,.bool false,.bool false]) (post:=[]) HP0x1.o)
  have HR0x2:Hid (Below w.heap.size w (((Z1.setCell ⟨w.heap.size,0,none⟩ (.int .i64 2)).setCell ⟨w.heap.size,1,none⟩ (.int .i64 2)).setCell ⟨w.heap.size,8,none⟩ (.int .i64 2))):=I (HR0x1.o.trans ((But.set1 ((Z1.setCell ⟨w.heap.size,0,none⟩ (.int .i64 2)).setCell ⟨w.heap.size,1,none⟩ (.int .i64 2)) w.heap.size w.heap.size 8 (.int .i64 2)).below HR0x1.o.size (Nat.le_refl _) (Nat.le_refl _)))
  obtain⟨Q1,hQ⟩:∃ z,(((Z1.setCell ⟨w.heap.size,0,none⟩ (.int .i64 2)).setCell ⟨w.heap.size,1,none⟩ (.int .i64 2)).setCell ⟨w.heap.size,8,none⟩ (.int .i64 2))= z:=⟨_,rfl⟩
  have HQ1:=I (hQ▸HP0x2.o)
  have HBQ1:=I (hQ▸HR0x2.o)
  rw[hQ]
  clear hQ HP0x0 HR0x0 HP0x1 HR0x1 HP0x2 HR0x2
  have e6:Q1.cell? ⟨w.heap.size,6,none⟩= some (.bool false):=(by have h:=HQ1.o.range 6 (.bool false) rfl;rwa [Nat.zero_add] at h)
  have f6:Q1.frozen? ⟨w.heap.size,6,none⟩= false:=HQ1.o.frozV (j:=6) (show 6 < 9 by decide)
  go_upto_region 19 with (fail)
  clear e6 f6
  have HP1x0:Hid (Whole 112 (Q1.setCell ⟨w.heap.size,6,none⟩ (.bool true)) w.heap.size [.int .i64 2,.int .i64 2,.bool false,.bool false,.bool false,.bool false,.bool true,.bool false,.int .i64 2]):=I (Whole.putM (pre:=[.int .i64 2,.int .i64 2,.bool false,.bool false,.bool false,.bool false]) (post:=[.bool false,.int .i64 2]) HQ1.o)
  have HR1x0:Hid (Below w.heap.size w (Q1.setCell ⟨w.heap.size,6,none⟩ (.bool true))):=I (HBQ1.o.trans ((But.set1 Q1 w.heap.size w.heap.size 6 (.bool true)).below HBQ1.o.size (Nat.le_refl _) (Nat.le_refl _)))
  obtain⟨Q2,hQ⟩:∃ z,(Q1.setCell ⟨w.heap.size,6,none⟩ (.bool true))= z:=⟨_,rfl⟩
  have HQ2:=I (hQ▸HP1x0.o)
  have HBQ2:=I (hQ▸HR1x0.o)
  rw[hQ]
  clear hQ HP1x0 HR1x0
  have e3:Q2.cell? ⟨w.heap.size,3,none⟩= some (.bool false):=(by have h:=HQ2.o.range 3 (.bool false) rfl;rwa [Nat.zero_add] at h)
  have f3:Q2.frozen? ⟨w.heap.size,3,none⟩= false:=HQ2.o.frozV (j:=3) (show 3 < 9 by decide)
  have e5:Q2.cell? ⟨w.heap.size,5,none⟩= some (.bool false):=(by have h:=HQ2.o.range 5 (.bool false) rfl;rwa [Nat.zero_add] at h)
  have f5:Q2.frozen? ⟨w.heap.size,5,none⟩= false:=HQ2.o.frozV (j:=5) (show 5 < 9 by decide)
  have e7:Q2.cell? ⟨w.heap.size,7,none⟩= some (.bool false):=(by have h:=HQ2.o.range 7 (.bool false) rfl;rwa [Nat.zero_add] at h)
  have f7:Q2.frozen? ⟨w.heap.size,7,none⟩= false:=HQ2.o.frozV (j:=7) (show 7 < 9 by decide)
  go_upto_region 27 with (fail)
  clear e3 f3 e5 f5 e7 f7
  have HP2x0:Hid (Whole 112 (Q2.setCell ⟨w.heap.size,3,none⟩ (.bool true)) w.heap.size [.int .i64 2,.int .i64 2,.bool false,.bool true,.bool false,.bool false,.bool true,.bool false,.int .i64 2]):=I (Whole.putM (pre:=[.int .i64 2,.int .i64 2,.bool false]) (post:=[.bool false,.bool false,.bool true,.bool false,.int .i64 2]) HQ2.o)
  have HR2x0:Hid (Below w.heap.size w (Q2.setCell ⟨w.heap.size,3,none⟩ (.bool true))):=I (HBQ2.o.trans ((But.set1 Q2 w.heap.size w.heap.size 3 (.bool true)).below HBQ2.o.size (Nat.le_refl _) (Nat.le_refl _)))
  have HP2x1:Hid (Whole 112 ((Q2.setCell ⟨w.heap.size,3,none⟩ (.bool true)).setCell ⟨w.heap.size,5,none⟩ (.bool true)) w.heap.size [.int .i64 2,.int .i64 2,.bool false,.bool true,.bool false,.bool true,.bool true,.bool false,.int .i64 2]):=I (Whole.putM (pre:=[.int .i64 2,.int .i64 2,.bool false,.bool true,.bool false]) (post:=[.bool true,.bool false,.int .i64 2]) HP2x0.o)
  have HR2x1:Hid (Below w.heap.size w ((Q2.setCell ⟨w.heap.size,3,none⟩ (.bool true)).setCell ⟨w.heap.size,5,none⟩ (.bool true))):=I (HR2x0.o.trans ((But.set1 (Q2.setCell ⟨w.heap.size,3,none⟩ (.bool true)) w.heap.size w.heap.size 5 (.bool true)).below HR2x0.o.size (Nat.le_refl _) (Nat.le_refl _)))
  have HP2x2:Hid (Whole 112 (((Q2.setCell ⟨w.heap.size,3,none⟩ (.bool true)).setCell ⟨w.heap.size,5,none⟩ (.bool true)).setCell ⟨w.heap.size,7,none⟩ (.bool true)) w.heap.size [.int .i64 2,.int .i64 2,.bool false,.bool true,.bool false,.bool true,.bool true,.bool true,.int .i64 2]):=I (Whole.putM (pre:=[.int .i64 2,.int .i64 2,.bool false,.bool true,.bool false,.bool true,.bool true]) (post:=[.int .i64 2]) HP2x1.o)
  have HR2x2:Hid (Below w.heap.size w (((Q2.setCell ⟨w.heap.size,3,none⟩ (.bool true)).setCell ⟨w.heap.size,5,none⟩ (.bool true)).setCell ⟨w.heap.size,7,none⟩ (.bool true))):=I (HR2x1.o.trans ((But.set1 ((Q2.setCell ⟨w.heap.size,3,none⟩ (.bool true)).setCell ⟨w.heap.size,5,none⟩ (.bool true)) w.heap.size w.heap.size 7 (.bool true)).below HR2x1.o.size (Nat.le_refl _) (Nat.le_refl _)))
  obtain⟨Q3,hQ⟩:∃ z,(((Q2.setCell ⟨w.heap.size,3,none⟩ (.bool true)).setCell ⟨w.heap.size,5,none⟩ (.bool true)).setCell ⟨w.heap.size,7,none⟩ (.bool true))= z:=⟨_,rfl⟩
  have HQ3:=I (hQ▸HP2x2.o)
  have HBQ3:=I (hQ▸HR2x2.o)
  rw[hQ]
  clear hQ HP2x0 HR2x0 HP2x1 HR2x1 HP2x2 HR2x2
  have HQ:=I HQ3.o
  have HBQ:=I HBQ3.o
  have HL9:Hid (([.int .i64 2,.int .i64 2,.bool false,.bool true,.bool false,.bool true,.bool true,.bool true,.int .i64 2]:List Value).length= 9):=I rfl
  go_wp2_with (first|((with_reducible refine za 112 _ rfl ?_ (w.heap.size) (0) ([.int .i64 2,.int .i64 2,.bool false,.bool true,.bool false,.bool true,.bool true,.bool true,.int .i64 2]) _ rfl HQ.o.range Tryz.underlying112 rfl ?_ ?_);(exact wA rfl);rw[HL9.o];kernel_rfl)|((with_reducible refine zf 112 _ _ rfl rfl ?_ (w.heap.size) ([.int .i64 2,.int .i64 2,.bool false,.bool true,.bool false,.bool true,.bool true,.bool true,.int .i64 2]) ([.int .i64 2,.int .i64 2,.bool false,.bool true,.bool false,.bool true,.bool true,.bool true,.int .i64 2]) HQ.o ?_ ?_ ?_ ?_ ?_ ?_);(exact wA rfl);rfl;rfl;rfl;kernel_rfl;exact zw;intro Z9 hz hb;have HZZ9:=I hz;have HBZ9:=I hb;clear hz hb))
  (try simp only[Exit.inBlock,Exit.then])
  refine bodyPost_ret (z01 rfl _ _ w.heap.size [.int .i64 2,.int .i64 2,.bool false,.bool true,.bool false,.bool true,.bool true,.bool true,.int .i64 2] rfl (.bool true) rfl HZZ9.o rfl) rfl ?_
  exact⟨_,rfl,rfl,zw,fun d hd=>by first|(injection hd with hd;subst hd;rfl)|(rw[hnone] at hd;cases hd),HBQ.o.trans (HBZ9.o.below HBQ.o.size (Nat.le_refl _) (Nat.le_refl _))⟩
 ·go_upto_region 25 with (first|((with_reducible refine zf 112 _ _ rfl rfl ?_ (w.heap.size) (zN9) ([.int .i64 1,.int .i64 1,.bool false,.bool false,.bool false,.bool false,.bool false,.bool false,.int .i64 0]) HW.o ?_ ?_ ?_ ?_ ?_ ?_);(exact wA rfl);rfl;rfl;rfl;kernel_rfl;exact zw;intro Z1 hz hb;have HZZ1:=I hz;have HBZ1:=I hb;clear hz hb))
  have HQ0:=I HZZ1.o
  have HBQ0:Hid (Below w.heap.size w Z1):=I (HB0.o.trans (HBZ1.o.below HB0.o.size (Nat.le_refl _) (Nat.le_refl _)))
  have e3:Z1.cell? ⟨w.heap.size,3,none⟩= some (.bool false):=(by have h:=HQ0.o.range 3 (.bool false) rfl;rwa [Nat.zero_add] at h)
  have f3:Z1.frozen? ⟨w.heap.size,3,none⟩= false:=HQ0.o.frozV (j:=3) (show 3 < 9 by decide)
  have e4:Z1.cell? ⟨w.heap.size,4,none⟩= some (.bool false):=(by have h:=HQ0.o.range 4 (.bool false) rfl;rwa [Nat.zero_add] at h)
  have f4:Z1.frozen? ⟨w.heap.size,4,none⟩= false:=HQ0.o.frozV (j:=4) (show 4 < 9 by decide)
  have e5:Z1.cell? ⟨w.heap.size,5,none⟩= some (.bool false):=(by have h:=HQ0.o.range 5 (.bool false) rfl;rwa [Nat.zero_add] at h)
  have f5:Z1.frozen? ⟨w.heap.size,5,none⟩= false:=HQ0.o.frozV (j:=5) (show 5 < 9 by decide)
  go_upto_region 27 with (fail)
  clear e3 f3 e4 f4 e5 f5
  have HP0x0:Hid (Whole 112 (Z1.setCell ⟨w.heap.size,3,none⟩ (.bool true)) w.heap.size [.int .i64 1,.int .i64 1,.bool false,.bool true,.bool false,.bool false,.bool false,.bool false,.int .i64 0]):=I (Whole.putM (pre:=[.int .i64 1,.int .i64 1,.bool false]) (post:=[.bool false,.bool false,.bool false,.bool false,.int .i64 0]) HQ0.o)
  have HR0x0:Hid (Below w.heap.size w (Z1.setCell ⟨w.heap.size,3,none⟩ (.bool true))):=I (HBQ0.o.trans ((But.set1 Z1 w.heap.size w.heap.size 3 (.bool true)).below HBQ0.o.size (Nat.le_refl _) (Nat.le_refl _)))
  have HP0x1:Hid (Whole 112 ((Z1.setCell ⟨w.heap.size,3,none⟩ (.bool true)).setCell ⟨w.heap.size,4,none⟩ (.bool true)) w.heap.size [.int .i64 1,.int .i64 1,.bool false,.bool true,.bool true,.bool false,.bool false,.bool false,.int .i64 0]):=I (Whole.putM (pre:=[.int .i64 1,.int .i64 1,.bool false,.bool true]) (post:=[.bool false,.bool false,.bool false,.int .i64 0]) HP0x0.o)
  have HR0x1:Hid (Below w.heap.size w ((Z1.setCell ⟨w.heap.size,3,none⟩ (.bool true)).setCell ⟨w.heap.size,4,none⟩ (.bool true))):=I (HR0x0.o.trans ((But.set1 (Z1.setCell ⟨w.heap.size,3,none⟩ (.bool true)) w.heap.size w.heap.size 4 (.bool true)).below HR0x0.o.size (Nat.le_refl _) (Nat.le_refl _)))
  have HP0x2:Hid (Whole 112 (((Z1.setCell ⟨w.heap.size,3,none⟩ (.bool true)).setCell ⟨w.heap.size,4,none⟩ (.bool true)).setCell ⟨w.heap.size,5,none⟩ (.bool true)) w.heap.size [.int .i64 1,.int .i64 1,.bool false,.bool true,.bool true,.bool true,.bool false,.bool false,.int .i64 0]):=I (Whole.putM (pre:=[.int .i64 1,.int .i64 1,.bool false,.bool true,.bool true]) (post:=[.bool false,.bool false,.int .i64 0]) HP0x1.o)
  have HR0x2:Hid (Below w.heap.size w (((Z1.setCell ⟨w.heap.size,3,none⟩ (.bool true)).setCell ⟨w.heap.size,4,none⟩ (.bool true)).setCell ⟨w.heap.size,5,none⟩ (.bool true))):=I (HR0x1.o.trans ((But.set1 ((Z1.setCell ⟨w.heap.size,3,none⟩ (.bool true)).setCell ⟨w.heap.size,4,none⟩ (.bool true)) w.heap.size w.heap.size 5 (.bool true)).below HR0x1.o.size (Nat.le_refl _) (Nat.le_refl _)))
  obtain⟨Q1,hQ⟩:∃ z,(((Z1.setCell ⟨w.heap.size,3,none⟩ (.bool true)).setCell ⟨w.heap.size,4,none⟩ (.bool true)).setCell ⟨w.heap.size,5,none⟩ (.bool true))= z:=⟨_,rfl⟩
  have HQ1:=I (hQ▸HP0x2.o)
  have HBQ1:=I (hQ▸HR0x2.o)
  rw[hQ]
  clear hQ HP0x0 HR0x0 HP0x1 HR0x1 HP0x2 HR0x2
  have HQ:=I HQ1.o
  have HBQ:=I HBQ1.o
  have HL9:Hid (([.int .i64 1,.int .i64 1,.bool false,.bool true,.bool true,.bool true,.bool false,.bool false,.int .i64 0]:List Value).length= 9):=I rfl
  go_wp2_with (first|((with_reducible refine za 112 _ rfl ?_ (w.heap.size) (0) ([.int .i64 1,.int .i64 1,.bool false,.bool true,.bool true,.bool true,.bool false,.bool false,.int .i64 0]) _ rfl HQ.o.range Tryz.underlying112 rfl ?_ ?_);(exact wA rfl);rw[HL9.o];kernel_rfl)|((with_reducible refine zf 112 _ _ rfl rfl ?_ (w.heap.size) ([.int .i64 1,.int .i64 1,.bool false,.bool true,.bool true,.bool true,.bool false,.bool false,.int .i64 0]) ([.int .i64 1,.int .i64 1,.bool false,.bool true,.bool true,.bool true,.bool false,.bool false,.int .i64 0]) HQ.o ?_ ?_ ?_ ?_ ?_ ?_);(exact wA rfl);rfl;rfl;rfl;kernel_rfl;exact zw;intro Z9 hz hb;have HZZ9:=I hz;have HBZ9:=I hb;clear hz hb))
  (try simp only[Exit.inBlock,Exit.then])
  refine bodyPost_ret (z01 rfl _ _ w.heap.size [.int .i64 1,.int .i64 1,.bool false,.bool true,.bool true,.bool true,.bool false,.bool false,.int .i64 0] rfl (.bool true) rfl HZZ9.o rfl) rfl ?_
  exact⟨_,rfl,rfl,zw,fun d hd=>by first|(injection hd with hd;subst hd;rfl)|(rw[hnone] at hd;cases hd),HBQ.o.trans (HBZ9.o.below HBQ.o.size (Nat.le_refl _) (Nat.le_refl _))⟩
 ·go_upto_region 27 with (first|((with_reducible refine zf 112 _ _ rfl rfl ?_ (w.heap.size) (zN9) ([.int .i64 1,.int .i64 1,.bool false,.bool false,.bool false,.bool false,.bool false,.bool false,.int .i64 0]) HW.o ?_ ?_ ?_ ?_ ?_ ?_);(exact wA rfl);rfl;rfl;rfl;kernel_rfl;exact zw;intro Z0 hz hb;have HZZ0:=I hz;have HBZ0:=I hb;clear hz hb)|((with_reducible refine zf 112 _ _ rfl rfl ?_ (w.heap.size) ([.int .i64 1,.int .i64 1,.bool false,.bool false,.bool false,.bool false,.bool false,.bool false,.int .i64 0]) ([.int .i64 0,.int .i64 0,.bool false,.bool false,.bool false,.bool false,.bool false,.bool false,.int .i64 0]) HZZ0.o ?_ ?_ ?_ ?_ ?_ ?_);(exact wA rfl);rfl;rfl;rfl;kernel_rfl;exact zw;intro Z1 hz hb;have HZZ1:=I hz;have HBZ1:=I hb;clear hz hb))
  have HQ:=I HZZ1.o
  have HBQ:Hid (Below w.heap.size w Z1):=I ((HB0.o.trans (HBZ0.o.below HB0.o.size (Nat.le_refl _) (Nat.le_refl _))).trans (HBZ1.o.below (Nat.le_trans HB0.o.size HBZ0.o.size) (Nat.le_refl _) (Nat.le_refl _)))
  have HL9:Hid (([.int .i64 0,.int .i64 0,.bool false,.bool false,.bool false,.bool false,.bool false,.bool false,.int .i64 0]:List Value).length= 9):=I rfl
  go_wp2_with (first|((with_reducible refine za 112 _ rfl ?_ (w.heap.size) (0) ([.int .i64 0,.int .i64 0,.bool false,.bool false,.bool false,.bool false,.bool false,.bool false,.int .i64 0]) _ rfl HQ.o.range Tryz.underlying112 rfl ?_ ?_);(exact wA rfl);rw[HL9.o];kernel_rfl)|((with_reducible refine zf 112 _ _ rfl rfl ?_ (w.heap.size) ([.int .i64 0,.int .i64 0,.bool false,.bool false,.bool false,.bool false,.bool false,.bool false,.int .i64 0]) ([.int .i64 0,.int .i64 0,.bool false,.bool false,.bool false,.bool false,.bool false,.bool false,.int .i64 0]) HQ.o ?_ ?_ ?_ ?_ ?_ ?_);(exact wA rfl);rfl;rfl;rfl;kernel_rfl;exact zw;intro Z9 hz hb;have HZZ9:=I hz;have HBZ9:=I hb;clear hz hb))
  (try simp only[Exit.inBlock,Exit.then])
  refine bodyPost_ret (z01 rfl _ _ w.heap.size [.int .i64 0,.int .i64 0,.bool false,.bool false,.bool false,.bool false,.bool false,.bool false,.int .i64 0] rfl (.bool true) rfl HZZ9.o rfl) rfl ?_
  exact⟨_,rfl,rfl,zw,fun d hd=>by first|(injection hd with hd;subst hd;rfl)|(rw[hnone] at hd;cases hd),HBQ.o.trans (HBZ9.o.below HBQ.o.size (Nat.le_refl _) (Nat.le_refl _))⟩
 ·have q1:(k ==1)= false:=by rw[beq_eq_false_iff_ne];exact h1
  have q2:(k ==2)= false:=by rw[beq_eq_false_iff_ne];exact h2
  have q3:(k ==3)= false:=by rw[beq_eq_false_iff_ne];exact h3
  have q4:(k ==4)= false:=by rw[beq_eq_false_iff_ne];exact h4
  have q5:(k ==5)= false:=by rw[beq_eq_false_iff_ne];exact h5
  have q6:(k ==6)= false:=by rw[beq_eq_false_iff_ne];exact h6
  have q7:(k ==7)= false:=by rw[beq_eq_false_iff_ne];exact h7
  have q8:(k ==8)= false:=by rw[beq_eq_false_iff_ne];exact h8
  have q9:(k ==9)= false:=by rw[beq_eq_false_iff_ne];exact h9
  have q10:(k ==10)= false:=by rw[beq_eq_false_iff_ne];exact h10
  have q11:(k ==11)= false:=by rw[beq_eq_false_iff_ne];exact h11
  have q12:(k ==12)= false:=by rw[beq_eq_false_iff_ne];exact h12
  have q13:(k ==13)= false:=by rw[beq_eq_false_iff_ne];exact h13
  clear h1 h2 h3 h4 h5 h6 h7 h8 h9 h10 h11 h12 h13
  go_upto_region 26 with (first|((with_reducible refine zf 112 _ _ rfl rfl ?_ (w.heap.size) (zN9) ([.int .i64 1,.int .i64 1,.bool false,.bool false,.bool false,.bool false,.bool false,.bool false,.int .i64 0]) HW.o ?_ ?_ ?_ ?_ ?_ ?_);(exact wA rfl);rfl;rfl;rfl;kernel_rfl;exact zw;intro Z1 hz hb;have HZZ1:=I hz;have HBZ1:=I hb;clear hz hb))
  have HQ:=I HZZ1.o
  have HBQ:Hid (Below w.heap.size w Z1):=I (HB0.o.trans (HBZ1.o.below HB0.o.size (Nat.le_refl _) (Nat.le_refl _)))
  have HL9:Hid (([.int .i64 1,.int .i64 1,.bool false,.bool false,.bool false,.bool false,.bool false,.bool false,.int .i64 0]:List Value).length= 9):=I rfl
  go_wp2_with (first|((with_reducible refine za 112 _ rfl ?_ (w.heap.size) (0) ([.int .i64 1,.int .i64 1,.bool false,.bool false,.bool false,.bool false,.bool false,.bool false,.int .i64 0]) _ rfl HQ.o.range Tryz.underlying112 rfl ?_ ?_);(exact wA rfl);rw[HL9.o];kernel_rfl)|((with_reducible refine zf 112 _ _ rfl rfl ?_ (w.heap.size) ([.int .i64 1,.int .i64 1,.bool false,.bool false,.bool false,.bool false,.bool false,.bool false,.int .i64 0]) ([.int .i64 1,.int .i64 1,.bool false,.bool false,.bool false,.bool false,.bool false,.bool false,.int .i64 0]) HQ.o ?_ ?_ ?_ ?_ ?_ ?_);(exact wA rfl);rfl;rfl;rfl;kernel_rfl;exact zw;intro Z9 hz hb;have HZZ9:=I hz;have HBZ9:=I hb;clear hz hb))
  (try simp only[Exit.inBlock,Exit.then])
  refine bodyPost_ret (z01 rfl _ _ w.heap.size [.int .i64 1,.int .i64 1,.bool false,.bool false,.bool false,.bool false,.bool false,.bool false,.int .i64 0] rfl (.bool false) rfl HZZ9.o rfl) rfl ?_
  exact⟨_,by rw[hnone];rfl,rfl,zw,fun d hd=>by first|(injection hd with hd;subst hd;rfl)|(rw[hnone] at hd;cases hd),HBQ.o.trans (HBZ9.o.below HBQ.o.size (Nat.le_refl _) (Nat.le_refl _))⟩
end
end Go.Proofs.YtdjfpcmlffekkaaGreatDoor
