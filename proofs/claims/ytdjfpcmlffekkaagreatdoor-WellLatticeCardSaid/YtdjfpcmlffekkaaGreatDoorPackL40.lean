/- Parts of a proof: TJoin, TOwn. -/
import Derived.Test.YtdjfpcmlffekkaaGreatDoorPackL8
import Derived.Test.YtdjfpcmlffekkaaGreatDoorPackL12
import Derived.Test.YtdjfpcmlffekkaaGreatDoorPackL28
import Derived.Test.YtdjfpcmlffekkaaGreatDoorPackL36
import Derived.Test.YtdjfpcmlffekkaaGreatDoorPackL39
set_option maxHeartbeats 8000000
set_option maxRecDepth 100000
set_option linter.unusedVariables false
set_option linter.unusedSimpArgs false
namespace Go.Proofs.YtdjfpcmlffekkaaGreatDoor
section
open Go Go.RowKit
def JPost (p:Nat->Prop) (r:Option TT) (w:World) (e:Ending) (w':World):Prop:=
 (∃ t cs,r= some t/\e= .returned (.agg ⟨cs⟩)/\KeptT (fun b=>p b\/w.heap.size<=b) w' cs t/\Below w.heap.size w w')\/(r= none/\e= panE 6/\Below w.heap.size w w')
theorem z3O {ka kb:Int} {na nb:List ByteArray} {ia ib:List TT} (ha:stT (.mk ka na ia)= true) (hb:stT (.mk kb nb ib)= true) (h7:ka≠7) (h8:kb≠7) (h:((ka ==kb) && eqN na nb)= false):joinT (.mk ka na ia) (.mk kb nb ib)= none:=by
 rw[z3G ha hb h7 h8,h]
 rfl
theorem z77 {ka:Int} {na:List ByteArray} {ia ib:List TT} (ha:stT (.mk ka na ia)= true) (hb:stT (.mk ka na ib)= true) (h7:ka≠7):joinT (.mk ka na ia) (.mk ka na ib)= match zZ ia ib with|none=>none|some l=>some (.mk ka na l):=by
 rw[z3G ha hb h7 h7,if_pos (by rw[Bool.and_eq_true,z1z];simp)]
 cases zZ ia ib<;>rfl
theorem z6A {k:Int} {ns:List ByteArray} {its:List TT} (h:stT (.mk k ns its)= true):∀ x∈its,stT x= true:=by
 rw[stT,Bool.and_eq_true,z4p] at h
 exact h.2
theorem z2I:∀ (a b:TT),jok a= true->jok b= true->stT a= true->stT b= true->∀ (p:Nat->Prop) (ca cb:List Value) (w:World),(∀ b,p b->b < w.heap.size)->KeptT p w ca a->KeptT p w cb b->
  Calls Tryz.prog 112 #[.agg ⟨ca⟩,.agg ⟨cb⟩] w (JPost p (joinT a b) w):=by
 intro a
 induction a using TT.ind with
 |h ka na ia ih=>
  intro b hja hjb hsa hsb p ca cb w hp hka hkb
  cases b with
  |mk kb nb ib=>
   have IH:=I ih
   have HP:=I hp
   have HKA:=I hka
   have HKB:=I hkb
   have HSA:=I hsa
   have HSB:=I hsb
   obtain⟨hA,hA2⟩:=z1t.1 hja
   obtain⟨hB,hB2⟩:=z1t.1 hjb
   have HJA:=I hA2
   have HJB:=I hB2
   obtain⟨vn,vi,e1,hwa,hna,_,hia⟩:=TypAt.inv hka
   obtain⟨vn',vi',e2,hwb,hnb,_,hib⟩:=TypAt.inv hkb
   obtain⟨NA,nc,A,c,e3,_,h1,h2,h3⟩:=hka.inv
   obtain⟨NB,nd,B,d,e4,_,h4,h5,h6⟩:=hkb.inv
   subst e3 e4
   simp only[List.cons.injEq,and_true,true_and] at e1 e2
   obtain⟨rfl,rfl⟩:=e1
   obtain⟨rfl,rfl⟩:=e2
   have HNA0:=I hna
   have HNB0:=I hnb
   have HIA:=I h3
   have HIB:=I h6
   have HNM:=I h2
   have HWA:=I hwa
   have HI1000:=I hA.2.1
   have HN1000:=I hA.1
   have HL3:Hid (∀ a b c:Value,[a,b,c].length= 3):=I fun _ _ _=>rfl
   have hin:ia.length<=1000:=hA.2.1
   have hnn:na.length<=1000:=hA.1
   have hin2:ib.length<=1000:=hB.2.1
   have hnn2:nb.length<=1000:=hB.1
   clear ih hp hka hkb hja hjb hA hA2 hB hB2 h1 h2 h3 h4 h5 h6 hwa hwb hsa hsb hna hnb hia hib
   go_enter Tryz.func112,Tryz.ntmps112
   go_upto_region 1 with (fail)
   have hz3:(#[Value.int IntKind.i64 0,Value.slice none 0 0,Value.slice none 0 0]:Array Value)= zT3.toArray:=rfl
   rw[hz3]
   clear hz3
   have g1:=zd w (.cells ⟨[.int .i64 ka,.slice NA na.length nc,.slice A ia.length c]⟩ 41)
   have g2:=zd (w.alloc (.cells ⟨[.int .i64 ka,.slice NA na.length nc,.slice A ia.length c]⟩ 41)) (.cells ⟨[.int .i64 kb,.slice NB nb.length nd,.slice B ib.length d]⟩ 41)
   have g3:=zd ((w.alloc (.cells ⟨[.int .i64 ka,.slice NA na.length nc,.slice A ia.length c]⟩ 41)).alloc (.cells ⟨[.int .i64 kb,.slice NB nb.length nd,.slice B ib.length d]⟩ 41)) (.cells zT3.toArray 41)
   have hA:=((Whole.new w [.int .i64 ka,.slice NA na.length nc,.slice A ia.length c] 41).keep (g2.block _ (by simp))).keep (g3.block _ (by simp;omega))
   have hB:=(Whole.new (w.alloc (.cells ⟨[.int .i64 ka,.slice NA na.length nc,.slice A ia.length c]⟩ 41)) [.int .i64 kb,.slice NB nb.length nd,.slice B ib.length d] 41).keep (g3.block _ (by simp))
   have hR:=Whole.new ((w.alloc (.cells ⟨[.int .i64 ka,.slice NA na.length nc,.slice A ia.length c]⟩ 41)).alloc (.cells ⟨[.int .i64 kb,.slice NB nb.length nd,.slice B ib.length d]⟩ 41)) zT3 41
   rw[show(w.alloc (.cells ⟨[.int .i64 ka,.slice NA na.length nc,.slice A ia.length c]⟩ 41)).heap.size= w.heap.size+1 by simp] at hB
   rw[show((w.alloc (.cells ⟨[.int .i64 ka,.slice NA na.length nc,.slice A ia.length c]⟩ 41)).alloc (.cells ⟨[.int .i64 kb,.slice NB nb.length nd,.slice B ib.length d]⟩ 41)).heap.size= w.heap.size+2 by simp] at hR
   have hbl:Below w.heap.size w (((w.alloc (.cells ⟨[.int .i64 ka,.slice NA na.length nc,.slice A ia.length c]⟩ 41)).alloc (.cells ⟨[.int .i64 kb,.slice NB nb.length nd,.slice B ib.length d]⟩ 41)).alloc (.cells zT3.toArray 41)):=g1.trans ((g2.mono g1.size).trans (g3.mono (Nat.le_trans g1.size g2.size)))
   have HA:=I hA
   have HB:=I hB
   have HR:=I hR
   have HBL:=I hbl
   clear g1 g2 g3 hA hB hR hbl
   generalize ((w.alloc (.cells ⟨[.int .i64 ka,.slice NA na.length nc,.slice A ia.length c]⟩ 41)).alloc (.cells ⟨[.int .i64 kb,.slice NB nb.length nd,.slice B ib.length d]⟩ 41)).alloc (.cells zT3.toArray 41)= W at*
   obtain⟨r,hr⟩:∃ r,w.heap.size+2= r:=⟨_,rfl⟩
   have HRE:=I hr
   have HRG:Hid (w.heap.size<=r):=I (by omega)
   rw[hr] at HR
   rw[hr]
   clear hr
   have a0:W.cell? ⟨w.heap.size,0,none⟩= some (.int .i64 ka):=HA.o.range 0 _ rfl
   have b0:W.cell? ⟨w.heap.size+1,0,none⟩= some (.int .i64 kb):=HB.o.range 0 _ rfl
   have a1:W.cell? ⟨w.heap.size,1,none⟩= some (.slice NA na.length nc):=HA.o.range 1 _ rfl
   have b1:W.cell? ⟨w.heap.size+1,1,none⟩= some (.slice NB nb.length nd):=HB.o.range 1 _ rfl
   by_cases h7:ka= 7
   ·subst h7
    have HJ:Hid (joinT (.mk 7 na ia) (.mk kb nb ib)= some (.mk kb nb ib)):=I (by rw[joinT,if_pos rfl])
    go_wp2_with (first|((with_reducible refine za 41 _ rfl ?_ (w.heap.size+1) (0) ([.int .i64 kb,.slice NB nb.length nd,.slice B ib.length d]) _ rfl HB.o.range Tryz.underlying41 rfl ?_ ?_);(exact wA rfl);rw[HL3.o];kernel_rfl)|((with_reducible refine zf 41 _ _ rfl rfl ?_ (r) (zT3) ([.int .i64 kb,.slice NB nb.length nd,.slice B ib.length d]) HR.o ?_ ?_ ?_ ?_ ?_ ?_);(exact wA rfl);rfl;rfl;rfl;kernel_rfl;exact(zI _ _ _ _ _ _ _);intro Z hz hb;have HZZ:=I hz;have HBZ:=I hb;clear hz hb))
    (try simp only[Exit.inBlock,Exit.then])
    refine bodyPost_ret (zK rfl _ _ r ([.int .i64 kb,.slice NB nb.length nd,.slice B ib.length d]) rfl rfl HZZ.o) rfl ?_
    refine .inl ⟨_,_,HJ.o,rfl,?_,HBL.o.trans (HBZ.o.below HBL.o.size HRG.o HRG.o)⟩
    exact HKB.o.to (fun b hb hl=>⟨.inl hb,(HBZ.o.block b (Nat.lt_of_lt_of_le hl HBL.o.size) (by have:=HRE.o;omega) (by have:=HRE.o;omega)).trans (HBL.o.block b hl)⟩) (Nat.le_trans HBL.o.size HBZ.o.size)
   have h7b:(ka ==7)= false:=by rw[beq_eq_false_iff_ne];exact h7
   by_cases h8:kb= 7
   ·subst h8
    have HJ:Hid (joinT (.mk ka na ia) (.mk 7 nb ib)= some (.mk ka na ia)):=I (by rw[joinT,if_neg h7,if_pos rfl])
    go_wp2_with (first|((with_reducible refine za 41 _ rfl ?_ (w.heap.size) (0) ([.int .i64 ka,.slice NA na.length nc,.slice A ia.length c]) _ rfl HA.o.range Tryz.underlying41 rfl ?_ ?_);(exact wA rfl);rw[HL3.o];kernel_rfl)|((with_reducible refine zf 41 _ _ rfl rfl ?_ (r) (zT3) ([.int .i64 ka,.slice NA na.length nc,.slice A ia.length c]) HR.o ?_ ?_ ?_ ?_ ?_ ?_);(exact wA rfl);rfl;rfl;rfl;kernel_rfl;exact(zI _ _ _ _ _ _ _);intro Z hz hb;have HZZ:=I hz;have HBZ:=I hb;clear hz hb))
    (try simp only[Exit.inBlock,Exit.then])
    refine bodyPost_ret (zK rfl _ _ r ([.int .i64 ka,.slice NA na.length nc,.slice A ia.length c]) rfl rfl HZZ.o) rfl ?_
    refine .inl ⟨_,_,HJ.o,rfl,?_,HBL.o.trans (HBZ.o.below HBL.o.size HRG.o HRG.o)⟩
    exact HKA.o.to (fun b hb hl=>⟨.inl hb,(HBZ.o.block b (Nat.lt_of_lt_of_le hl HBL.o.size) (by have:=HRE.o;omega) (by have:=HRE.o;omega)).trans (HBL.o.block b hl)⟩) (Nat.le_trans HBL.o.size HBZ.o.size)
   have h8b:(kb ==7)= false:=by rw[beq_eq_false_iff_ne];exact h8
   cases hkk:(ka ==kb) with
   |false=>
    have HNO:Hid (joinT (.mk ka na ia) (.mk kb nb ib)= none):=I (z3O HSA.o HSB.o h7 h8 (by rw[hkk];rfl))
    go_wp2_with (first|(go_at_call 109;refine(z02 6 _).mono ?_;rintro e z ⟨rfl,hzw⟩;rw[hzw];clear hzw z))
    exact⟨rfl,.inr ⟨HNO.o,rfl,HBL.o⟩⟩
   |true=>
   obtain rfl:ka= kb:=by simpa using hkk
   have HN:=I (z3o (.slice NA na.length nc) (.slice NB nb.length nd) na nb W (((SlAt.cells HNA0.o (fun a v hv=>(zp.1 hv).2) fun _ _ _ h=>h).below HBL.o (fun _ _ _ h=>h)).more HBL.o.size) (((SlAt.cells HNB0.o (fun a v hv=>(zp.1 hv).2) fun _ _ _ h=>h).below HBL.o (fun _ _ _ h=>h)).more HBL.o.size))
   rw[z5X] at HN
   cases hn:eqN na nb with
   |false=>
    have HNO:Hid (joinT (.mk ka na ia) (.mk ka nb ib)= none):=I (z3O HSA.o HSB.o h7 h7 (by rw[hn,Bool.and_false]))
    rw[hn] at HN
    clear hn
    go_wp2_with (first|(go_at_call 81;refine(HN.o).mono ?_;rintro e z ⟨rfl,m,rfl⟩;skip)|(go_at_call 109;refine(z02 6 _).mono ?_;rintro e z ⟨rfl,hzw⟩;rw[hzw];clear hzw z))
    exact⟨rfl,.inr ⟨HNO.o,rfl,zj HBL.o _⟩⟩
   |true=>
   obtain rfl:na= nb:=z1z.1 hn
   rw[hn] at HN
   have HYES:=I (z77 HSA.o HSB.o h7)
   have HLEN:=I (z7c HSA.o HSB.o)
   clear hn hkk h8 h8b
   have HCN:=I (fun z (hz:Below W.heap.size W z)=>z1l z (.slice NA na.length nc) na (((SlAt.cells HNA0.o (fun a v hv=>(zp.1 hv).2) fun _ _ _ h=>h).below (HBL.o.trans (hz.mono HBL.o.size)) (fun _ _ _ h=>h)).more (HBL.o.trans (hz.mono HBL.o.size)).size) (by have h1:=HN1000.o;have h2:reachBytes= 140737488351232:=rfl;omega))
   obtain⟨jt,hi,hy0,hy1,hy2⟩:=zX z1L
   have HT0:=I hi
   have HT1:=I hy0
   have HT2:=I hy1
   have HT3:=I hy2
   clear hi hy0 hy1 hy2
   go_upto_region 6 with (first|(go_at_call 81;refine(HN.o).mono ?_;rintro e z ⟨rfl,m,rfl⟩;skip)|(go_at_call 109;refine(z0k 6 _).mono ?_;rintro e z ⟨rfl,hzw⟩;rw[hzw];clear hzw z))
   clear a0 b0 a1 b1
   obtain⟨W6,hW6⟩:∃ z,z= W.drewN m:=⟨_,rfl⟩
   have HB6:Hid (Below W.heap.size W W6):=I (hW6▸ ⟨rfl,rfl,rfl,Nat.le_refl _,fun _ _=>rfl⟩)
   rw[← hW6]
   clear hW6 HN
   have hs:Below W.heap.size W W6.drew:=HB6.o.trans ((Below.refl _ _).drew.mono HB6.o.size)
   have C0:Hid (∀ z,Below W.heap.size W z->z.cell? ⟨w.heap.size,0,none⟩= some (.int .i64 ka)):=I fun z hz=>(hz.cell (p:=⟨w.heap.size,0,none⟩) HA.o.lt).trans (HA.o.range 0 _ rfl)
   have C1:Hid (∀ z,Below W.heap.size W z->z.cell? ⟨w.heap.size,1,none⟩= some (.slice NA na.length nc)):=I fun z hz=>(hz.cell (p:=⟨w.heap.size,1,none⟩) HA.o.lt).trans (HA.o.range 1 _ rfl)
   go_cut [5] (fun v z=>∃ q Av cv,v= .pointer (some ⟨q,0,none⟩)/\W.heap.size<=q/\Whole 41 z q (tyC ka (.slice Av na.length cv) (.slice none 0 0))/\Below W.heap.size W z/\KeptS (fun b=>W.heap.size<=b/\b≠q) z (.slice Av na.length cv) na)
   case first=>
    refine z1K (.take 0 (.take 1 (.take 2 (.take 3 (.two 4 6 (.take 5 (.act 6 (.act 7 .done))) (.act 4 (.take 5 (.act 7 .done)))))))) (fun z=>Below W.heap.size W z) (by kernel_rfl) (by kernel_rfl) (by kernel_rfl) rfl (by intro c a d v w h;cases d<;>exact h) ?_
    refine zV (some 30) (.pointer (some ⟨w.heap.size,0,none⟩)) _ rfl rfl (by exact wA rfl) hs (fun z hz=>by go_simp) ?_
    go_frame
    refine zV (some 31) (.int .i64 ka) _ rfl rfl (by exact wA rfl) hs (fun z hz=>by have d1:=C0.o z hz;clear hz;go_simp) ?_
    go_frame
    refine zV (some 32) (.pointer (some ⟨w.heap.size,1,none⟩)) _ rfl rfl (by exact wA rfl) hs (fun z hz=>by go_simp) ?_
    go_frame
    refine zV (some 33) (.slice NA na.length nc) _ rfl rfl (by exact wA rfl) hs (fun z hz=>by have d1:=C1.o z hz;clear hz;go_simp) ?_
    go_frame
    refine z3i ?_ ?_
    ·refine z4j (some 34) 130 Tryz.func130 (by kernel_rfl) (by kernel_rfl) [.slice NA na.length nc] _ _ _ rfl rfl rfl (by exact wA rfl) rfl ?_
     refine(HCN.o W6.drew hs).mono ?_
     rintro e w1 ⟨nv,rfl,hbn,hkn⟩
     obtain⟨-,Av,cv,rfl, -⟩:=id hkn
     have hs0:=hs
     have hs:Below W.heap.size W w1:=hs.trans (hbn.mono hs.size)
     refine⟨_,rfl,hs,?_⟩
     go_frame
     refine zV (some 35) (.agg ⟨tyC ka (.slice Av na.length cv) (.slice none 0 0)⟩) _ rfl rfl (by exact wA rfl) hs (fun z hz=>by first|kernel_rfl|go_simp) ?_
     go_frame
     refine z0G (some 5) (.pointer (some ⟨w1.heap.size,0,none⟩)) (w1.alloc (.cells zT3.toArray 41)) _ rfl rfl (by exact wA rfl) (z1c 41 rfl _ _ HT0.o HT1.o) (hs.trans ((zd w1 _).mono hs.size)) ?_
     go_frame
     have hbw2:=zd w1 (.cells zT3.toArray 41)
     have hww2:Whole 41 (w1.alloc (.cells zT3.toArray 41)) w1.heap.size zT3:=Whole.new w1 zT3 41
     have hgw2:W.heap.size<=w1.heap.size:=hs.size
     have hs:Below W.heap.size W (w1.alloc (.cells zT3.toArray 41)):=hs.trans (hbw2.mono hs.size)
     generalize w1.alloc (.cells zT3.toArray 41)= w2 at*
     refine z0D none 41 _ _ _ rfl rfl rfl (by exact wA rfl) (w1.heap.size) zT3 (tyC ka (.slice Av na.length cv) (.slice none 0 0)) hww2 rfl rfl rfl (by kernel_rfl) (zI _ _ _ _ _ _ _) ?_
     intro wf hwf hbf
     have hsf:Below W.heap.size W wf:=hs.trans (hbf.below hs.size hgw2 hgw2)
     refine⟨hsf,?_⟩
     go_frame
     refine z1H ?_
     go_wp2
     go_meet
     case rel=>exact⟨w1.heap.size,Av,cv,rfl,hgw2,hwf,hsf,hkn.to (fun b h1 h2=>⟨⟨Nat.le_trans hs0.size h1,fun e=>by omega⟩,(hbf.block b (Nat.lt_of_lt_of_le h2 hbw2.size) (by omega) (by omega)).trans (hbw2.block b h2)⟩) (Nat.le_trans hbw2.size hbf.size)⟩
    ·refine z0G (some 5) (.pointer (some ⟨W6.drew.heap.size,0,none⟩)) (W6.drew.alloc (.cells zT3.toArray 41)) _ rfl rfl (by exact wA rfl) (z1c 41 rfl _ _ HT0.o HT1.o) (hs.trans ((zd W6.drew _).mono hs.size)) ?_
     go_frame
     have hbw1:=zd W6.drew (.cells zT3.toArray 41)
     have hww1:Whole 41 (W6.drew.alloc (.cells zT3.toArray 41)) W6.drew.heap.size zT3:=Whole.new W6.drew zT3 41
     have hgw1:W.heap.size<=W6.drew.heap.size:=hs.size
     have hs:Below W.heap.size W (W6.drew.alloc (.cells zT3.toArray 41)):=hs.trans (hbw1.mono hs.size)
     generalize W6.drew.alloc (.cells zT3.toArray 41)= w1 at*
     have hlt1:W6.drew.heap.size < w1.heap.size:=hww1.lt
     refine z4j (some 34) 130 Tryz.func130 (by kernel_rfl) (by kernel_rfl) [.slice NA na.length nc] _ _ _ rfl rfl rfl (by exact wA rfl) rfl ?_
     refine(HCN.o w1 hs).mono ?_
     rintro e w2 ⟨nv,rfl,hbn,hkn⟩
     obtain⟨-,Av,cv,rfl, -⟩:=id hkn
     have hs0:=hs
     have hs:Below W.heap.size W w2:=hs.trans (hbn.mono hs.size)
     refine⟨_,rfl,hs,?_⟩
     go_frame
     refine zV (some 35) (.agg ⟨tyC ka (.slice Av na.length cv) (.slice none 0 0)⟩) _ rfl rfl (by exact wA rfl) hs (fun z hz=>by first|kernel_rfl|go_simp) ?_
     go_frame
     have hww2:=hww1.keep (hbn.block _ hww1.lt)
     refine z0D none 41 _ _ _ rfl rfl rfl (by exact wA rfl) (W6.drew.heap.size) zT3 (tyC ka (.slice Av na.length cv) (.slice none 0 0)) hww2 rfl rfl rfl (by kernel_rfl) (zI _ _ _ _ _ _ _) ?_
     intro wf hwf hbf
     have hsf:Below W.heap.size W wf:=hs.trans (hbf.below hs.size hgw1 hgw1)
     refine⟨hsf,?_⟩
     go_frame
     refine z1H ?_
     go_wp2
     go_meet
     case rel=>exact⟨W6.drew.heap.size,Av,cv,rfl,hgw1,hwf,hsf,hkn.to (fun b h1 h2=>⟨⟨Nat.le_trans hs0.size h1,fun e=>by omega⟩,hbf.block b h2 (by omega) (by omega)⟩) hbf.size⟩
   case rest=>
   obtain⟨q,Av,cv,rfl,hqw,hwq,hbu,hkn⟩:=hcut
   obtain⟨U,hU⟩:∃ z,z= wc:=⟨_,rfl⟩
   subst hU
   have HQG:=I hqw
   have HWQ:=I hwq
   have HXU:=I hbu
   have HNV:=I hkn
   have HQU:=I hwq.lt
   have HBU:Hid (Below w.heap.size w U):=I (HBL.o.trans (hbu.mono HBL.o.size))
   have HWLT:Hid (w.heap.size < W.heap.size/\w.heap.size+1 < W.heap.size/\r < W.heap.size):=I ⟨HA.o.lt,HB.o.lt,HR.o.lt⟩
   have HAU:=I (HA.o.keep (hbu.block _ HA.o.lt))
   have HBU2:=I (HB.o.keep (hbu.block _ HB.o.lt))
   have HRU:=I (HR.o.keep (hbu.block _ HR.o.lt))
   clear hqw hwq hbu hkn C0 C1 HB6
   have HRR:Hid (∀ u,(∀ b,b < U.heap.size->b≠q->u.heap[b]?= U.heap[b]?)->Whole 41 u r zT3):=I fun u h=>HRU.o.keep (h r HRU.o.lt (by have:=HWLT.o;have:=HQG.o;omega))
   have HD2:Hid (∀ u:World,(∀ b,b < U.heap.size->b≠q->u.heap[b]?= U.heap[b]?)->u.cell? ⟨w.heap.size,2,none⟩= some (.slice A ia.length c)):=I fun u h=>(World.cell?_of_block (a:=⟨w.heap.size,2,none⟩) (h w.heap.size HAU.o.lt (by have:=HWLT.o;have:=HQG.o;omega))).trans (HAU.o.range 2 _ rfl)
   have HE2:Hid (∀ u:World,(∀ b,b < U.heap.size->b≠q->u.heap[b]?= U.heap[b]?)->u.cell? ⟨w.heap.size+1,2,none⟩= some (.slice B ib.length d)):=I fun u h=>(World.cell?_of_block (a:=⟨w.heap.size+1,2,none⟩) (h (w.heap.size+1) HBU2.o.lt (by have:=HWLT.o;have:=HQG.o;omega))).trans (HBU2.o.range 2 _ rfl)
   have HPA:Hid (w.heap.size < U.heap.size):=I HAU.o.lt
   have HPB:Hid (w.heap.size+1 < U.heap.size):=I HBU2.o.lt
   have d2:U.cell? ⟨w.heap.size,2,none⟩= some (.slice A ia.length c):=HD2.o U (fun _ _ _=>rfl)
   go_wp2
   clear d2
   go_loopg [39] ia.length (fun g i u=>∃ (j:Nat) (ts:List TT) (KL:List z0T) (v:Value),j+g= ia.length/\i= .int .i64 j/\RowT p U.heap.size u v ts KL/\Whole 41 u q (tyC ka (.slice Av na.length cv) v)/\Below w.heap.size w u/\(∀ b,b < U.heap.size->b≠q->u.heap[b]?= U.heap[b]?)/\zZ (ia.take j) (ib.take j)= some ts)
   case atStart=>exact⟨0,[],[],_,by omega,rfl,RowT.start _ (Nat.le_refl _),HWQ.o,HBU.o,fun _ _ _=>rfl,by simp[zZ]⟩
   case round=>
    obtain⟨j,ts,KL,v,hj,rfl,hrt,hwb,hbl,hsam,hts⟩:=hrel
    have HRT:=I hrt
    have HWR:=I hwb
    have HBW:=I hbl
    have HSA2:=I hsam
    have HTS:=I hts
    obtain⟨VA,vc,rfl⟩:=z0x hrt.own
    have HKLL:=I hrt.len
    have HTL:Hid (ts.length= j):=I (by have h:=(z2L hts).1;rw[List.length_take] at h;omega)
    clear hrt hwb hbl hsam hts
    obtain⟨V,hV⟩:∃ z,z= wr:=⟨_,rfl⟩
    subst hV
    cases gk with
    |zero=>
     obtain rfl:j= ia.length:=by omega
     have hge: ¬ ((ia.length:Int) <(ia.length:Int)):=by omega
     have HJ:Hid (joinT (.mk ka na ia) (.mk ka na ib)= some (.mk ka na ts)):=I (by
      have h1:=HTS.o
      rw[List.take_of_length_le (Nat.le_refl _),List.take_of_length_le (by rw[HLEN.o];exact Nat.le_refl _)] at h1
      rw[HYES.o,h1])
     have HRX:=I (HRR.o V HSA2.o)
     have HT3:Hid ((tyC ka (.slice Av na.length cv) (.slice VA KL.length vc)).length= 3):=I rfl
     go_wp2_with (first|((with_reducible refine za 41 _ rfl ?_ (q) (0) (tyC ka (.slice Av na.length cv) (.slice VA KL.length vc)) _ rfl HWR.o.range Tryz.underlying41 rfl ?_ ?_);(exact wA rfl);rw[HT3.o];kernel_rfl)|((with_reducible refine zf 41 _ _ rfl rfl ?_ (r) (zT3) (tyC ka (.slice Av na.length cv) (.slice VA KL.length vc)) HRX.o ?_ ?_ ?_ ?_ ?_ ?_);(exact wA rfl);rfl;rfl;rfl;kernel_rfl;exact(zI _ _ _ _ _ _ _);intro Z hz hb;have HZZ:=I hz;have HBZ:=I hb;clear hz hb))
     (try simp only[Exit.inBlock,Exit.then])
     refine bodyPost_ret (zK rfl _ _ r (tyC ka (.slice Av na.length cv) (.slice VA KL.length vc)) rfl rfl HZZ.o) rfl ?_
     refine .inl ⟨_,_,HJ.o,rfl,?_,HBW.o.trans (HBZ.o.below HBW.o.size HRG.o HRG.o)⟩
     have hun:U.heap.size<=V.heap.size:=HRT.o.sz
     have hgu:=HBU.o.size
     have hgw:=HBL.o.size
     have hrl:=HWLT.o
     have hwu:=HXU.o.size
     refine z2y HWA.o ?_ (by rw[HTL.o];have:=HI1000.o;unfold maxLen;omega) ?_
     ·refine HNV.o.to (fun b h1 h2=>⟨.inr (Nat.le_trans hgw h1.1),?_⟩) (Nat.le_trans hun HBZ.o.size)
      exact(HBZ.o.block b (Nat.lt_of_lt_of_le h2 hun) (by omega) (by omega)).trans (HSA2.o b h2 h1.2)
     ·refine HRT.o.row (by rw[HTL.o];have:=HI1000.o;unfold maxLen;omega) (fun b h1 h2=>⟨h1.imp id fun h=>Nat.le_trans hgu h,?_⟩) HBZ.o.size
      have hne:b≠r:=fun e=>by
       rcases h1 with h|h
       ·have:=HP.o b h;have:=HRG.o;omega
       ·omega
      exact HBZ.o.block b h2 hne hne
    |succ g=>
     have hlt:(j:Int) <(ia.length:Int):=by omega
     obtain⟨x,hx⟩:∃ x,ia[j]?= some x:=⟨_,List.getElem?_eq_getElem (by omega)⟩
     obtain⟨y,hy⟩:∃ x,ib[j]?= some x:=⟨_,List.getElem?_eq_getElem (by have:=HLEN.o;omega)⟩
     obtain⟨b3,o3,rfl,hb3,hc3⟩:=HIA.o (by omega)
     obtain⟨b4,o4,rfl,hb4,hc4⟩:=HIB.o (by have:=HLEN.o;omega)
     obtain⟨c1x,hl1x,hr1x,hk1x⟩:=hc3 j x hx
     obtain⟨c2x,hl2x,hr2x,hk2x⟩:=hc4 j y hy
     have ilt1:j < ia.length:=by omega
     have ilt2:j < ib.length:=by have:=HLEN.o;omega
     have HR3:Hid (V.rangeAt b3 (o3+j*3) c1x):=I (zc hr1x HBW.o hb3)
     have HR4:Hid (V.rangeAt b4 (o4+j*3) c2x):=I (zc hr2x HBW.o hb4)
     have HB3:=I hb3
     have HB4:=I hb4
     have HL3x:=I hl1x
     have HL4x:=I hl2x
     have HIC:=I (fun z (hz:Below V.heap.size V z)=>IH.o x (List.mem_of_getElem? hx) y (HJA.o x (List.mem_of_getElem? hx)) (HJB.o y (List.mem_of_getElem? hy)) (z6A HSA.o x (List.mem_of_getElem? hx)) (z6A HSB.o y (List.mem_of_getElem? hy)) p c1x c2x z (fun b hb=>Nat.lt_of_lt_of_le (HP.o b hb) (Nat.le_trans HBW.o.size hz.size)) (hk1x.next (HBW.o.trans (hz.mono HBW.o.size))) (hk2x.next (HBW.o.trans (hz.mono HBW.o.size))))
     have HX:=I hx
     have HY:=I hy
     clear hx hy hc3 hc4 hl1x hr1x hk1x hl2x hr2x hk2x hb3 hb4
     have d2:=HD2.o V HSA2.o
     have e2:=HE2.o V HSA2.o
     go_upto_region 10 with (fail)
     clear d2 e2
     have HS0:Hid (V.cell? ⟨q,2,none⟩= some (Value.slice VA KL.length vc)/\V.cell? ⟨w.heap.size,2,none⟩= some (Value.slice (some ⟨b3,o3,none⟩) ia.length c)/\V.cell? ⟨w.heap.size+1,2,none⟩= some (Value.slice (some ⟨b4,o4,none⟩) ib.length d)/\V.rangeAt b3 (o3+j*3) c1x/\V.rangeAt b4 (o4+j*3) c2x):=I ⟨by have:=HWR.o.range 2 (.slice VA KL.length vc) rfl;rwa [Nat.zero_add] at this,HD2.o V HSA2.o,HE2.o V HSA2.o,HR3.o,HR4.o⟩
     have KEEP:Hid (∀ z:World,(∀ b,b < V.heap.size->b≠q->z.heap[b]?= V.heap[b]?\/U.heap.size<=b)->z.heap[q]?= V.heap[q]?->z.cell? ⟨q,2,none⟩= some (Value.slice VA KL.length vc)/\z.cell? ⟨w.heap.size,2,none⟩= some (Value.slice (some ⟨b3,o3,none⟩) ia.length c)/\z.cell? ⟨w.heap.size+1,2,none⟩= some (Value.slice (some ⟨b4,o4,none⟩) ib.length d)/\z.rangeAt b3 (o3+j*3) c1x/\z.rangeAt b4 (o4+j*3) c2x):=I fun z h1 h2=>by
      have hl:=HRT.o.sz
      have hw:=HBU.o.size
      have hg:=HQG.o
      have hlt:=HWLT.o
      have h3:=HB3.o
      have h4:=HB4.o
      have hwl:=HBL.o.size
      have hp:∀ b,b < W.heap.size->b < U.heap.size->z.heap[b]?= V.heap[b]?:=fun b hb hb2=>(h1 b (Nat.lt_of_lt_of_le hb2 hl) (by omega)).resolve_right (by omega)
      have hpa:=HPA.o
      have hpb:=HPB.o
      exact⟨(World.cell?_of_block (a:=⟨q,2,none⟩) h2).trans HS0.o.1,(World.cell?_of_block (a:=⟨w.heap.size,2,none⟩) (hp _ hlt.1 hpa)).trans HS0.o.2.1,(World.cell?_of_block (a:=⟨w.heap.size+1,2,none⟩) (hp _ hlt.2.1 hpb)).trans HS0.o.2.2.1,fun i v hv=>(World.cell?_of_block (a:=⟨b3,_,none⟩) (hp b3 (by omega) (by omega))).trans (HS0.o.2.2.2.1 i v hv),fun i v hv=>(World.cell?_of_block (a:=⟨b4,_,none⟩) (hp b4 (by omega) (by omega))).trans (HS0.o.2.2.2.2 i v hv)⟩
     have HWD0:Hid (Below V.heap.size V V.drew):=I (Below.refl _ _).drew
     have hs:=HS0.o
     refine z0K 15 [(0,true),(1,true),(2,true),(3,true),(4,true),(5,true),(6,true),(7,true),(8,true),(9,true),(10,true),(11,true),(12,false),(13,false),(14,false)] (fun z=>z.cell? ⟨q,2,none⟩= some (Value.slice VA KL.length vc)/\z.cell? ⟨w.heap.size,2,none⟩= some (Value.slice (some ⟨b3,o3,none⟩) ia.length c)/\z.cell? ⟨w.heap.size+1,2,none⟩= some (Value.slice (some ⟨b4,o4,none⟩) ib.length d)/\z.rangeAt b3 (o3+j*3) c1x/\z.rangeAt b4 (o4+j*3) c2x) (by kernel_rfl) (by kernel_rfl) rfl (by intro c a d v w h;cases d<;>exact h) ?_
     refine z8 (some 42) (.pointer (some ⟨q,2,none⟩)) _ rfl rfl (by exact wA rfl) hs (fun z hz=>by go_simp) ?_
     go_frame
     refine z8 (some 43) (.slice VA KL.length vc) _ rfl rfl (by exact wA rfl) hs (fun z hz=>by have d1:=hz.1;clear hz;go_simp) ?_
     go_frame
     refine z8 (some 44) (.pointer (some ⟨w.heap.size,2,none⟩)) _ rfl rfl (by exact wA rfl) hs (fun z hz=>by go_simp) ?_
     go_frame
     refine z8 (some 45) (.slice (some ⟨b3,o3,none⟩) ia.length c) _ rfl rfl (by exact wA rfl) hs (fun z hz=>by have d1:=hz.2.1;clear hz;go_simp) ?_
     go_frame
     refine zh (some 46) (.int .i64 j) _ _ rfl rfl rfl (by exact wA rfl) hs rfl ?_
     go_frame
     refine z8 (some 47) (.pointer (some ⟨b3,o3+j*3,none⟩)) _ rfl rfl (by exact wA rfl) hs (fun z hz=>by go_simp) ?_
     go_frame
     refine z8 (some 48) (.agg ⟨c1x⟩) _ rfl rfl (by exact wA rfl) hs (fun z hz=>zt 41 rfl (b3) (o3+j*3) (c1x) _ rfl (hz.2.2.2.1) Tryz.underlying41 rfl (by rw[HL3x.o];kernel_rfl)) ?_
     go_frame
     refine z8 (some 49) (.pointer (some ⟨w.heap.size+1,2,none⟩)) _ rfl rfl (by exact wA rfl) hs (fun z hz=>by go_simp) ?_
     go_frame
     refine z8 (some 50) (.slice (some ⟨b4,o4,none⟩) ib.length d) _ rfl rfl (by exact wA rfl) hs (fun z hz=>by have d1:=hz.2.2.1;clear hz;go_simp) ?_
     go_frame
     refine zh (some 51) (.int .i64 j) _ _ rfl rfl rfl (by exact wA rfl) hs rfl ?_
     go_frame
     refine z8 (some 52) (.pointer (some ⟨b4,o4+j*3,none⟩)) _ rfl rfl (by exact wA rfl) hs (fun z hz=>by go_simp) ?_
     go_frame
     refine z8 (some 53) (.agg ⟨c2x⟩) _ rfl rfl (by exact wA rfl) hs (fun z hz=>zt 41 rfl (b4) (o4+j*3) (c2x) _ rfl (hz.2.2.2.2) Tryz.underlying41 rfl (by rw[HL4x.o];kernel_rfl)) ?_
     go_frame
     refine z4o (some 54) 112 Tryz.func112 (by kernel_rfl) (by kernel_rfl) [.agg ⟨c1x⟩,.agg ⟨c2x⟩] _ _ _ rfl rfl rfl (by exact wA rfl) rfl ?_
     refine(HIC.o V.drew HWD0.o).mono ?_
     rintro e u6 (⟨t,c6,ht,rfl,hk6,hb6⟩|⟨ht,rfl,hb6⟩)
     case inr=>
      refine .inr ⟨_,rfl,rfl,.inr ⟨?_,rfl,(HBW.o.trans (HWD0.o.mono HBW.o.size)).trans (hb6.mono (Nat.le_trans HBW.o.size HWD0.o.size))⟩⟩
      rw[HYES.o,z4G HX.o HY.o ht]
     obtain⟨hl6,ho6⟩:=zk hk6.typ
     have HVD:Hid (Below V.heap.size V u6):=I (HWD0.o.trans (hb6.mono HWD0.o.size))
     have HK6:Hid (KeptT (fun b=>p b\/V.heap.size<=b) u6 c6 t):=I hk6
     have HL6:=I hl6
     have HO6:=I ho6
     have HTJ:=I ht
     clear hk6 hb6 hl6 ho6 ht
     refine .inl ⟨_,rfl,KEEP.o u6 (fun b hb _=> .inl (HVD.o.block b hb)) (HVD.o.block q HWR.o.lt),?_⟩
     go_frame
     have HC7:Hid (∀ i u,(enc3 ⟨c6,HL6.o⟩)[i]?= some u->(u6.alloc (.cells ⟨c6⟩ 41)).cell? ⟨u6.heap.size,i,none⟩= some u):=I (z16 u6 c6 41)
     have HB7:=I (zd u6 (.cells ⟨c6⟩ 41))
     have HU7:Hid (Below V.heap.size V (u6.alloc (.cells ⟨c6⟩ 41))):=I (HVD.o.trans (HB7.o.mono HVD.o.size))
     have HS7:Hid (U.heap.size<=(u6.alloc (.cells ⟨c6⟩ 41)).heap.size):=I (Nat.le_trans HRT.o.sz HU7.o.size)
     have HOW:Hid (OwnSl 41 3 enc3 (u6.alloc (.cells ⟨c6⟩ 41)) U.heap.size (.slice VA KL.length vc) KL):=I (HRT.o.own.below HU7.o)
     have HKN:Hid (KL.length<=1000):=I (by have h1:=HKLL.o;have h2:=HTL.o;have h3:=HI1000.o;omega)
     have HM63:Hid (KL.length+1<=maxLen):=I (by have:=HKN.o;unfold maxLen;omega)
     have HM88:Hid ((KL.length+1) *56<=140737488355328):=I (by have:=HKN.o;omega)
     refine z2R (some 55) (.slice (some ⟨u6.heap.size,0,none⟩) 1 1) (u6.alloc (.cells ⟨c6⟩ 41)) _ rfl rfl (by exact wA rfl) (z7l 39 _ rfl 41 jt _ c6 rfl Tryz.underlying39 HT0.o HT1.o (by rw[HL6.o];exact HT2.o) (by rw[HL6.o];decide) (by rw[HL6.o];decide)) (KEEP.o _ (fun b hb _=> .inl (HU7.o.block b hb)) (HU7.o.block q HWR.o.lt)) ?_
     go_frame
     refine zcq (some 56) _ _ _ 39 rfl rfl rfl (by exact wA rfl) U.heap.size 41 jt _ 3 56 enc3 Tryz.underlying39 HT0.o HT1.o HT2.o HT3.o rfl (by decide) z2v (.slice VA KL.length vc) KL rfl HOW.o u6.heap.size 1 ⟨c6,HL6.o⟩ HO6.o rfl HC7.o HM63.o HM88.o HS7.o ?_
     intro v' u8 hown hg hblk
     have HN:=I (HRT.o.next (fun b hb=>Nat.lt_of_lt_of_le (HP.o b hb) HBU.o.size) HVD.o HB7.o (k:=⟨c6,HL6.o⟩) HK6.o hown hg hblk)
     have hq8:u8.heap[q]?= V.heap[q]?:=(hg.block q (Nat.lt_of_lt_of_le HWR.o.lt HU7.o.size) (fun e=>by have:=HRT.o.own.block e.symm;have:=HQU.o;omega)).trans (HU7.o.block q HWR.o.lt)
     have HWN:=I (HWR.o.keep hq8)
     have HBN:=I ((HBW.o.trans (HU7.o.mono HBW.o.size)).grown hg (Nat.le_trans HBW.o.size HU7.o.size) (fun b hb=>Nat.le_trans HBU.o.size (HRT.o.own.block hb)))
     have HSN:Hid (∀ b,b < U.heap.size->b≠q->u8.heap[b]?= U.heap[b]?):=I fun b hb hne=>(hg.block b (Nat.lt_of_lt_of_le hb HS7.o) (fun e=>by have:=HRT.o.own.block e.symm;omega)).trans ((HU7.o.block b (Nat.lt_of_lt_of_le hb HRT.o.sz)).trans (HSA2.o b hb hne))
     have hse:=KEEP.o u8 (fun b hb hne=>by
      rcases Nat.lt_or_ge b U.heap.size with h|h
      ·exact .inl ((HSN.o b h hne).trans (HSA2.o b h hne).symm)
      ·exact .inr h) hq8
     obtain⟨XA,xc,rfl⟩:=z0x hown
     clear hown hg hblk hq8
     refine⟨hse,?_⟩
     go_frame
     refine z35 ?_
     have d5:=hse.1
     have f5:u8.frozen? ⟨q,2,none⟩= false:=HWN.o.frozV (j:=2) (show 2 < 3 by decide)
     clear hse
     go_wp2
     have HPT:Hid (Whole 41 (u8.setCell ⟨q,2,none⟩ (.slice XA (KL.length+1) xc)) q (tyC ka (.slice Av na.length cv) (.slice XA (KL.length+1) xc))):=I (Whole.putM (pre:=[.int .i64 ka,.slice Av na.length cv]) (post:=[]) HWN.o)
     have HBT:=I (But.set1 u8 q q 2 (.slice XA (KL.length+1) xc))
     go_roundg g
     case measure=>omega
     case rel=>
      refine⟨j+1,ts ++ [t],KL ++ [⟨c6,HL6.o⟩],_,by omega,by go_num,by have hn:=HN.o;rw[List.length_append] at hn;exact hn.store HBT.o HQU.o (fun h=>by have:=HP.o q h;have:=HQG.o;have:=HBL.o.size;omega),HPT.o,HBN.o.trans (HBT.o.below HBN.o.size ?_ ?_),fun b hb hne=>(HBT.o.block b (Nat.lt_of_lt_of_le hb HN.o.sz) hne hne).trans (HSN.o b hb hne),z4y HTS.o HX.o HY.o HTJ.o⟩<;>exact Nat.le_trans HBL.o.size HQG.o
end
section
open Go Go.RowKit
def zdI (t:TT) (w:World) (e:Ending) (w':World):Prop:=∃ cs,e= .returned (.agg ⟨cs⟩)/\KeptT (fun b=>w.heap.size<=b) w' cs t/\Below w.heap.size w w'
theorem zdz:∀ (t:TT) (cs:List Value) (w:World),jok t= true->TypAt w w.heap.size cs t->Calls Tryz.prog 110 #[.agg ⟨cs⟩] w (zdI t w):=by
 intro t
 induction t using TT.ind with
 |h k ns its ih=>
  intro cs w hj hv
  obtain⟨hJ,hJ2⟩:=z1t.1 hj
  obtain⟨vn,vi,rfl,hk,hns,_,hi⟩:=hv.inv
  obtain⟨_,A,c,rfl,hA⟩:=hi
  obtain⟨-,NA,nc,rfl, -⟩:=id hns
  have IH:=I ih
  have HJ2:=I hJ2
  have HNS:=I hns
  have HWK:=I hk
  have HA:=I hA
  have HI1000:=I hJ.2.1
  have HN1000:=I hJ.1
  have hin:its.length<=1000:=hJ.2.1
  have hnn:ns.length<=1000:=hJ.1
  clear ih hj hv hJ hJ2 hns hk hA
  go_enter Tryz.func110,Tryz.ntmps110
  go_upto_region 1 with (fail)
  have hz3:(#[Value.int IntKind.i64 0,Value.slice none 0 0,Value.slice none 0 0]:Array Value)= zT3.toArray:=rfl
  rw[hz3]
  clear hz3
  have g1:=zd w (.cells ⟨[.int .i64 k,.slice NA ns.length nc,.slice A its.length c]⟩ 41)
  have h1:=Whole.new w [.int .i64 k,.slice NA ns.length nc,.slice A its.length c] 41
  have s1:(w.alloc (.cells ⟨[.int .i64 k,.slice NA ns.length nc,.slice A its.length c]⟩ 41)).heap.size= w.heap.size+1:=by simp
  generalize w.alloc (.cells ⟨[.int .i64 k,.slice NA ns.length nc,.slice A its.length c]⟩ 41)= W1 at*
  have g2:=zd W1 (.cells zT3.toArray 41)
  have h2:=Whole.new W1 zT3 41
  generalize W1.alloc (.cells zT3.toArray 41)= W at*
  rw[s1] at h2
  (try rw[s1])
  have HWX:=I (h1.keep (g2.block _ (by omega)))
  have HRW:=I h2
  have HBL:=I (g1.trans (g2.mono g1.size))
  clear g1 g2 h1 h2 s1
  have HCN:=I (z1l W (.slice NA ns.length nc) ns ((HNS.o.below HBL.o fun _ _ _ h=>h).more HBL.o.size) (by have h1:=HN1000.o;have h2:reachBytes= 140737488351232:=rfl;omega))
  have d0:W.cell? ⟨w.heap.size,1,none⟩= some (.slice NA ns.length nc):=HWX.o.range 1 _ rfl
  go_upto_region 2 with (first|(go_at_call 130;refine(HCN.o).mono ?_;rintro e z ⟨nv,rfl,hb,hk⟩;have HBC:=I hb;obtain⟨-,Av,cv,rfl, -⟩:=id hk;have HKN:=I hk;have HWZ:=I (HWX.o.keep (hb.block _ HWX.o.lt));have HRZ:=I (HRW.o.keep (hb.block _ HRW.o.lt));have hwz:=HWZ.o;have d1:z.cell? ⟨w.heap.size,1,none⟩= some (.slice NA ns.length nc):=hwz.range 1 _ rfl;have f1:z.frozen? ⟨w.heap.size,1,none⟩= false:=hwz.frozV (j:=1) (show 1 < 3 by decide);clear hb hk hwz))
  have HWU:Hid (Whole 41 (z.setCell ⟨w.heap.size,1,none⟩ (.slice Av ns.length cv)) w.heap.size [.int .i64 k,.slice Av ns.length cv,.slice A its.length c]):=I (Whole.putM (pre:=[.int .i64 k]) (post:=[.slice A its.length c]) HWZ.o)
  have HBU:=I (But.set1 z w.heap.size w.heap.size 1 (.slice Av ns.length cv))
  generalize z.setCell ⟨w.heap.size,1,none⟩ (.slice Av ns.length cv)= U at*
  have HRU:=I (HRZ.o.keep (HBU.o.block _ HRZ.o.lt (by omega) (by omega)))
  have HBW:Hid (Below w.heap.size w U):=I ((HBL.o.trans (HBC.o.mono HBL.o.size)).trans (HBU.o.below (Nat.le_trans HBL.o.size HBC.o.size) (Nat.le_refl _) (Nat.le_refl _)))
  have HSW:Hid (w.heap.size+1 < W.heap.size):=I HRW.o.lt
  have HNV:Hid (KeptS (fun b=>w.heap.size+1 < b) U (.slice Av ns.length cv) ns):=I (HKN.o.to (fun b h1 h2=>⟨Nat.lt_of_lt_of_le HSW.o h1,HBU.o.block b h2 (by have:=HSW.o;omega) (by have:=HSW.o;omega)⟩) HBU.o.size)
  obtain⟨jt,hi,hy0,hy1,hy2⟩:=zX z1L
  have HT0:=I hi
  have HT1:=I hy0
  have HT2:=I hy1
  have HT3:=I hy2
  clear hi hy0 hy1 hy2 d0 d1 f1
  have d2:U.cell? ⟨w.heap.size,2,none⟩= some (.slice A its.length c):=HWU.o.range 2 _ rfl
  go_wp2
  clear d2
  go_loopg [3,13] its.length (fun g v i u=>∃ (j:Nat) (KL:List z0T),j+g= its.length/\i= .int .i64 j/\RowT (fun _=>False) U.heap.size u v (its.take j) KL/\Below U.heap.size U u)
  case atStart=>exact⟨0,[],by omega,rfl,RowT.start _ (Nat.le_refl _),Below.refl _ _⟩
  case round=>
   obtain⟨j,KL,hj,rfl,hrt,hbu⟩:=hrel
   have HRT:=I hrt
   have HUV:=I hbu
   obtain⟨VA,vc,rfl⟩:=z0x hrt.own
   have HKLL:Hid (KL.length= j):=I (by have h:=hrt.len;rw[List.length_take] at h;omega)
   clear hrt hbu
   obtain⟨V,hV⟩:∃ z,z= wr:=⟨_,rfl⟩
   subst hV
   have HBV:Hid (Below w.heap.size w V):=I (HBW.o.trans (HUV.o.mono HBW.o.size))
   have HWV:=I (HWU.o.keep (HUV.o.block _ HWU.o.lt))
   have HRV:=I (HRU.o.keep (HUV.o.block _ HRU.o.lt))
   cases gk with
   |zero=>
    obtain rfl:j= its.length:=by omega
    have hge: ¬ ((its.length:Int) <(its.length:Int)):=by omega
    have d2:V.cell? ⟨w.heap.size,2,none⟩= some (.slice A its.length c):=HWV.o.range 2 _ rfl
    have f2:V.frozen? ⟨w.heap.size,2,none⟩= false:=HWV.o.frozV (j:=2) (show 2 < 3 by decide)
    go_upto_region 9 with (fail)
    have HW2:Hid (Whole 41 (V.setCell ⟨w.heap.size,2,none⟩ (.slice VA KL.length vc)) w.heap.size (tyC k (.slice Av ns.length cv) (.slice VA KL.length vc))):=I (Whole.putM (pre:=[.int .i64 k,.slice Av ns.length cv]) (post:=[]) HWV.o)
    have HB2:=I (But.set1 V w.heap.size w.heap.size 2 (.slice VA KL.length vc))
    generalize V.setCell ⟨w.heap.size,2,none⟩ (.slice VA KL.length vc)= V2 at*
    have HR2:=I (HRV.o.keep (HB2.o.block _ HRV.o.lt (by omega) (by omega)))
    have HL3:Hid ((tyC k (.slice Av ns.length cv) (.slice VA KL.length vc)).length= 3):=I rfl
    clear d2 f2
    go_wp2_with (first|((with_reducible refine za 41 _ rfl ?_ (w.heap.size) (0) (tyC k (.slice Av ns.length cv) (.slice VA KL.length vc)) _ rfl HW2.o.range Tryz.underlying41 rfl ?_ ?_);(exact wA rfl);rw[HL3.o];kernel_rfl)|((with_reducible refine zf 41 _ _ rfl rfl ?_ (w.heap.size+1) (zT3) (tyC k (.slice Av ns.length cv) (.slice VA KL.length vc)) HR2.o ?_ ?_ ?_ ?_ ?_ ?_);(exact wA rfl);rfl;rfl;rfl;kernel_rfl;exact(zI _ _ _ _ _ _ _);intro Z hz hb;have HZZ:=I hz;have HBZ:=I hb;clear hz hb))
    (try simp only[Exit.inBlock,Exit.then])
    refine bodyPost_ret (zK rfl _ _ (w.heap.size+1) (tyC k (.slice Av ns.length cv) (.slice VA KL.length vc)) rfl rfl HZZ.o) rfl ?_
    have hsw:=HSW.o
    have huw:=HBU.o.size
    have hcw:=HBC.o.size
    refine⟨_,rfl,?_,(HBV.o.trans (HB2.o.below HBV.o.size (Nat.le_refl _) (Nat.le_refl _))).trans (HBZ.o.below (Nat.le_trans HBV.o.size HB2.o.size) (by omega) (by omega))⟩
    have hrow:=HRT.o
    rw[List.take_of_length_le (Nat.le_refl _)] at hrow
    refine z2y HWK.o ?_ (by have:=HI1000.o;unfold maxLen;omega) ?_
    ·refine HNV.o.to (fun b h1 h2=>⟨by omega,?_⟩) (Nat.le_trans HUV.o.size (Nat.le_trans HB2.o.size HBZ.o.size))
     exact(HBZ.o.block b (Nat.lt_of_lt_of_le h2 (Nat.le_trans HUV.o.size HB2.o.size)) (by omega) (by omega)).trans ((HB2.o.block b (Nat.lt_of_lt_of_le h2 HUV.o.size) (by omega) (by omega)).trans (HUV.o.block b h2))
    ·refine hrow.row (by have:=HI1000.o;unfold maxLen;omega) (fun b h1 h2=> ?_) (Nat.le_trans HB2.o.size HBZ.o.size)
     have h3:U.heap.size<=b:=h1.elim (fun h=>h.elim) id
     exact⟨by omega,(HBZ.o.block b (Nat.lt_of_lt_of_le h2 HB2.o.size) (by omega) (by omega)).trans (HB2.o.block b h2 (by omega) (by omega))⟩
   |succ g=>
    have hlt:(j:Int) <(its.length:Int):=by omega
    obtain⟨x,hx⟩:∃ x,its[j]?= some x:=⟨_,List.getElem?_eq_getElem (by omega)⟩
    obtain⟨b3,o3,rfl,hb3,hc3⟩:=HA.o (by omega)
    obtain⟨c1x,hl1x,hr1x,hk1x⟩:=hc3 j x hx
    have HR3:Hid (V.rangeAt b3 (o3+j*3) c1x):=I (zc hr1x HBV.o hb3)
    have HL3x:=I hl1x
    have HO3x:=I (zk hk1x).2
    have HIH:=I (fun z (hz:Below V.heap.size V z)=>IH.o x (List.mem_of_getElem? hx) c1x z (HJ2.o x (List.mem_of_getElem? hx)) ((hk1x.under (HBV.o.trans (hz.mono HBV.o.size))).more (HBV.o.trans (hz.mono HBV.o.size)).size))
    have HTK:Hid (its.take (j+1)= its.take j ++ [x]):=I (by rw[List.take_add_one,hx];rfl)
    have HM63:Hid (KL.length+1<=maxLen):=I (by have:=HKLL.o;unfold maxLen;omega)
    have HM88:Hid ((KL.length+1) *56<=140737488355328):=I (by have:=HKLL.o;omega)
    clear hx hc3 hl1x hr1x hk1x hb3
    go_upto_region 6 with (first|((with_reducible refine za 41 _ rfl ?_ (b3) (o3+j*3) (c1x) _ rfl HR3.o Tryz.underlying41 rfl ?_ ?_);(exact wA rfl);rw[HL3x.o];kernel_rfl)|((with_reducible refine zJ 41 _ _ rfl ?hwx4 V ?zz4 (c1x) ?hwld4 ?hz4 ?hx4 ?hy4 ?hi4 ?h14 ?_);(case hwld4=>rfl);(case hx4=>rfl);(case hy4=>rfl);(case hwx4=>(exact wA rfl));(case hz4=>rw[HL3x.o];rfl);(case hi4=>rw[HL3x.o];kernel_rfl);(case h14=>exact HO3x.o);intro Z1 hZ;have HX1:=I hZ;clear hZ))
    have HBZ1:Hid (Below V.heap.size V Z1):=I HX1.o.below
    go_wp2_with (first|((with_reducible refine za 41 _ rfl ?_ (V.heap.size) (0) (c1x) _ rfl HX1.o.range Tryz.underlying41 rfl ?_ ?_);(exact wA rfl);rw[HL3x.o];kernel_rfl)|(go_at_call 110;refine((HIH.o Z1 HBZ1.o)).mono ?_;rintro e u6 ⟨c6,rfl,hk6,hb6⟩;have HK6:=I hk6;have HB6:=I hb6;have HL6:=I (zk hk6.typ).1;have HO6:=I (zk hk6.typ).2;clear hk6 hb6)|((with_reducible refine z1u 39 _ rfl ?_ 41 jt _ c6 ?_ Tryz.underlying39 HT0.o HT1.o ?_ ?_ ?_ ?_);(exact wA rfl);rfl;rw[HL6.o];exact HT2.o;rw[HL6.o];decide;rw[HL6.o];decide;have HB7:=I (zd u6 (.cells ⟨c6⟩ 41));have HU7:Hid (Below V.heap.size V (u6.alloc (.cells ⟨c6⟩ 41))):=I (HBZ1.o.trans ((HB6.o.trans (HB7.o.mono HB6.o.size)).mono HBZ1.o.size));have HC7:Hid (∀ i u,(enc3 ⟨c6,HL6.o⟩)[i]?= some u->(u6.alloc (.cells ⟨c6⟩ 41)).cell? ⟨u6.heap.size,i,none⟩= some u):=I (z16 u6 c6 41);have HS7:Hid (U.heap.size<=(u6.alloc (.cells ⟨c6⟩ 41)).heap.size):=I (Nat.le_trans HRT.o.sz HU7.o.size);have HOW:Hid (OwnSl 41 3 enc3 (u6.alloc (.cells ⟨c6⟩ 41)) U.heap.size (.slice VA KL.length vc) KL):=I (HRT.o.own.below HU7.o))|(at_builtin;(refine z2o rfl _ _ 39 rfl U.heap.size 41 jt _ 3 56 enc3 Tryz.underlying39 HT0.o HT1.o HT2.o HT3.o rfl (by decide) z2v (.slice VA KL.length vc) KL rfl HOW.o u6.heap.size 1 ⟨c6,HL6.o⟩ HO6.o rfl HC7.o HM63.o HM88.o HS7.o ?_;intro v' u8 hown hg hblk;have HRN:=I (HRT.o.next (fun b hb=>hb.elim) (HBZ1.o.trans (HB6.o.mono HBZ1.o.size)) HB7.o (k:=⟨c6,HL6.o⟩) (HK6.o.to (fun b h1 h2=>⟨.inr (Nat.le_trans HBZ1.o.size h1),rfl⟩) (Nat.le_refl _)) hown hg hblk);have HWN:=I ((HUV.o.trans (HU7.o.mono HUV.o.size)).grown hg HS7.o fun b hb=>HOW.o.block hb);clear hown hg hblk)))
    go_roundg g
    case measure=>omega
    case rel=>exact⟨j+1,_,by omega,by go_num,by rw[HTK.o];exact HRN.o,HWN.o⟩
end
end Go.Proofs.YtdjfpcmlffekkaaGreatDoor
