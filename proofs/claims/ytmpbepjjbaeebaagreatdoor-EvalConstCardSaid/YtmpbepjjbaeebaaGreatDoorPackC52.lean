/- Parts of a proof: Zero10, Const10, EvConst. -/
import Derived.Test.YtmpbepjjbaeebaaGreatDoorPackC17
import Derived.Test.YtmpbepjjbaeebaaGreatDoorPackC30
import Derived.Test.YtmpbepjjbaeebaaGreatDoorPackC33
import Derived.Test.YtmpbepjjbaeebaaGreatDoorPackC48
import Derived.Test.YtmpbepjjbaeebaaGreatDoorPackC49
import Derived.Test.YtmpbepjjbaeebaaGreatDoorPackC50
import Derived.Test.YtmpbepjjbaeebaaGreatDoorPackC51
set_option maxHeartbeats 8000000
set_option maxRecDepth 100000
set_option linter.unusedVariables false
set_option linter.unusedSimpArgs false
namespace Go.Proofs.YtmpbepjjbaeebaaGreatDoor
section
open Go Go.RowKit
mutual
def zeroT:TT->VT
 | .mk k ns its=>if k= 7 then v0 else if k= 6 then .mk 6 0 0 ⟨#[]⟩ ns (z3F its) else .mk k 0 0 ⟨#[]⟩ [] []
def z3F:List TT->List VT
 |[]=>[]
 |a::l=>zeroT a::z3F l
end
theorem z5z:∀ l:List TT,z3F l= l.map zeroT
 |[]=>by rw[z3F];rfl
 |a::l=>by rw[z3F,z5z l];rfl
theorem z4q {its:List TT} {j:Nat} {y:TT} (hy:its[j]?= some y):(its.map zeroT).take (j+1)=(its.map zeroT).take j ++ [zeroT y]:=by
 rw[List.take_add_one,List.getElem?_map,hy]
 rfl
def kdC (k:Int):List Value:=valC k 0 0 ⟨#[]⟩
theorem z1g (k:Int):∀ v∈kdC k,v.oneCell'= true:=by
 intro v hv
 simp only[kdC,valC,List.mem_cons,List.not_mem_nil,or_false] at hv
 rcases hv with rfl|rfl|rfl|rfl|rfl|rfl<;>rfl
theorem z2j {p:Nat->Prop} {w:World} {k:Int} (hk:wfI k):Kept p w (kdC k) (.mk k 0 0 ⟨#[]⟩ [] []):=z1t _ _ k 0 0 ⟨#[]⟩ hk (zr 0 (by decide +kernel)) (by decide +kernel) (Nat.zero_le _)
def recHd (nv:Value):List Value:=[.int .i64 6,.int .i64 0,.float .f64 0,.string ⟨#[]⟩,nv]
theorem z3D {A B:Option Addr} {a b c d:Nat}:∀ v∈recHd (.slice A a b) ++ [.slice B c d],v.oneCell'= true:=by
 intro v hv
 simp only[recHd,List.mem_append,List.mem_cons,List.not_mem_nil,or_false] at hv
 rcases hv with (rfl|rfl|rfl|rfl|rfl)|rfl<;>rfl
def z7d (t:TT) (w:World) (e:Ending) (w':World):Prop:=∃ cs,e= .returned (.agg ⟨cs⟩)/\Kept (fun b=>w.heap.size<=b) w' cs (zeroT t)/\Below w.heap.size w w'
theorem z3Y {k:Int} {ns:List ByteArray} {its:List TT} (h7: ¬ k= 7) (h6: ¬ k= 6):zeroT (.mk k ns its)= .mk k 0 0 ⟨#[]⟩ [] []:=by rw[zeroT,if_neg h7,if_neg h6]
theorem z4V {ns:List ByteArray} {its:List TT}:zeroT (.mk 6 ns its)= .mk 6 0 0 ⟨#[]⟩ ns (its.map zeroT):=by rw[zeroT,if_neg (by decide),if_pos rfl,z5z]
theorem z2V {ns:List ByteArray} {its:List TT}:zeroT (.mk 7 ns its)= v0:=by rw[zeroT,if_pos rfl]
theorem z7D {u:World} {C:Nat} {nv iv:Value} {ns:List ByteArray} {vs:List VT} (hn:KeptS (fun b=>C<=b) u nv ns) (hi:SlAt (only u (fun b=>C<=b)) u.heap.size 6 (ValAt (only u (fun b=>C<=b)) u.heap.size) iv vs) (hl:vs.length<=maxLen):Kept (fun b=>C<=b) u (recHd nv ++ [iv]) (.mk 6 0 0 ⟨#[]⟩ ns vs):=
 ValAt.of (zr 6 (by decide +kernel)) (zr 0 (by decide +kernel)) (by decide +kernel) (Nat.zero_le _) hn hl hi
theorem z0p {fn:Func} {p:Tmp} (h:fn.results= #[.cell p 26]) (tmps:Array Value) (w:World) (g:Nat) (cs:List Value) (hl:cs.length= 6)
  (hp:tmps.getD p undef= .pointer (some ⟨g,0,none⟩)) (hm:Whole 26 w g cs):(results fn tmps).run Tryz.prog w= .ok (.agg ⟨cs⟩) w:=by
 have hp':tmps[p]?.getD undef= .pointer (some ⟨g,0,none⟩):=by simpa using hp
 have hl:=run_loadVar_mid (P:=Tryz.prog) w g 0 26 cs _ hm.range Tryz.underlying26 rfl (by rw[hl];kernel_rfl)
 simp[results,h,hp',asAddr,hl]
theorem zaH {w:World} {base:Nat} {e:TypeId} {size n:Nat} {v:Value} {xs:List Value} (h:w.ownsRow base e size v n xs):∃ A c,v= .slice A n c:=by
 rcases h.2 with ⟨h1,h2⟩|⟨g,c,cu,h1,_⟩
 ·exact⟨none,0,by rw[h1,h2]⟩
 ·exact⟨_,_,h1⟩
mutual
def smlT:TT->Bool
 | .mk _ ns its=>decide (ns.length<=1000/\its.length<=1000) && smlTL its
def smlTL:List TT->Bool
 |[]=>true
 |a::l=>smlT a && smlTL l
end
theorem z6G:∀ {l:List TT},smlTL l= true->∀ x∈l,smlT x= true
 |[],_,x,hx=>by cases hx
 |a::l,h,x,hx=>by
  rw[smlTL,Bool.and_eq_true] at h
  rcases List.mem_cons.1 hx with rfl|hx
  ·exact h.1
  ·exact z6G h.2 x hx
theorem z83 {k:Int} {ns:List ByteArray} {its:List TT} (h:smlT (.mk k ns its)= true):ns.length<=1000/\its.length<=1000/\∀ x∈its,smlT x= true:=by
 rw[smlT,Bool.and_eq_true,decide_eq_true_eq] at h
 exact⟨h.1.1,h.1.2,z6G h.2⟩
theorem zb4:∀ (t:TT) (cs:List Value) (p o:Nat) (w:World),smlT t= true->w.rangeAt p o cs->p < w.heap.size->TypAt w w.heap.size cs t->Calls Tryz.prog 55 #[.pointer (some ⟨p,o,none⟩)] w (z7d t w):=by
 intro t
 induction t using TT.ind with
 |h k ns its ih=>
  intro cs p o w hsm hr hp hv
  have IH:=I ih
  obtain⟨hnl,hil,hsma⟩:=z83 hsm
  obtain⟨vn,vi,rfl,hk,hns,_,hi⟩:=hv.inv
  obtain⟨_,A,c,rfl,hA⟩:=hi
  obtain⟨-,An,cn,rfl, -⟩:=id hns
  have HA:=I hA
  have HNS:=I hns
  have HK:=I hk
  have HIL:=I hil
  have HNL:=I hnl
  have HSMA:=I hsma
  have d0:w.cell? ⟨p,o,none⟩= some (.int .i64 k):=hr 0 _ rfl
  have D0:=I d0
  have D1:Hid (w.cell? ⟨p,o+1,none⟩= some (.slice An ns.length cn)):=I (hr 1 _ rfl)
  have D2:Hid (w.cell? ⟨p,o+2,none⟩= some (.slice A its.length c)):=I (hr 2 _ rfl)
  have HPL:=I hp
  clear ih hA hv hr hns hk hsm hsma hnl hil d0
  go_enter Tryz.func55,Tryz.ntmps55
  go_upto_region 1 with (fail)
  rw[zv]
  have HWRS0:=I (Whole.new w zV6 26)
  have HBL0:=I (ze w (.cells zV6.toArray 26))
  generalize w.alloc (.cells zV6.toArray 26)= W at*
  obtain⟨r,hr⟩:∃ r,w.heap.size= r:=⟨_,rfl⟩
  have HRE:=I hr
  rw[hr] at HWRS0
  rw[hr]
  clear hr
  have E0:=I ((HBL0.out.cell (p:=⟨p,o,none⟩) HPL.out).trans D0.out)
  have E1:=I ((HBL0.out.cell (p:=⟨p,o+1,none⟩) HPL.out).trans D1.out)
  have E2:=I ((HBL0.out.cell (p:=⟨p,o+2,none⟩) HPL.out).trans D2.out)
  have d0:=E0.out
  by_cases h7:k= 7
  ·subst h7
   go_wp2_with (first|((with_reducible refine zh 26 _ _ rfl rfl ?hww1 (r) (zV6) (zV6) HWRS0.out ?hl1 ?hxx1 ?hyy1 ?hii1 ?h11 ?_);(case hww1=>(exact wantA rfl));(case hl1=>rfl);(case hxx1=>rfl);(case hyy1=>rfl);(case hii1=>kernel_rfl);(case h11=>exact z1g 0);intro Z hz hb;have HZZ:=I hz;have HBZ:=I hb;clear hz hb))
   (try simp only[Exit.inBlock,Exit.then])
   refine bodyPost_ret (z0p rfl _ _ r zV6 rfl rfl HZZ.out) rfl ?_
   refine⟨_,rfl,by rw[z2V];exact z2j (zr 0 (by decide +kernel)),HBL0.out.trans (HBZ.out.below HBL0.out.size (Nat.le_of_eq HRE.out) (Nat.le_of_eq HRE.out))⟩
  have h7b:(k ==7)= false:=by rw[beq_eq_false_iff_ne];exact h7
  by_cases h6:k= 6
  ·subst h6
   have HCN:=I (z2G W (.slice An ns.length cn) ns ((HNS.out.below HBL0.out fun _ _ _ h=>h).more HBL0.out.size) (by have h1:=HNL.out;have h2:reachBytes= 140737488351232:=rfl;omega))
   have d1:=E1.out
   go_upto_region 6 with (first|(go_at_call 67;refine HCN.out.mono ?_;rintro e z ⟨nv,rfl,hb,hk⟩;have HBC:=I hb;obtain⟨-,Av,cv,rfl, -⟩:=id hk;have HKN:=I hk;clear hb hk)|((with_reducible refine zh 26 _ _ rfl rfl ?hwwB (z.heap.size) zV6 (recHd (.slice Av ns.length cv) ++ [.slice none 0 0]) ?fbB ?hlB ?hxxB ?hyyB ?hiiB ?h1B ?_);(case hwwB=>(exact wantA rfl));(case fbB=>exact Whole.new z zV6 26);(case hlB=>rfl);(case hxxB=>rfl);(case hyyB=>rfl);(case hiiB=>kernel_rfl);(case h1B=>exact z3D);intro U hz hb;have HWB:=I hz;have HXB:=I hb;clear hz hb))
   have HBL1:Hid (Below w.heap.size w z):=I (HBL0.out.trans (HBC.out.mono HBL0.out.size))
   have HXS:Hid (z.heap.size < U.heap.size):=I HWB.out.lt
   have HXU:Hid (Below z.heap.size z U):=I ((ze z (.cells zV6.toArray 26)).trans (HXB.out.below (ze z (.cells zV6.toArray 26)).size (Nat.le_refl _) (Nat.le_refl _)))
   have HBL:Hid (Below w.heap.size w U):=I (HBL1.out.trans (HXU.out.mono HBL1.out.size))
   have HQU:=HXS
   have HQG0:Hid (w.heap.size<=z.heap.size):=I HBL1.out.size
   have HRZ:Hid (r < z.heap.size):=I (Nat.lt_of_lt_of_le HWRS0.out.lt HBC.out.size)
   have HWRS:Hid (Whole 26 U r zV6):=I ((HWRS0.out.keep (HBC.out.block r HWRS0.out.lt)).keep (HXU.out.block r HRZ.out))
   have HWL:=I HWRS0.out.lt
   have HNV:Hid (KeptS (fun b=>w.heap.size<=b/\b≠z.heap.size/\b≠r) U (.slice Av ns.length cv) ns):=I (HKN.out.to (fun b hp hlt=>⟨⟨Nat.le_trans HBL0.out.size hp,Nat.ne_of_lt hlt,fun e=>by have:=HWL.out;omega⟩,HXU.out.block b hlt⟩) HXU.out.size)
   have HCU:Hid (U.cell? ⟨p,o+2,none⟩= some (.slice A its.length c)):=I ((HBL.out.cell (p:=⟨p,o+2,none⟩) HPL.out).trans D2.out)
   have HPQ:Hid (p≠z.heap.size):=I (by have:=HPL.out;have:=HQG0.out;omega)
   obtain⟨q,hq⟩:∃ q,z.heap.size= q:=⟨_,rfl⟩
   rw[hq] at HWB HQU HQG0 HNV HPQ HRZ
   rw[hq]
   clear hq HXU HXS HXB d1
   have HPU:Hid (p < U.heap.size):=I (Nat.lt_of_lt_of_le HPL.out HBL.out.size)
   have HRU:Hid (r < U.heap.size):=I (Nat.lt_trans HRZ.out HQU.out)
   have HRQ:Hid (r≠q):=I (Nat.ne_of_lt HRZ.out)
   have HRG:Hid (w.heap.size<=r):=I (Nat.le_of_eq HRE.out)
   have HQG:=HQG0
   have HULE:Hid (w.heap.size<=U.heap.size):=I HBL.out.size
   have d2:=HCU.out
   go_wp2
   go_loopg [25] its.length (fun g i u=>∃ (j:Nat) (KL:List zK) (v:Value),j+g= its.length/\i= .int .i64 j/\RowC 26 U.heap.size u v ((its.map zeroT).take j) KL/\Whole 26 u q (recHd (.slice Av ns.length cv) ++ [v])/\Below w.heap.size w u/\(∀ b,b < U.heap.size->b≠q->u.heap[b]?= U.heap[b]?))
   case atStart=>exact⟨0,[],_,by omega,rfl,RowC.start _ (Nat.le_refl _),HWB.out,HBL.out,fun _ _ _=>rfl⟩
   case round=>
    obtain⟨j,KL,v,hj,rfl,hrc,hwb,hbl,hsam⟩:=hrel
    have HRC:=I hrc
    have HWR:=I hwb
    have HBW:=I hbl
    have HSA:=I hsam
    obtain⟨VA,vc,rfl⟩:=z1G hrc.own
    have HKLL:=I hrc.len
    clear hrc hwb hbl hsam
    have HC2:Hid (∀ z,Below wr.heap.size wr z->z.cell? ⟨p,o+2,none⟩= some (.slice A its.length c)):=I fun z hz=>(hz.cell (p:=⟨p,o+2,none⟩) (Nat.lt_of_lt_of_le HPU.out HRC.out.sz)).trans ((World.cell?_of_block (a:=⟨p,o+2,none⟩) (HSA.out p HPU.out HPQ.out)).trans HCU.out)
    cases gk with
    |zero=>
     obtain rfl:j= its.length:=by omega
     have hge: ¬ ((its.length:Int) <(its.length:Int)):=by omega
     have d2:=HC2.out wr (Below.refl _ _)
     have HSL:Hid ((recHd (.slice Av ns.length cv) ++ [Value.slice VA KL.length vc]).length= 6):=I rfl
     have HRS:Hid (Whole 26 wr r zV6):=I (HWRS.out.keep (HSA.out r HRU.out HRQ.out))
     clear HC2
     go_upto_region 11 with (fail)
     go_wp2_with (first|((with_reducible refine zc 26 _ rfl ?hwl2 (q) (0) (recHd (.slice Av ns.length cv) ++ [.slice VA KL.length vc]) _ rfl HWR.out.range Tryz.underlying26 rfl ?hil2 ?_);(case hwl2=>(exact wantA rfl));(case hil2=>rw[HSL.out];kernel_rfl))|((with_reducible refine zh 26 _ _ rfl rfl ?hww3 (r) (zV6) (recHd (.slice Av ns.length cv) ++ [.slice VA KL.length vc]) HRS.out ?hl3 ?hxx3 ?hyy3 ?hii3 ?h13 ?_);(case hww3=>(exact wantA rfl));(case hl3=>rfl);(case hxx3=>rfl);(case hyy3=>rfl);(case hii3=>kernel_rfl);(case h13=>exact z3D);intro Z hz hb;have HZZ:=I hz;have HBZ:=I hb;clear hz hb))
     (try simp only[Exit.inBlock,Exit.then])
     refine bodyPost_ret (z0p rfl _ _ r (recHd (.slice Av ns.length cv) ++ [.slice VA KL.length vc]) HSL.out rfl HZZ.out) rfl ?_
     refine⟨_,rfl,?_,HBW.out.trans (HBZ.out.below HBW.out.size HRG.out HRG.out)⟩
     rw[z4V]
     have hrow:=HRC.out
     rw[List.take_of_length_le (by rw[List.length_map];exact Nat.le_refl _)] at hrow
     refine z7D ?_ ?_ (by rw[List.length_map];have:=HIL.out;unfold maxLen;omega)
     ·refine HNV.out.to (fun b hp hlt=>⟨hp.1,(HBZ.out.block b (Nat.lt_of_lt_of_le hlt HRC.out.sz) hp.2.2 hp.2.2).trans (HSA.out b hlt hp.2.1)⟩) ?_
      exact Nat.le_trans HRC.out.sz HBZ.out.size
     ·exact hrow.row (by rw[List.length_map];have:=HIL.out;unfold maxLen;omega) (Nat.le_trans HQG.out (Nat.le_of_lt HQU.out)) (fun b hb hlt=>HBZ.out.block b hlt (by have:=HRU.out;omega) (by have:=HRU.out;omega)) HBZ.out.size
    |succ g=>
     have hlt:(j:Int) <(its.length:Int):=by omega
     obtain⟨y,hy⟩:∃ y,its[j]?= some y:=⟨_,List.getElem?_eq_getElem (by omega)⟩
     obtain⟨b,ob,rfl,hbb,hc⟩:=HA.out (by omega)
     obtain⟨cs,hcl,hr,hR⟩:=hc j y hy
     have HRT:=I (fun z (hz:Below wr.heap.size wr z)=>zd hr (HBW.out.trans (hz.mono HBW.out.size)) hbb)
     have HTYW:=I (fun z (hz:Below wr.heap.size wr z)=>(hR.under (HBW.out.trans (hz.mono HBW.out.size))).more (HBW.out.trans (hz.mono HBW.out.size)).size)
     have HCL:=I hcl
     have HY:=I hy
     have HSM:=I (HSMA.out y (List.mem_of_getElem? hy))
     have HBB:=I hbb
     have HC5:Hid (∀ z,Below wr.heap.size wr z->z.cell? ⟨q,5,none⟩= some (.slice VA KL.length vc)):=I fun z hz=>(hz.cell (p:=⟨q,5,none⟩) HWR.out.lt).trans (by have:=HWR.out.range 5 (.slice VA KL.length vc) rfl;rwa [Nat.zero_add] at this)
     have HTK:=I (z4q hy)
     have hln:its.length<=1000:=HIL.out
     clear hc hr hR hy hcl hbb
     obtain⟨j0,hi,hz0,hz1,hz2⟩:=z0b z0K
     have HJ0:=I hi
     have HY0:=I hz0
     have HY1:=I hz1
     have HY2:=I hz2
     clear hi hz0 hz1 hz2
     have d2:=HC2.out wr (Below.refl _ _)
     go_upto_region 9 with (fail)
     clear d2
     refine zy 11 [(0,true),(1,true),(2,true),(3,true),(4,true),(5,true),(6,true),(7,true),(8,false),(9,false),(10,false)] (fun z=>z.cell? ⟨q,5,none⟩= some (Value.slice VA KL.length vc)/\z.cell? ⟨p,o+2,none⟩= some (Value.slice (some ⟨b,ob,none⟩) its.length c)/\z.rangeAt b (ob+j*3) cs) (by kernel_rfl) (by kernel_rfl) rfl (by intro c a d v w h;cases d<;>exact h) ?_
     have HWD0:=I (show Below wr.heap.size wr wr.drew from(Below.refl _ _).drew)
     have hs:wr.drew.cell? ⟨q,5,none⟩= some (Value.slice VA KL.length vc)/\wr.drew.cell? ⟨p,o+2,none⟩= some (Value.slice (some ⟨b,ob,none⟩) its.length c)/\wr.drew.rangeAt b (ob+j*3) cs:=⟨HC5.out _ HWD0.out,HC2.out _ HWD0.out,HRT.out _ HWD0.out⟩
     refine z8 (some 28) (.pointer (some ⟨q,5,none⟩)) _ rfl rfl (by exact wantA rfl) hs (fun z hz=>by go_simp) ?_
     go_frame
     refine z8 (some 29) (.slice VA KL.length vc) _ rfl rfl (by exact wantA rfl) hs (fun z hz=>by have d1:=hz.1;clear hz;go_simp) ?_
     go_frame
     refine zk (some 30) (.pointer (some ⟨p,o,none⟩)) _ _ rfl rfl rfl (by exact wantA rfl) hs rfl ?_
     go_frame
     refine z8 (some 31) (.pointer (some ⟨p,o,none⟩)) _ rfl rfl (by exact wantA rfl) hs (fun z hz=>by go_simp) ?_
     go_frame
     refine z8 (some 32) (.pointer (some ⟨p,o+2,none⟩)) _ rfl rfl (by exact wantA rfl) hs (fun z hz=>by go_simp) ?_
     go_frame
     refine z8 (some 33) (.slice (some ⟨b,ob,none⟩) its.length c) _ rfl rfl (by exact wantA rfl) hs (fun z hz=>by have d1:=hz.2.1;clear hz;go_simp) ?_
     go_frame
     refine zk (some 34) (.int .i64 j) _ _ rfl rfl rfl (by exact wantA rfl) hs rfl ?_
     go_frame
     refine z8 (some 35) (.pointer (some ⟨b,ob+j*3,none⟩)) _ rfl rfl (by exact wantA rfl) hs (fun z hz=>by go_simp) ?_
     go_frame
     obtain⟨wd,hwd⟩:∃ z,wr.drew= z:=⟨_,rfl⟩
     have HRD:Hid (RowC 26 U.heap.size wd (.slice VA KL.length vc) ((its.map zeroT).take j) KL):=I (hwd▸ ⟨HRC.out.own,HRC.out.len,HRC.out.sz,fun j k x a b=>(HRC.out.els j k x a b).to (fun b h _=>⟨h,rfl⟩) (Nat.le_refl _)⟩)
     have HWQ:Hid (Whole 26 wd q (recHd (.slice Av ns.length cv) ++ [.slice VA KL.length vc])):=I (hwd▸HWR.out)
     have HWS:Hid (w.heap.size<=wd.heap.size):=I (hwd▸HBW.out.size)
     have HWD:Hid (Below wr.heap.size wr wd):=I (hwd▸HWD0.out)
     have HSD:Hid (∀ b,b < U.heap.size->b≠q->wd.heap[b]?= U.heap[b]?):=I (hwd▸HSA.out)
     have HBD:Hid (Below w.heap.size w wd):=I (HBW.out.trans (HWD.out.mono HBW.out.size))
     have HTY:=I (HTYW.out wd HWD.out)
     have HS0:Hid (wd.cell? ⟨q,5,none⟩= some (Value.slice VA KL.length vc)/\wd.cell? ⟨p,o+2,none⟩= some (Value.slice (some ⟨b,ob,none⟩) its.length c)/\wd.rangeAt b (ob+j*3) cs):=I (hwd▸hs)
     rw[hwd]
     clear hwd hs
     have HCI:=I (IH.out y (List.mem_of_getElem? HY.out) cs b (ob+j*3) wd HSM.out (HRT.out wd HWD.out) (Nat.lt_of_lt_of_le HBB.out HWS.out) HTY.out)
     refine zx (some 36) 55 Tryz.func55 (by kernel_rfl) (by kernel_rfl) [.pointer (some ⟨b,ob+j*3,none⟩)] _ _ _ rfl rfl rfl (by exact wantA rfl) rfl ?_
     refine HCI.out.mono ?_
     rintro e u6 ⟨cs',rfl,hk6,hb6⟩
     obtain⟨hl6,ho6⟩:=zi hk6.val
     have HK6:=I hk6
     have HB6:=I hb6
     have HL6:=I hl6
     have HO6:=I ho6
     clear hk6 hb6 hl6 ho6
     have keep:∀ z:World,(∀ b,b < wd.heap.size->b≠q->z.heap[b]?= wd.heap[b]?\/U.heap.size<=b)->z.heap[q]?= wd.heap[q]?->z.cell? ⟨q,5,none⟩= some (Value.slice VA KL.length vc)/\z.cell? ⟨p,o+2,none⟩= some (Value.slice (some ⟨b,ob,none⟩) its.length c)/\z.rangeAt b (ob+j*3) cs:=fun z h1 h2=>by
      have hp:z.heap[p]?= wd.heap[p]?:=(h1 p (Nat.lt_of_lt_of_le HPU.out HRD.out.sz) HPQ.out).resolve_right (by have:=HPU.out;omega)
      have hb2:z.heap[b]?= wd.heap[b]?:=(h1 b (Nat.lt_of_lt_of_le HBB.out HWS.out) (by have:=HBB.out;have:=HQG.out;omega)).resolve_right (by have:=HBB.out;have:=HULE.out;omega)
      exact⟨(World.cell?_of_block (a:=⟨q,5,none⟩) h2).trans HS0.out.1,(World.cell?_of_block (a:=⟨p,o+2,none⟩) hp).trans HS0.out.2.1,fun i v hv=>(World.cell?_of_block (a:=⟨b,_,none⟩) hb2).trans (HS0.out.2.2 i v hv)⟩
     have KEEP:=I keep
     clear keep
     refine⟨_,rfl,KEEP.out u6 (fun b hb _=> .inl (HB6.out.block b hb)) (HB6.out.block q HWQ.out.lt),?_⟩
     go_frame
     have HC7:Hid (∀ i u,(enc6 ⟨cs',HL6.out⟩)[i]?= some u->(u6.alloc (.cells ⟨cs'⟩ 26)).cell? ⟨u6.heap.size,i,none⟩= some u):=I (z0D u6 cs' 26)
     have HB7:=I (ze u6 (.cells ⟨cs'⟩ 26))
     have HU7:Hid (Below wd.heap.size wd (u6.alloc (.cells ⟨cs'⟩ 26))):=I (HB6.out.trans (HB7.out.mono HB6.out.size))
     have HS7:Hid (U.heap.size<=(u6.alloc (.cells ⟨cs'⟩ 26)).heap.size):=I (Nat.le_trans HRD.out.sz HU7.out.size)
     have HOW:Hid (OwnSl 26 6 enc6 (u6.alloc (.cells ⟨cs'⟩ 26)) U.heap.size (.slice VA KL.length vc) KL):=I (HRD.out.own.below HU7.out)
     have HKN:Hid (KL.length<=1000):=I (by have:=HKLL.out;rw[List.length_take] at this;have:=HIL.out;rw[List.length_map] at*;omega)
     have HM63:Hid (KL.length+1<=maxLen):=I (by have:=HKN.out;unfold maxLen;omega)
     have HM88:Hid ((KL.length+1) *88<=140737488355328):=I (by have:=HKN.out;omega)
     refine z0w (some 37) (.slice (some ⟨u6.heap.size,0,none⟩) 1 1) (u6.alloc (.cells ⟨cs'⟩ 26)) _ rfl rfl (by exact wantA rfl) (z3X 24 _ rfl 26 j0 _ cs' rfl Tryz.underlying24 HJ0.out HY0.out (by rw[HL6.out];exact HY1.out) (by rw[HL6.out];decide) (by rw[HL6.out];decide)) (KEEP.out _ (fun b hb _=> .inl (HU7.out.block b hb)) (HU7.out.block q HWQ.out.lt)) ?_
     go_frame
     refine z6L (some 38) _ _ _ 24 rfl rfl rfl (by exact wantA rfl) U.heap.size 26 j0 _ 6 88 enc6 Tryz.underlying24 HJ0.out HY0.out HY1.out HY2.out rfl (by decide) z0o (.slice VA KL.length vc) KL rfl HOW.out u6.heap.size 1 ⟨cs',HL6.out⟩ HO6.out rfl HC7.out HM63.out HM88.out HS7.out ?_
     intro v' u8 hown hg hblk
     have HN:=I (HRD.out.next HB6.out HB7.out HK6.out hown hg hblk)
     have hq8:u8.heap[q]?= wd.heap[q]?:=(hg.block q (Nat.lt_of_lt_of_le HWQ.out.lt HU7.out.size) (fun e=>by have:=HRD.out.own.block e.symm;have:=HQU.out;omega)).trans (HU7.out.block q HWQ.out.lt)
     have HWN:=I (HWQ.out.keep hq8)
     have HBN:=I ((HBD.out.trans (HU7.out.mono HBD.out.size)).grown hg (Nat.le_trans HWS.out HU7.out.size) (fun b hb=>Nat.le_trans HULE.out (HRD.out.own.block hb)))
     have HSN:Hid (∀ b,b < U.heap.size->b≠q->u8.heap[b]?= U.heap[b]?):=I fun b hb hne=>(hg.block b (Nat.lt_of_lt_of_le hb HS7.out) (fun e=>by have:=HRD.out.own.block e.symm;omega)).trans ((HU7.out.block b (Nat.lt_of_lt_of_le hb HRD.out.sz)).trans (HSD.out b hb hne))
     have hse:=KEEP.out u8 (fun b hb hne=>by
      rcases Nat.lt_or_ge b U.heap.size with h|h
      ·exact .inl ((HSN.out b h hne).trans (HSD.out b h hne).symm)
      ·exact .inr h) hq8
     obtain⟨XA,xc,rfl⟩:=z1G hown
     clear hown hg hblk hq8
     refine⟨hse,?_⟩
     go_frame
     refine z06 ?_
     have d5:=hse.1
     have f5:u8.frozen? ⟨q,5,none⟩= false:=HWN.out.frozV (j:=5) (show 5 < 6 by decide)
     clear hse
     go_wp2
     have HPT:Hid (Whole 26 (u8.setCell ⟨q,5,none⟩ (.slice XA (KL.length+1) xc)) q (recHd (.slice Av ns.length cv) ++ [.slice XA (KL.length+1) xc])):=I (Whole.putV (hd:=recHd (.slice Av ns.length cv)) (v:= .slice XA (KL.length+1) xc) HWN.out)
     have HBT:=I (But.set1 u8 q q 5 (.slice XA (KL.length+1) xc))
     go_roundg g
     case measure=>omega
     case rel=>exact⟨j+1,KL ++ [⟨cs',HL6.out⟩],_,by omega,by go_num,by rw[HTK.out];have hn:=HN.out;rw[List.length_append] at hn;exact hn.store HBT.out HQU.out,HPT.out,HBN.out.trans (HBT.out.below HBN.out.size HQG.out HQG.out),fun b hb hne=>(HBT.out.block b (Nat.lt_of_lt_of_le hb HN.out.sz) hne hne).trans (HSN.out b hb hne)⟩
  have h6b:(k ==6)= false:=by rw[beq_eq_false_iff_ne];exact h6
  go_wp2_with (first|((with_reducible refine zh 26 _ _ rfl rfl ?hww4 (r) (zV6) (kdC k) HWRS0.out ?hl4 ?hxx4 ?hyy4 ?hii4 ?h14 ?_);(case hww4=>(exact wantA rfl));(case hl4=>rfl);(case hxx4=>rfl);(case hyy4=>rfl);(case hii4=>kernel_rfl);(case h14=>exact z1g k);intro Z hz hb;have HZZ:=I hz;have HBZ:=I hb;clear hz hb))
  (try simp only[Exit.inBlock,Exit.then])
  refine bodyPost_ret (z0p rfl _ _ r (kdC k) rfl rfl HZZ.out) rfl ?_
  exact⟨_,rfl,by rw[z3Y h7 h6];exact z2j HK.out,HBL0.out.trans (HBZ.out.below HBL0.out.size (Nat.le_of_eq HRE.out) (Nat.le_of_eq HRE.out))⟩
theorem Whole.putM {T:TypeId} {w:World} {b:Nat} {pre post:List Value} {v0 v:Value} (h:Whole T w b (pre ++ v0::post)):Whole T (w.setCell ⟨b,pre.length,none⟩ v) b (pre ++ v::post):=by
 show(w.heap.modify b _)[b]?= _
 rw[Array.getElem?_modify,if_pos rfl,(show w.heap[b]?= _ from h)]
 simp
theorem zba:(Tryz.prog.info? 9).map (fun i=>(i.zero,i.size,i.bytes))= some (some (.string ⟨#[]⟩),1,16):=by kernel_rfl
theorem z8B:∀ (t:TT) (cs:List Value) (w:World),smlT t= true->TypAt w w.heap.size cs t->Calls Tryz.prog 56 #[.agg ⟨cs⟩] w (z7d t w):=by
 intro t
 induction t using TT.ind with
 |h k ns its ih=>
  intro cs w hsm hv
  have IH:=I ih
  obtain⟨hnl,hil,hsma⟩:=z83 hsm
  obtain⟨vn,vi,rfl,hk,hns,_,hi⟩:=hv.inv
  obtain⟨_,A,c,rfl,hA⟩:=hi
  obtain⟨-,An,cn,rfl,hAn⟩:=id hns
  have HA:=I hA
  have HAN:=I hAn
  have HK:=I hk
  have HIL:=I hil
  have HNL:=I hnl
  have HSMA:=I hsma
  clear ih hA hv hns hk hsm hsma hnl hil hAn
  go_enter Tryz.func56,Tryz.ntmps56
  go_upto_region 1 with (fail)
  rw[zv]
  have h1:=(Whole.new w [.int .i64 k,.slice An ns.length cn,.slice A its.length c] 45).keep ((ze (w.alloc (.cells ⟨[.int .i64 k,.slice An ns.length cn,.slice A its.length c]⟩ 45)) (.cells zV6.toArray 26)).block _ (by simp))
  have h2:=Whole.new (w.alloc (.cells ⟨[.int .i64 k,.slice An ns.length cn,.slice A its.length c]⟩ 45)) zV6 26
  rw[show(w.alloc (.cells ⟨[.int .i64 k,.slice An ns.length cn,.slice A its.length c]⟩ 45)).heap.size= w.heap.size+1 by simp] at h2
  have HBL0:Hid (Below w.heap.size w ((w.alloc (.cells ⟨[.int .i64 k,.slice An ns.length cn,.slice A its.length c]⟩ 45)).alloc (.cells zV6.toArray 26))):=I (((Below.refl w.heap.size w).alloc (by simp) (.cells ⟨[.int .i64 k,.slice An ns.length cn,.slice A its.length c]⟩ 45)).alloc (by simp) (.cells zV6.toArray 26))
  have HSZW:Hid (((w.alloc (.cells ⟨[.int .i64 k,.slice An ns.length cn,.slice A its.length c]⟩ 45)).alloc (.cells zV6.toArray 26)).heap.size= w.heap.size+2):=I (by simp)
  generalize (w.alloc (.cells ⟨[.int .i64 k,.slice An ns.length cn,.slice A its.length c]⟩ 45)).alloc (.cells zV6.toArray 26)= W at*
  have HTB0:=I h1
  have HRS0:=I h2
  clear h1 h2
  obtain⟨r,hr⟩:∃ r,w.heap.size+1= r:=⟨_,rfl⟩
  have HRE:=I hr
  rw[hr] at HRS0
  obtain⟨p,hp⟩:∃ p,w.heap.size= p:=⟨_,rfl⟩
  have HPE:=I hp
  have HTB:Hid (Whole 45 W p [.int .i64 k,.slice An ns.length cn,.slice A its.length c]):=I (hp▸HTB0.out)
  rw[hr,hp]
  clear hr hp HTB0
  have d0:W.cell? ⟨p,0,none⟩= some (.int .i64 k):=HTB.out.range 0 _ rfl
  go_upto_region 2 with (first|((with_reducible refine zh 26 _ _ rfl rfl ?hwwA (W.heap.size) zV6 (kdC k) ?fbA ?hlA ?hxxA ?hyyA ?hiiA ?h1A ?_);(case hwwA=>(exact wantA rfl));(case fbA=>exact Whole.new W zV6 26);(case hlA=>rfl);(case hxxA=>rfl);(case hyyA=>rfl);(case hiiA=>kernel_rfl);(case h1A=>exact z1g k);intro V hz hb;have HVQ:=I hz;have HVB:=I hb;clear hz hb))
  have HXV:Hid (Below W.heap.size W V):=I ((ze W (.cells zV6.toArray 26)).trans (HVB.out.below (ze W (.cells zV6.toArray 26)).size (Nat.le_refl _) (Nat.le_refl _)))
  have HTV:Hid (Whole 45 V p [.int .i64 k,.slice An ns.length cn,.slice A its.length c]):=I (HTB.out.keep (HXV.out.block _ HTB.out.lt))
  have HRV:Hid (Whole 26 V r zV6):=I (HRS0.out.keep (HXV.out.block _ HRS0.out.lt))
  have HBV:Hid (Below w.heap.size w V):=I (HBL0.out.trans (HXV.out.mono HBL0.out.size))
  have HQ2:Hid (W.heap.size= w.heap.size+2):=HSZW
  obtain⟨q,hq⟩:∃ q,W.heap.size= q:=⟨_,rfl⟩
  rw[hq] at HVQ HQ2
  rw[hq]
  clear d0 hq
  have d0:V.cell? ⟨p,0,none⟩= some (.int .i64 k):=HTV.out.range 0 _ rfl
  have HQG:Hid (w.heap.size<=q):=I (by have:=HQ2.out;omega)
  have HRG:Hid (w.heap.size<=r):=I (by have:=HRE.out;omega)
  by_cases h7:k= 7
  ·subst h7
   have d1:V.cell? ⟨q,0,none⟩= some (.int .i64 7):=HVQ.out.range 0 _ rfl
   have f1:V.frozen? ⟨q,0,none⟩= false:=HVQ.out.frozV (j:=0) (by decide)
   go_upto_region 4 with (fail)
   have HVP:Hid (Whole 26 (V.setCell ⟨q,0,none⟩ (.int .i64 0)) q zV6):=I (Whole.putM (pre:=[]) HVQ.out)
   have HVC:=I (But.set1 V q q 0 (.int .i64 0))
   have HPQ:Hid (p≠q):=I (by have:=HQ2.out;have:=HPE.out;omega)
   have HRQ:Hid (r≠q):=I (by have:=HQ2.out;have:=HRE.out;omega)
   clear d0 d1 f1
   generalize V.setCell ⟨q,0,none⟩ (.int .i64 0)= Y at*
   have d0:Y.cell? ⟨p,0,none⟩= some (.int .i64 7):=(HTV.out.keep (HVC.out.block p HTV.out.lt HPQ.out HPQ.out)).range 0 _ rfl
   have HRY:=I (HRV.out.keep (HVC.out.block r HRV.out.lt HRQ.out HRQ.out))
   have HBY:Hid (Below w.heap.size w Y):=I (HBV.out.trans (HVC.out.below HBV.out.size HQG.out HQG.out))
   have HL6:Hid (zV6.length= 6):=I rfl
   go_wp2_with (first|((with_reducible refine zc 26 _ rfl ?hwl5 (q) (0) (zV6) _ rfl HVP.out.range Tryz.underlying26 rfl ?hil5 ?_);(case hwl5=>(exact wantA rfl));(case hil5=>rw[HL6.out];kernel_rfl))|((with_reducible refine zh 26 _ _ rfl rfl ?hww6 (r) (zV6) (zV6) HRY.out ?hl6 ?hxx6 ?hyy6 ?hii6 ?h16 ?_);(case hww6=>(exact wantA rfl));(case hl6=>rfl);(case hxx6=>rfl);(case hyy6=>rfl);(case hii6=>kernel_rfl);(case h16=>exact z1g 0);intro Z hz hb;have HZZ:=I hz;have HBZ:=I hb;clear hz hb))
   (try simp only[Exit.inBlock,Exit.then])
   refine bodyPost_ret (z0p rfl _ _ r zV6 rfl rfl HZZ.out) rfl ?_
   exact⟨_,rfl,by rw[z2V];exact z2j (zr 0 (by decide +kernel)),HBY.out.trans (HBZ.out.below HBY.out.size HRG.out HRG.out)⟩
  have h7b:(k ==7)= false:=by rw[beq_eq_false_iff_ne];exact h7
  by_cases h6:k= 6
  ·subst h6
   obtain⟨i1,hi,hz0,hz1,hz2⟩:=z0b zba
   have HI1:=I hi
   have HI2:=I hz0
   have HI3:=I hz1
   have HI4:=I hz2
   clear hi hz0 hz1 hz2
   have d1:V.cell? ⟨p,1,none⟩= some (.slice An ns.length cn):=HTV.out.range 1 _ rfl
   have HVE:=I (ze V (.cells #[] 9))
   have d2:(V.alloc (.cells #[] 9)).cell? ⟨p,1,none⟩= some (.slice An ns.length cn):=(HVE.out.cell (p:=⟨p,1,none⟩) HTV.out.lt).trans d1
   have HOE:=I (z6U V 9 1 V.heap.size (Nat.le_refl _))
   have HNE:Hid ((ns.map Value.string).length= ns.length*1):=I (by simp)
   have HCE:Hid (0 < ns.length->∃ ad,An= some ad/\∀ j u,(ns.map Value.string)[j]?= some u->(V.alloc (.cells #[] 9)).cell? (ad.add j)= some u):=I (fun h0=>by
    obtain⟨b,ob,e,hb,hc⟩:=HAN.out h0
    refine⟨_,e,fun j u hj=> ?_⟩
    rw[List.getElem?_map] at hj
    cases hy:ns[j]? with
    |none=>rw[hy] at hj;cases hj
    |some y=>
     rw[hy] at hj
     injection hj with hj
     obtain⟨ks,hl,hr,hs⟩:=hc j y hy
     have hb2:b < V.heap.size:=Nat.lt_of_lt_of_le hb HBV.out.size
     rw[Addr.add_mid]
     refine(HVE.out.cell (p:=⟨b,ob+j,none⟩) hb2).trans ((HBV.out.cell (p:=⟨b,ob+j,none⟩) hb).trans ?_)
     have:=hr 0 (.string y) (by rw[hs.1];rfl)
     rw[Nat.mul_one,Nat.add_zero] at this
     rw[← hj];exact this)
   have HOS:Hid (∀ u∈ns.map Value.string,u.oneCell'= true):=I (fun u hu=>by obtain⟨s,_,rfl⟩:=List.mem_map.1 hu;rfl)
   have HNS:Hid (∀ s∈ns,s.size<=maxLen):=I (fun s hs=>by
    obtain⟨j,hj⟩:=List.mem_iff_getElem?.1 hs
    obtain⟨b,ob,e,hb,hc⟩:=HAN.out (by have:=(List.getElem?_eq_some_iff.1 hj).1;omega)
    obtain⟨ks,hl,hr,hs⟩:=hc j s hj
    exact hs.2)
   go_upto_region 6 with (first|(at_builtin;(refine z2z rfl _ _ 23 rfl V.heap.size 9 i1 (.string ⟨#[]⟩) 1 16 Tryz.underlying23 HI1.out HI2.out HI3.out HI4.out rfl (by decide) (.slice (some ⟨V.heap.size,0,none⟩) 0 0) 0 [] rfl HOE.out An ns.length cn (ns.map Value.string) rfl HNE.out HCE.out HOS.out ?m1 ?m2 ?m3 ?_;(case m1=>have:=HNL.out;unfold maxLen;omega);(case m2=>have:=HNL.out;omega);(case m3=>exact HVE.out.size);intro v' u8 hown hg;rw[Nat.zero_add,List.nil_append] at hown;have HKN:=I (z3v (w:=V) (w':=u8) HNS.out (by have:=HNL.out;omega) hown);obtain⟨Av,cv,rfl⟩:=zaH hown;have hb8:Below V.heap.size V u8:=HVE.out.grown hg HVE.out.size (fun b hb=>by have e:V.heap.size= b:=(by simpa [Value.ownBlock] using hb);omega);have HB8:=I hb8;have HQ8:=I (HVQ.out.keep (hb8.block _ HVQ.out.lt));clear hown hg hb8;have d4:u8.cell? ⟨q,4,none⟩= some (.slice none 0 0):=(by have:=HQ8.out.range 4 (.slice none 0 0) rfl;rwa [Nat.zero_add] at this);have f4:u8.frozen? ⟨q,4,none⟩= false:=HQ8.out.frozV (j:=4) (by decide))))
   have HWB:Hid (Whole 26 (u8.setCell ⟨q,4,none⟩ (.slice Av ns.length cv)) q (recHd (.slice Av ns.length cv) ++ [.slice none 0 0])):=I (Whole.putM (pre:=[.int .i64 6,.int .i64 0,.float .f64 0,.string ⟨#[]⟩]) (post:=[.slice none 0 0]) HQ8.out)
   have HUB:=I (But.set1 u8 q q 4 (.slice Av ns.length cv))
   have HPQ:Hid (p≠q):=I (by have:=HQ2.out;have:=HPE.out;omega)
   have HRQ:Hid (r≠q):=I (by have:=HQ2.out;have:=HRE.out;omega)
   have HVL:=I HVQ.out.lt
   have HQ8L:=I HQ8.out.lt
   clear d0 d1 d2 d4 f4
   generalize u8.setCell ⟨q,4,none⟩ (.slice Av ns.length cv)= U at*
   have HP8:Hid (p < u8.heap.size):=I (Nat.lt_of_lt_of_le HTV.out.lt HB8.out.size)
   have HR8:Hid (r < u8.heap.size):=I (Nat.lt_of_lt_of_le HRV.out.lt HB8.out.size)
   have HTU:Hid (Whole 45 U p [.int .i64 6,.slice An ns.length cn,.slice A its.length c]):=I ((HTV.out.keep (HB8.out.block p HTV.out.lt)).keep (HUB.out.block p HP8.out HPQ.out HPQ.out))
   have HWRS:Hid (Whole 26 U r zV6):=I ((HRV.out.keep (HB8.out.block r HRV.out.lt)).keep (HUB.out.block r HR8.out HRQ.out HRQ.out))
   have HBL8:Hid (Below w.heap.size w u8):=I (HBV.out.trans (HB8.out.mono HBV.out.size))
   have HBL:Hid (Below w.heap.size w U):=I (HBL8.out.trans (HUB.out.below HBL8.out.size HQG.out HQG.out))
   have HQU:Hid (q < U.heap.size):=I HWB.out.lt
   have HPU:Hid (p < U.heap.size):=I HTU.out.lt
   have HRU:Hid (r < U.heap.size):=I HWRS.out.lt
   have HULE:Hid (w.heap.size<=U.heap.size):=I HBL.out.size
   have HNV:Hid (KeptS (fun b=>w.heap.size<=b/\b≠q/\b≠r) U (.slice Av ns.length cv) ns):=I (HKN.out.to (fun b hp hlt=>by
    have h1:=HVL.out
    have h2:=HRV.out.lt
    have h3:=HBV.out.size
    exact⟨⟨Nat.le_trans h3 hp,fun e=>by omega,fun e=>by omega⟩,HUB.out.block b hlt (fun e=>by omega) (fun e=>by omega)⟩) HUB.out.size)
   have HCU:Hid (U.cell? ⟨p,2,none⟩= some (.slice A its.length c)):=I (HTU.out.range 2 _ rfl)
   have d2:=HCU.out
   go_wp2
   go_loopg [4] its.length (fun g i u=>∃ (j:Nat) (KL:List zK) (v:Value),j+g= its.length/\i= .int .i64 j/\RowC 26 U.heap.size u v ((its.map zeroT).take j) KL/\Whole 26 u q (recHd (.slice Av ns.length cv) ++ [v])/\Below w.heap.size w u/\(∀ b,b < U.heap.size->b≠q->u.heap[b]?= U.heap[b]?))
   case atStart=>exact⟨0,[],_,by omega,rfl,RowC.start _ (Nat.le_refl _),HWB.out,HBL.out,fun _ _ _=>rfl⟩
   case round=>
    obtain⟨j,KL,v,hj,rfl,hrc,hwb,hbl,hsam⟩:=hrel
    have HRC:=I hrc
    have HWR:=I hwb
    have HBW:=I hbl
    have HSA:=I hsam
    obtain⟨VA,vc,rfl⟩:=z1G hrc.own
    have HKLL:=I hrc.len
    clear hrc hwb hbl hsam
    have HC2:Hid (∀ z,Below wr.heap.size wr z->z.cell? ⟨p,2,none⟩= some (.slice A its.length c)):=I fun z hz=>(hz.cell (p:=⟨p,2,none⟩) (Nat.lt_of_lt_of_le HPU.out HRC.out.sz)).trans ((World.cell?_of_block (a:=⟨p,2,none⟩) (HSA.out p HPU.out HPQ.out)).trans HCU.out)
    cases gk with
    |zero=>
     obtain rfl:j= its.length:=by omega
     have hge: ¬ ((its.length:Int) <(its.length:Int)):=by omega
     have d2:=HC2.out wr (Below.refl _ _)
     have HSL:Hid ((recHd (.slice Av ns.length cv) ++ [Value.slice VA KL.length vc]).length= 6):=I rfl
     have HRS:Hid (Whole 26 wr r zV6):=I (HWRS.out.keep (HSA.out r HRU.out HRQ.out))
     clear HC2
     go_upto_region 10 with (fail)
     go_wp2_with (first|((with_reducible refine zc 26 _ rfl ?hwl7 (q) (0) (recHd (.slice Av ns.length cv) ++ [.slice VA KL.length vc]) _ rfl HWR.out.range Tryz.underlying26 rfl ?hil7 ?_);(case hwl7=>(exact wantA rfl));(case hil7=>rw[HSL.out];kernel_rfl))|((with_reducible refine zh 26 _ _ rfl rfl ?hww8 (r) (zV6) (recHd (.slice Av ns.length cv) ++ [.slice VA KL.length vc]) HRS.out ?hl8 ?hxx8 ?hyy8 ?hii8 ?h18 ?_);(case hww8=>(exact wantA rfl));(case hl8=>rfl);(case hxx8=>rfl);(case hyy8=>rfl);(case hii8=>kernel_rfl);(case h18=>exact z3D);intro Z hz hb;have HZZ:=I hz;have HBZ:=I hb;clear hz hb))
     (try simp only[Exit.inBlock,Exit.then])
     refine bodyPost_ret (z0p rfl _ _ r (recHd (.slice Av ns.length cv) ++ [.slice VA KL.length vc]) HSL.out rfl HZZ.out) rfl ?_
     refine⟨_,rfl,?_,HBW.out.trans (HBZ.out.below HBW.out.size HRG.out HRG.out)⟩
     rw[z4V]
     have hrow:=HRC.out
     rw[List.take_of_length_le (by rw[List.length_map];exact Nat.le_refl _)] at hrow
     refine z7D ?_ ?_ (by rw[List.length_map];have:=HIL.out;unfold maxLen;omega)
     ·refine HNV.out.to (fun b hp hlt=>⟨hp.1,(HBZ.out.block b (Nat.lt_of_lt_of_le hlt HRC.out.sz) hp.2.2 hp.2.2).trans (HSA.out b hlt hp.2.1)⟩) ?_
      exact Nat.le_trans HRC.out.sz HBZ.out.size
     ·exact hrow.row (by rw[List.length_map];have:=HIL.out;unfold maxLen;omega) (Nat.le_trans HQG.out (Nat.le_of_lt HQU.out)) (fun b hb hlt=>HBZ.out.block b hlt (by have:=HRU.out;omega) (by have:=HRU.out;omega)) HBZ.out.size
    |succ g=>
     have hlt:(j:Int) <(its.length:Int):=by omega
     obtain⟨y,hy⟩:∃ y,its[j]?= some y:=⟨_,List.getElem?_eq_getElem (by omega)⟩
     obtain⟨b,ob,rfl,hbb,hc⟩:=HA.out (by omega)
     obtain⟨cs,hcl,hr,hR⟩:=hc j y hy
     have HRT:=I (fun z (hz:Below wr.heap.size wr z)=>zd hr (HBW.out.trans (hz.mono HBW.out.size)) hbb)
     have HTYW:=I (fun z (hz:Below wr.heap.size wr z)=>(hR.under (HBW.out.trans (hz.mono HBW.out.size))).more (HBW.out.trans (hz.mono HBW.out.size)).size)
     have HCL:=I hcl
     have HY:=I hy
     have HSM:=I (HSMA.out y (List.mem_of_getElem? hy))
     have HBB:=I hbb
     have HC5:Hid (∀ z,Below wr.heap.size wr z->z.cell? ⟨q,5,none⟩= some (.slice VA KL.length vc)):=I fun z hz=>(hz.cell (p:=⟨q,5,none⟩) HWR.out.lt).trans (by have:=HWR.out.range 5 (.slice VA KL.length vc) rfl;rwa [Nat.zero_add] at this)
     have HTK:=I (z4q hy)
     have hln:its.length<=1000:=HIL.out
     clear hc hr hR hy hcl hbb
     obtain⟨j0,hi,hz0,hz1,hz2⟩:=z0b z0K
     have HJ0:=I hi
     have HY0:=I hz0
     have HY1:=I hz1
     have HY2:=I hz2
     clear hi hz0 hz1 hz2
     have d2:=HC2.out wr (Below.refl _ _)
     go_upto_region 9 with (fail)
     clear d2
     refine zy 10 [(0,true),(1,true),(2,true),(3,true),(4,true),(5,true),(6,true),(7,false),(8,false),(9,false)] (fun z=>z.cell? ⟨q,5,none⟩= some (Value.slice VA KL.length vc)/\z.cell? ⟨p,2,none⟩= some (Value.slice (some ⟨b,ob,none⟩) its.length c)/\z.rangeAt b (ob+j*3) cs) (by kernel_rfl) (by kernel_rfl) rfl (by intro c a d v w h;cases d<;>exact h) ?_
     have HWD0:=I (show Below wr.heap.size wr wr.drew from(Below.refl _ _).drew)
     have hs:wr.drew.cell? ⟨q,5,none⟩= some (Value.slice VA KL.length vc)/\wr.drew.cell? ⟨p,2,none⟩= some (Value.slice (some ⟨b,ob,none⟩) its.length c)/\wr.drew.rangeAt b (ob+j*3) cs:=⟨HC5.out _ HWD0.out,HC2.out _ HWD0.out,HRT.out _ HWD0.out⟩
     refine z8 (some 27) (.pointer (some ⟨q,5,none⟩)) _ rfl rfl (by exact wantA rfl) hs (fun z hz=>by go_simp) ?_
     go_frame
     refine z8 (some 28) (.slice VA KL.length vc) _ rfl rfl (by exact wantA rfl) hs (fun z hz=>by have d1:=hz.1;clear hz;go_simp) ?_
     go_frame
     refine z8 (some 29) (.pointer (some ⟨p,2,none⟩)) _ rfl rfl (by exact wantA rfl) hs (fun z hz=>by go_simp) ?_
     go_frame
     refine z8 (some 30) (.slice (some ⟨b,ob,none⟩) its.length c) _ rfl rfl (by exact wantA rfl) hs (fun z hz=>by have d1:=hz.2.1;clear hz;go_simp) ?_
     go_frame
     refine zk (some 31) (.int .i64 j) _ _ rfl rfl rfl (by exact wantA rfl) hs rfl ?_
     go_frame
     refine z8 (some 32) (.pointer (some ⟨b,ob+j*3,none⟩)) _ rfl rfl (by exact wantA rfl) hs (fun z hz=>by go_simp) ?_
     go_frame
     refine z8 (some 33) (.agg ⟨cs⟩) _ rfl rfl (by exact wantA rfl) hs (fun z hz=>zw 45 rfl b (ob+j*3) cs _ rfl hz.2.2 Tryz.underlying45 rfl (by rw[HCL.out];kernel_rfl)) ?_
     go_frame
     obtain⟨wd,hwd⟩:∃ z,wr.drew= z:=⟨_,rfl⟩
     have HRD:Hid (RowC 26 U.heap.size wd (.slice VA KL.length vc) ((its.map zeroT).take j) KL):=I (hwd▸ ⟨HRC.out.own,HRC.out.len,HRC.out.sz,fun j k x a b=>(HRC.out.els j k x a b).to (fun b h _=>⟨h,rfl⟩) (Nat.le_refl _)⟩)
     have HWQ:Hid (Whole 26 wd q (recHd (.slice Av ns.length cv) ++ [.slice VA KL.length vc])):=I (hwd▸HWR.out)
     have HWS:Hid (w.heap.size<=wd.heap.size):=I (hwd▸HBW.out.size)
     have HWD:Hid (Below wr.heap.size wr wd):=I (hwd▸HWD0.out)
     have HSD:Hid (∀ b,b < U.heap.size->b≠q->wd.heap[b]?= U.heap[b]?):=I (hwd▸HSA.out)
     have HBD:Hid (Below w.heap.size w wd):=I (HBW.out.trans (HWD.out.mono HBW.out.size))
     have HTY:=I (HTYW.out wd HWD.out)
     have HS0:Hid (wd.cell? ⟨q,5,none⟩= some (Value.slice VA KL.length vc)/\wd.cell? ⟨p,2,none⟩= some (Value.slice (some ⟨b,ob,none⟩) its.length c)/\wd.rangeAt b (ob+j*3) cs):=I (hwd▸hs)
     rw[hwd]
     clear hwd hs
     have HCI:=I (IH.out y (List.mem_of_getElem? HY.out) cs wd HSM.out HTY.out)
     refine zx (some 34) 56 Tryz.func56 (by kernel_rfl) (by kernel_rfl) [.agg ⟨cs⟩] _ _ _ rfl rfl rfl (by exact wantA rfl) rfl ?_
     refine HCI.out.mono ?_
     rintro e u6 ⟨cs',rfl,hk6,hb6⟩
     obtain⟨hl6,ho6⟩:=zi hk6.val
     have HK6:=I hk6
     have HB6:=I hb6
     have HL6:=I hl6
     have HO6:=I ho6
     clear hk6 hb6 hl6 ho6
     have keep:∀ z:World,(∀ b,b < wd.heap.size->b≠q->z.heap[b]?= wd.heap[b]?\/U.heap.size<=b)->z.heap[q]?= wd.heap[q]?->z.cell? ⟨q,5,none⟩= some (Value.slice VA KL.length vc)/\z.cell? ⟨p,2,none⟩= some (Value.slice (some ⟨b,ob,none⟩) its.length c)/\z.rangeAt b (ob+j*3) cs:=fun z h1 h2=>by
      have hp:z.heap[p]?= wd.heap[p]?:=(h1 p (Nat.lt_of_lt_of_le HPU.out HRD.out.sz) HPQ.out).resolve_right (by have:=HPU.out;omega)
      have hb2:z.heap[b]?= wd.heap[b]?:=(h1 b (Nat.lt_of_lt_of_le HBB.out HWS.out) (by have:=HBB.out;have:=HQG.out;omega)).resolve_right (by have:=HBB.out;have:=HULE.out;omega)
      exact⟨(World.cell?_of_block (a:=⟨q,5,none⟩) h2).trans HS0.out.1,(World.cell?_of_block (a:=⟨p,2,none⟩) hp).trans HS0.out.2.1,fun i v hv=>(World.cell?_of_block (a:=⟨b,_,none⟩) hb2).trans (HS0.out.2.2 i v hv)⟩
     have KEEP:=I keep
     clear keep
     refine⟨_,rfl,KEEP.out u6 (fun b hb _=> .inl (HB6.out.block b hb)) (HB6.out.block q HWQ.out.lt),?_⟩
     go_frame
     have HC7:Hid (∀ i u,(enc6 ⟨cs',HL6.out⟩)[i]?= some u->(u6.alloc (.cells ⟨cs'⟩ 26)).cell? ⟨u6.heap.size,i,none⟩= some u):=I (z0D u6 cs' 26)
     have HB7:=I (ze u6 (.cells ⟨cs'⟩ 26))
     have HU7:Hid (Below wd.heap.size wd (u6.alloc (.cells ⟨cs'⟩ 26))):=I (HB6.out.trans (HB7.out.mono HB6.out.size))
     have HS7:Hid (U.heap.size<=(u6.alloc (.cells ⟨cs'⟩ 26)).heap.size):=I (Nat.le_trans HRD.out.sz HU7.out.size)
     have HOW:Hid (OwnSl 26 6 enc6 (u6.alloc (.cells ⟨cs'⟩ 26)) U.heap.size (.slice VA KL.length vc) KL):=I (HRD.out.own.below HU7.out)
     have HKN:Hid (KL.length<=1000):=I (by have:=HKLL.out;rw[List.length_take] at this;have:=HIL.out;rw[List.length_map] at*;omega)
     have HM63:Hid (KL.length+1<=maxLen):=I (by have:=HKN.out;unfold maxLen;omega)
     have HM88:Hid ((KL.length+1) *88<=140737488355328):=I (by have:=HKN.out;omega)
     refine z0w (some 35) (.slice (some ⟨u6.heap.size,0,none⟩) 1 1) (u6.alloc (.cells ⟨cs'⟩ 26)) _ rfl rfl (by exact wantA rfl) (z3X 24 _ rfl 26 j0 _ cs' rfl Tryz.underlying24 HJ0.out HY0.out (by rw[HL6.out];exact HY1.out) (by rw[HL6.out];decide) (by rw[HL6.out];decide)) (KEEP.out _ (fun b hb _=> .inl (HU7.out.block b hb)) (HU7.out.block q HWQ.out.lt)) ?_
     go_frame
     refine z6L (some 36) _ _ _ 24 rfl rfl rfl (by exact wantA rfl) U.heap.size 26 j0 _ 6 88 enc6 Tryz.underlying24 HJ0.out HY0.out HY1.out HY2.out rfl (by decide) z0o (.slice VA KL.length vc) KL rfl HOW.out u6.heap.size 1 ⟨cs',HL6.out⟩ HO6.out rfl HC7.out HM63.out HM88.out HS7.out ?_
     intro v' u8 hown hg hblk
     have HN:=I (HRD.out.next HB6.out HB7.out HK6.out hown hg hblk)
     have hq8:u8.heap[q]?= wd.heap[q]?:=(hg.block q (Nat.lt_of_lt_of_le HWQ.out.lt HU7.out.size) (fun e=>by have:=HRD.out.own.block e.symm;have:=HQU.out;omega)).trans (HU7.out.block q HWQ.out.lt)
     have HWN:=I (HWQ.out.keep hq8)
     have HBN:=I ((HBD.out.trans (HU7.out.mono HBD.out.size)).grown hg (Nat.le_trans HWS.out HU7.out.size) (fun b hb=>Nat.le_trans HULE.out (HRD.out.own.block hb)))
     have HSN:Hid (∀ b,b < U.heap.size->b≠q->u8.heap[b]?= U.heap[b]?):=I fun b hb hne=>(hg.block b (Nat.lt_of_lt_of_le hb HS7.out) (fun e=>by have:=HRD.out.own.block e.symm;omega)).trans ((HU7.out.block b (Nat.lt_of_lt_of_le hb HRD.out.sz)).trans (HSD.out b hb hne))
     have hse:=KEEP.out u8 (fun b hb hne=>by
      rcases Nat.lt_or_ge b U.heap.size with h|h
      ·exact .inl ((HSN.out b h hne).trans (HSD.out b h hne).symm)
      ·exact .inr h) hq8
     obtain⟨XA,xc,rfl⟩:=z1G hown
     clear hown hg hblk hq8
     refine⟨hse,?_⟩
     go_frame
     refine z06 ?_
     have d5:=hse.1
     have f5:u8.frozen? ⟨q,5,none⟩= false:=HWN.out.frozV (j:=5) (show 5 < 6 by decide)
     clear hse
     go_wp2
     have HPT:Hid (Whole 26 (u8.setCell ⟨q,5,none⟩ (.slice XA (KL.length+1) xc)) q (recHd (.slice Av ns.length cv) ++ [.slice XA (KL.length+1) xc])):=I (Whole.putV (hd:=recHd (.slice Av ns.length cv)) (v:= .slice XA (KL.length+1) xc) HWN.out)
     have HBT:=I (But.set1 u8 q q 5 (.slice XA (KL.length+1) xc))
     go_roundg g
     case measure=>omega
     case rel=>exact⟨j+1,KL ++ [⟨cs',HL6.out⟩],_,by omega,by go_num,by rw[HTK.out];have hn:=HN.out;rw[List.length_append] at hn;exact hn.store HBT.out HQU.out,HPT.out,HBN.out.trans (HBT.out.below HBN.out.size HQG.out HQG.out),fun b hb hne=>(HBT.out.block b (Nat.lt_of_lt_of_le hb HN.out.sz) hne hne).trans (HSN.out b hb hne)⟩
  have h6b:(k ==6)= false:=by rw[beq_eq_false_iff_ne];exact h6
  have HL6:Hid ((kdC k).length= 6):=I rfl
  go_wp2_with (first|((with_reducible refine zc 26 _ rfl ?hwl9 (q) (0) (kdC k) _ rfl HVQ.out.range Tryz.underlying26 rfl ?hil9 ?_);(case hwl9=>(exact wantA rfl));(case hil9=>rw[HL6.out];kernel_rfl))|((with_reducible refine zh 26 _ _ rfl rfl ?hww10 (r) (zV6) (kdC k) HRV.out ?hl10 ?hxx10 ?hyy10 ?hii10 ?h110 ?_);(case hww10=>(exact wantA rfl));(case hl10=>rfl);(case hxx10=>rfl);(case hyy10=>rfl);(case hii10=>kernel_rfl);(case h110=>exact z1g k);intro Z hz hb;have HZZ:=I hz;have HBZ:=I hb;clear hz hb))
  (try simp only[Exit.inBlock,Exit.then])
  refine bodyPost_ret (z0p rfl _ _ r (kdC k) rfl rfl HZZ.out) rfl ?_
  exact⟨_,rfl,by rw[z3Y h7 h6];exact z2j HK.out,HBV.out.trans (HBZ.out.below HBV.out.size HRG.out HRG.out)⟩
end
section
open Go Go.RowKit
theorem z7X:∀ (l:List TT) (m:Nat),(∀ x∈l,∀ n,n < 500->n < cntT x n)->m<=200->cntTL l m<=200->m+l.length<=200/\∀ x∈l,∃ n,n<=200/\cntT x n<=200
 |[],m,_,h,_=>⟨by simpa using h,fun x hx=>by cases hx⟩
 |a::l,m,hx,hm,h=>by
  rw[cntTL,if_neg (by omega)] at h
  have h1:=hx a (by simp) m (by omega)
  have h2:cntT a m<=200:=by
   rcases Nat.lt_or_ge 200 (cntT a m) with h3|h3
   ·exfalso
    have key:∀ (l:List TT) (k:Nat),(∀ x∈l,∀ n,n < 500->n < cntT x n)->200 < k->200 < cntTL l k:=by
     intro l
     induction l with
     |nil=>intro k _ hk;rw[cntTL];exact hk
     |cons b r ih=>
      intro k hb hk
      rw[cntTL]
      split
      ·exact hk
      ·exact ih _ (fun x hx=>hb x (List.mem_cons_of_mem _ hx)) (by have:=hb b (by simp) k (by omega);omega)
    have:=key l _ (fun x hxx=>hx x (List.mem_cons_of_mem _ hxx)) h3
    omega
   ·exact h3
  obtain⟨h3,h4⟩:=z7X l (cntT a m) (fun x hxx=>hx x (List.mem_cons_of_mem _ hxx)) h2 h
  refine⟨by rw[List.length_cons];omega,fun x hxx=> ?_⟩
  rcases List.mem_cons.1 hxx with rfl|hxx
  ·exact⟨m,hm,h2⟩
  ·exact h4 x hxx
theorem z8Y (t:TT):∀ n,n < 500->n < cntT t n:=by
 induction t using TT.ind with
 |h k ns its ih=>
  intro n hn
  rw[cntT]
  have key:∀ (l:List TT) (m:Nat),(∀ x∈l,∀ n,n < 500->n < cntT x n)->m<=cntTL l m:=by
   intro l
   induction l with
   |nil=>intro m _;rw[cntTL];exact Nat.le_refl _
   |cons a l ihl=>
    intro m hx
    rw[cntTL]
    split
    ·exact Nat.le_refl _
    ·have h1:=hx a (by simp) m (by omega)
     have h2:=ihl (cntT a m) fun x hxx=>hx x (List.mem_cons_of_mem _ hxx)
     omega
  have:=key its (n+1) ih
  omega
theorem zaq (t:TT):∀ n d,n<=200->cntT t n<=200->zF t d= true->smlT t= true:=by
 induction t using TT.ind with
 |h k ns its ih=>
  intro n d hn hc ht
  have hg:=z8Y (.mk k ns its) n (by omega)
  rw[cntT] at hc
  have hn1:n+1<=200:=by rw[cntT] at hg;omega
  obtain⟨h1,h2⟩:=z7X its (n+1) (fun x _=>z8Y x) hn1 hc
  have hns:ns.length<=1000/\∀ x∈its,∃ e,zF x e= true:=by
   rw[zF] at ht
   by_cases hd:12 < d
   ·rw[if_pos hd] at ht;cases ht
   ·rw[if_neg hd] at ht
    by_cases h5:k= 5
    ·rw[if_pos h5] at ht
     simp only[Bool.and_eq_true,beq_iff_eq] at ht
     exact⟨by omega,fun x hx=>⟨d+1,z1m ht.2.2 x hx⟩⟩
    ·rw[if_neg h5] at ht
     by_cases h6:k= 6
     ·rw[if_pos h6] at ht
      simp only[Bool.and_eq_true,beq_iff_eq] at ht
      exact⟨by omega,fun x hx=>⟨d+1,z1m ht.2.2 x hx⟩⟩
     ·rw[if_neg h6] at ht
      by_cases h7:k= 1\/k= 2\/k= 3\/k= 4\/k= 7
      ·rw[if_pos h7] at ht
       simp only[Bool.and_eq_true,beq_iff_eq] at ht
       obtain⟨h8,h9⟩:=ht
       have:its=[]:=List.eq_nil_of_length_eq_zero h9
       subst this
       exact⟨by omega,fun x hx=>by cases hx⟩
      ·rw[if_neg h7] at ht;cases ht
  rw[smlT,Bool.and_eq_true,decide_eq_true_eq]
  refine⟨⟨hns.1,by omega⟩,?_⟩
  have key:∀ l:List TT,(∀ x∈l,smlT x= true)->smlTL l= true:=by
   intro l
   induction l with
   |nil=>intro _;rw[smlTL]
   |cons a l ihl=>intro h;rw[smlTL,h a (by simp),ihl fun x hx=>h x (List.mem_cons_of_mem _ hx)];rfl
  refine key its fun x hx=> ?_
  obtain⟨m,hm,hcm⟩:=h2 x hx
  obtain⟨e,he⟩:=hns.2 x hx
  exact ih x hx m e hm hcm he
theorem z6e {t:TT} (h:typeT t= true):smlT t= true:=by
 unfold typeT at h
 rw[Bool.and_eq_true,decide_eq_true_eq] at h
 exact zaq t 0 1 (by omega) h.1 h.2
theorem za7 (t:TT):∀ d e,zF t d= true->zo (zeroT t) e= true->fitsV (zeroT t) t= true:=by
 induction t using TT.ind with
 |h k ns its ih=>
  intro d e ht hr
  by_cases h7:k= 7
  ·subst h7
   rw[z2V] at hr
   unfold v0 at hr
   rw[zo] at hr
   simp at hr
  by_cases h6:k= 6
  ·subst h6
   rw[z4V] at hr ⊢
   rw[fitsV]
   have h1:=(z3N ht).2
   have h2:=(z3R hr).2
   have key:∀ l:List TT,(∀ x∈l,fitsV (zeroT x) x= true)->fitsL (l.map zeroT) l= true:=by
    intro l
    induction l with
    |nil=>intro _;rfl
    |cons a l ihl=>intro h;rw[List.map_cons,fitsL,h a (by simp),ihl fun x hx=>h x (List.mem_cons_of_mem _ hx)];rfl
   have:=key its fun x hx=>ih x hx _ _ (h1 x hx) (h2 _ (List.mem_map_of_mem hx))
   simp[this]
  ·rw[z3Y h7 h6,fitsV]
   by_cases h5:k= 5
   ·subst h5;simp[fitsA]
   ·simp[h5,h6]
def zeroV (t:TT):VT:=if typeT t= true then zeroT t else v0
theorem z9S {t:TT} (h:zj (zeroV t)= true):fitT (zeroV t) t= true:=by
 unfold zeroV at h ⊢
 by_cases ht:typeT t= true
 ·rw[if_pos ht] at h ⊢
  unfold fitT
  have h2:=h
  unfold zj at h
  rw[Bool.and_eq_true] at h
  have h3:=ht
  unfold typeT at h3
  rw[Bool.and_eq_true] at h3
  rw[show z28 (zeroT t)= true from h2,ht,za7 t 1 1 h3.2 h.2]
  rfl
 ·rw[if_neg ht] at h
  exact absurd h (by decide +kernel)
def z0h (x:ET):VT × Bool:=if anyE x= true then(v0,false) else((resV (evalT x [] [])).1,(resV (evalT x [] [])).2 ==0)
theorem z9R {x:ET} {E:List VarT} (h:anyE x= false):evalT x E []= evalT x [] []:=by
 unfold evalT
 split
 ·exact zbo x h
 ·rfl
theorem z8g {x:ET} (h:zJ x= false) (E:List VarT):evalT x E []= .error 2:=by
 unfold evalT
 rw[h]
 rfl
theorem zce {r:Res} (h: ¬ (resV r).2= 0):(resV r).1= v0:=by
 cases r with
 |error e=>rfl
 |ok v=>exact absurd rfl h
theorem zaK (x:ET) (E:List VarT):(zJ x= false/\(z0h x).2= false/\(z0h x).1= v0)\/(zJ x= true/\anyE x= true/\(z0h x).2= false/\(z0h x).1= v0)
  \/(zJ x= true/\anyE x= false/\(resV (evalT x E [])).2= 0/\(z0h x).2= true/\(z0h x).1=(resV (evalT x E [])).1)
  \/(zJ x= true/\anyE x= false/\¬ (resV (evalT x E [])).2= 0/\(z0h x).2= false/\(z0h x).1= v0):=by
 unfold z0h
 cases ha:anyE x with
 |true=>
  rw[if_pos rfl]
  cases hr:zJ x with
  |true=>exact .inr (.inl ⟨rfl,rfl,rfl,rfl⟩)
  |false=>exact .inl ⟨rfl,rfl,rfl⟩
 |false=>
  rw[if_neg (by decide),z9R (E:=E) ha]
  cases hr:zJ x with
  |false=>
   rw[z8g hr []]
   exact .inl ⟨rfl,rfl,rfl⟩
  |true=>
   by_cases h0:(resV (evalT x [] [])).2= 0
   ·exact .inr (.inr (.inl ⟨rfl,rfl,h0,by rw[h0];rfl,rfl⟩))
   ·exact .inr (.inr (.inr ⟨rfl,rfl,h0,by simpa using h0,zce h0⟩))
theorem z6Z {w:World} {B:Nat} {cs:List Value} {t:TT} (h:TypAt w B cs t):cs.length= 3/\∀ u∈cs,u.oneCell'= true:=z0z h
def z8R (t:TT) (w:World) (e:Ending) (w':World):Prop:=∃ cs,e= .returned (.agg ⟨cs⟩)/\Kept (fun b=>w.heap.size<=b) w' cs (zeroV t)/\Below w.heap.size w w'
theorem zbB (t:TT) (cs:List Value) (w:World) (hv:TypAt w w.heap.size cs t):Calls Tryz.prog 32 #[.agg ⟨cs⟩] w (z8R t w):=by
 have HV:=I hv
 have HCL:=I (z6Z hv).1
 clear hv
 go_enter Tryz.func32,Tryz.ntmps32
 go_upto_region 1 with (fail)
 rw[zv]
 have h1:=(Whole.new w cs 45).keep ((ze (w.alloc (.cells ⟨cs⟩ 45)) (.cells zV6.toArray 26)).block _ (by simp))
 have h2:=Whole.new (w.alloc (.cells ⟨cs⟩ 45)) zV6 26
 rw[show(w.alloc (.cells ⟨cs⟩ 45)).heap.size= w.heap.size+1 by simp] at h2
 have HBL0:Hid (Below w.heap.size w ((w.alloc (.cells ⟨cs⟩ 45)).alloc (.cells zV6.toArray 26))):=I (((Below.refl w.heap.size w).alloc (by simp) (.cells ⟨cs⟩ 45)).alloc (by simp) (.cells zV6.toArray 26))
 generalize (w.alloc (.cells ⟨cs⟩ 45)).alloc (.cells zV6.toArray 26)= W at*
 have HTB:=I h1
 have HRS:=I h2
 clear h1 h2
 have HTW:=I ((HV.out.under HBL0.out).more HBL0.out.size)
 have HS:=I (z6P t cs W HTW.out)
 obtain⟨b,hb⟩:∃ b,typeT t= b:=⟨_,rfl⟩
 rw[show(decide (cntT t 0<=200) && zF t 1)= b from hb] at HS
 have HTT:=I hb
 clear hb
 cases b with
 |false=>
  go_wp2_with (first|((with_reducible refine zc 45 _ rfl ?hwl1 (w.heap.size) (0) (cs) _ rfl HTB.out.range Tryz.underlying45 rfl ?hil1 ?_);(case hwl1=>(exact wantA rfl));(case hil1=>rw[HCL.out];kernel_rfl))|(go_at_call 54;refine HS.out.mono ?_;rintro e u ⟨rfl,hb⟩;have HB1:=I hb;have HR1:=I (HRS.out.keep (hb.block _ HRS.out.lt));clear hb)|((with_reducible refine zh 26 _ _ rfl rfl ?hww2 (w.heap.size+1) (zV6) (zV6) HR1.out ?hl2 ?hxx2 ?hyy2 ?hii2 ?h12 ?_);(case hww2=>(exact wantA rfl));(case hl2=>rfl);(case hxx2=>rfl);(case hyy2=>rfl);(case hii2=>kernel_rfl);(case h12=>exact z1g 0);intro Z hz hb;have HZZ:=I hz;have HBZ:=I hb;clear hz hb))
  (try simp only[Exit.inBlock,Exit.then])
  refine bodyPost_ret (z0p rfl _ _ (w.heap.size+1) zV6 rfl rfl HZZ.out) rfl ?_
  exact⟨_,rfl,by unfold zeroV;rw[HTT.out,if_neg (by decide)];exact z2j (zr 0 (by decide +kernel)),(HBL0.out.trans (HB1.out.mono HBL0.out.size)).trans (HBZ.out.below (Nat.le_trans HBL0.out.size HB1.out.size) (by omega) (by omega))⟩
 |true=>
  go_upto_region 3 with (first|((with_reducible refine zc 45 _ rfl ?hwl3 (w.heap.size) (0) (cs) _ rfl HTB.out.range Tryz.underlying45 rfl ?hil3 ?_);(case hwl3=>(exact wantA rfl));(case hil3=>rw[HCL.out];kernel_rfl))|(go_at_call 54;refine HS.out.mono ?_;rintro e u ⟨rfl,hb⟩;have HB1:=I hb;have HR1:=I (HRS.out.keep (hb.block _ HRS.out.lt));have HT1:=I (HTB.out.keep (hb.block _ HTB.out.lt));clear hb))
  have HBu:Hid (Below w.heap.size w u):=I (HBL0.out.trans (HB1.out.mono HBL0.out.size))
  have HTu:=I ((HV.out.under HBu.out).more HBu.out.size)
  have HZ0:=I (zb4 t cs w.heap.size 0 u (z6e HTT.out) HT1.out.range HT1.out.lt HTu.out)
  go_wp2_with (first|((with_reducible refine zc 45 _ rfl ?hwl4 (w.heap.size) (0) (cs) _ rfl HT1.out.range Tryz.underlying45 rfl ?hil4 ?_);(case hwl4=>(exact wantA rfl));(case hil4=>rw[HCL.out];kernel_rfl))|(go_at_call 55;refine HZ0.out.mono ?_;rintro e u6 ⟨cs',rfl,hk,hb⟩;have HL6:=I (zi hk.val).1;have HO6:=I (zi hk.val).2;have HK6:=I hk;have HB6:=I hb;have HR6:=I (HR1.out.keep (hb.block _ HR1.out.lt));clear hk hb)|((with_reducible refine zh 26 _ _ rfl rfl ?hww5 (w.heap.size+1) (zV6) (cs') HR6.out ?hl5 ?hxx5 ?hyy5 ?hii5 ?h15 ?_);(case hww5=>(exact wantA rfl));(case hl5=>rw[HL6.out];rfl);(case hxx5=>rfl);(case hyy5=>rfl);(case hii5=>rw[HL6.out];kernel_rfl);(case h15=>exact HO6.out);intro Z hz hb;have HZZ:=I hz;have HBZ:=I hb;clear hz hb))
  (try simp only[Exit.inBlock,Exit.then])
  refine bodyPost_ret (z0p rfl _ _ (w.heap.size+1) cs' HL6.out rfl HZZ.out) rfl ?_
  have hlt:=HR1.out.lt
  refine⟨_,rfl,?_,(HBu.out.trans (HB6.out.mono HBu.out.size)).trans (HBZ.out.below (Nat.le_trans HBu.out.size HB6.out.size) (by omega) (by omega))⟩
  unfold zeroV
  rw[HTT.out,if_pos rfl]
  exact HK6.out.to (fun b hp hl=>⟨Nat.le_trans HBu.out.size hp,HBZ.out.block b hl (by omega) (by omega)⟩) HBZ.out.size
theorem z9W (t:TT) (cs:List Value) (w:World) (hv:TypAt w w.heap.size cs t):Calls Tryz.prog 33 #[.agg ⟨cs⟩] w (z8R t w):=by
 have HV:=I hv
 have HCL:=I (z6Z hv).1
 clear hv
 go_enter Tryz.func33,Tryz.ntmps33
 go_upto_region 1 with (fail)
 rw[zv]
 have h1:=(Whole.new w cs 45).keep ((ze (w.alloc (.cells ⟨cs⟩ 45)) (.cells zV6.toArray 26)).block _ (by simp))
 have h2:=Whole.new (w.alloc (.cells ⟨cs⟩ 45)) zV6 26
 rw[show(w.alloc (.cells ⟨cs⟩ 45)).heap.size= w.heap.size+1 by simp] at h2
 have HBL0:Hid (Below w.heap.size w ((w.alloc (.cells ⟨cs⟩ 45)).alloc (.cells zV6.toArray 26))):=I (((Below.refl w.heap.size w).alloc (by simp) (.cells ⟨cs⟩ 45)).alloc (by simp) (.cells zV6.toArray 26))
 generalize (w.alloc (.cells ⟨cs⟩ 45)).alloc (.cells zV6.toArray 26)= W at*
 have HTB:=I h1
 have HRS:=I h2
 clear h1 h2
 have HTW:=I ((HV.out.under HBL0.out).more HBL0.out.size)
 have HS:=I (z2N t cs W HTW.out)
 obtain⟨b,hb⟩:∃ b,typeT t= b:=⟨_,rfl⟩
 rw[show(decide (cntT t 0<=200) && zF t 1)= b from hb] at HS
 have HTT:=I hb
 clear hb
 cases b with
 |false=>
  go_wp2_with (first|((with_reducible refine zc 45 _ rfl ?hwl6 (w.heap.size) (0) (cs) _ rfl HTB.out.range Tryz.underlying45 rfl ?hil6 ?_);(case hwl6=>(exact wantA rfl));(case hil6=>rw[HCL.out];kernel_rfl))|(go_at_call 43;refine HS.out.mono ?_;rintro e u ⟨rfl,hb⟩;have HB1:=I hb;have HR1:=I (HRS.out.keep (hb.block _ HRS.out.lt));clear hb)|((with_reducible refine zh 26 _ _ rfl rfl ?hww7 (w.heap.size+1) (zV6) (zV6) HR1.out ?hl7 ?hxx7 ?hyy7 ?hii7 ?h17 ?_);(case hww7=>(exact wantA rfl));(case hl7=>rfl);(case hxx7=>rfl);(case hyy7=>rfl);(case hii7=>kernel_rfl);(case h17=>exact z1g 0);intro Z hz hb;have HZZ:=I hz;have HBZ:=I hb;clear hz hb))
  (try simp only[Exit.inBlock,Exit.then])
  refine bodyPost_ret (z0p rfl _ _ (w.heap.size+1) zV6 rfl rfl HZZ.out) rfl ?_
  exact⟨_,rfl,by unfold zeroV;rw[HTT.out,if_neg (by decide)];exact z2j (zr 0 (by decide +kernel)),(HBL0.out.trans (HB1.out.mono HBL0.out.size)).trans (HBZ.out.below (Nat.le_trans HBL0.out.size HB1.out.size) (by omega) (by omega))⟩
 |true=>
  go_upto_region 3 with (first|((with_reducible refine zc 45 _ rfl ?hwl8 (w.heap.size) (0) (cs) _ rfl HTB.out.range Tryz.underlying45 rfl ?hil8 ?_);(case hwl8=>(exact wantA rfl));(case hil8=>rw[HCL.out];kernel_rfl))|(go_at_call 43;refine HS.out.mono ?_;rintro e u ⟨rfl,hb⟩;have HB1:=I hb;have HR1:=I (HRS.out.keep (hb.block _ HRS.out.lt));have HT1:=I (HTB.out.keep (hb.block _ HTB.out.lt));clear hb))
  have HBu:Hid (Below w.heap.size w u):=I (HBL0.out.trans (HB1.out.mono HBL0.out.size))
  have HTu:=I ((HV.out.under HBu.out).more HBu.out.size)
  have HZ0:=I (z8B t cs u (z6e HTT.out) HTu.out)
  go_wp2_with (first|((with_reducible refine zc 45 _ rfl ?hwl9 (w.heap.size) (0) (cs) _ rfl HT1.out.range Tryz.underlying45 rfl ?hil9 ?_);(case hwl9=>(exact wantA rfl));(case hil9=>rw[HCL.out];kernel_rfl))|(go_at_call 56;refine HZ0.out.mono ?_;rintro e u6 ⟨cs',rfl,hk,hb⟩;have HL6:=I (zi hk.val).1;have HO6:=I (zi hk.val).2;have HK6:=I hk;have HB6:=I hb;have HR6:=I (HR1.out.keep (hb.block _ HR1.out.lt));clear hk hb)|((with_reducible refine zh 26 _ _ rfl rfl ?hww10 (w.heap.size+1) (zV6) (cs') HR6.out ?hl10 ?hxx10 ?hyy10 ?hii10 ?h110 ?_);(case hww10=>(exact wantA rfl));(case hl10=>rw[HL6.out];rfl);(case hxx10=>rfl);(case hyy10=>rfl);(case hii10=>rw[HL6.out];kernel_rfl);(case h110=>exact HO6.out);intro Z hz hb;have HZZ:=I hz;have HBZ:=I hb;clear hz hb))
  (try simp only[Exit.inBlock,Exit.then])
  refine bodyPost_ret (z0p rfl _ _ (w.heap.size+1) cs' HL6.out rfl HZZ.out) rfl ?_
  have hlt:=HR1.out.lt
  refine⟨_,rfl,?_,(HBu.out.trans (HB6.out.mono HBu.out.size)).trans (HBZ.out.below (Nat.le_trans HBu.out.size HB6.out.size) (by omega) (by omega))⟩
  unfold zeroV
  rw[HTT.out,if_pos rfl]
  exact HK6.out.to (fun b hp hl=>⟨Nat.le_trans HBu.out.size hp,HBZ.out.block b hl (by omega) (by omega)⟩) HBZ.out.size
def zbJ (x:ET) (w:World) (e:Ending) (w':World):Prop:=∃ cs,e= .returned (.tuple #[.agg ⟨cs⟩,.bool (z0h x).2])/\ValAt w' w'.heap.size cs (z0h x).1/\Below w.heap.size w w'
theorem z8L (x:ET) (cx:List Value) (w:World) (htb:TabP w) (hx:ExpAt w w.heap.size cx x):Calls Tryz.prog 29 #[.agg ⟨cx⟩] w (zbJ x w):=by
 have HTB:=I htb
 have HX:=I hx
 have HLX:=I (eslen hx)
 clear htb hx
 go_enter Tryz.func29,Tryz.ntmps29
 go_upto_region 1 with (fail)
 rw[zv]
 have h1:=(Whole.new w cx 29).keep ((ze (w.alloc (.cells ⟨cx⟩ 29)) (.cells zV6.toArray 26)).block _ (by simp))
 have h2:=Whole.new (w.alloc (.cells ⟨cx⟩ 29)) zV6 26
 rw[show(w.alloc (.cells ⟨cx⟩ 29)).heap.size= w.heap.size+1 by simp] at h2
 have HBL0:Hid (Below w.heap.size w ((w.alloc (.cells ⟨cx⟩ 29)).alloc (.cells zV6.toArray 26))):=I (((Below.refl w.heap.size w).alloc (by simp) (.cells ⟨cx⟩ 29)).alloc (by simp) (.cells zV6.toArray 26))
 generalize (w.alloc (.cells ⟨cx⟩ 29)).alloc (.cells zV6.toArray 26)= W at*
 have HEB:=I h1
 have HRS:=I h2
 clear h1 h2
 have HXW:=I ((HX.out.under HBL0.out).more HBL0.out.size)
 have HS:=I (z7Q x cx w.heap.size 0 W HEB.out.range HEB.out.lt HXW.out)
 obtain⟨b,hb⟩:∃ b,anyE x= b:=⟨_,rfl⟩
 rw[hb] at HS
 have HAN:=I hb
 clear hb
 cases b with
 |true=>
  have HCR:Hid (z0h x=(v0,false)):=I (by unfold z0h;rw[HAN.out,if_pos rfl])
  go_wp2_with (first|(go_at_call 52;refine HS.out.mono ?_;rintro e u ⟨rfl,hb⟩;have HB1:=I hb;have HR1:=I (HRS.out.keep (hb.block _ HRS.out.lt));clear hb)|((with_reducible refine zh 26 _ _ rfl rfl ?hww11 (w.heap.size+1) (zV6) (zV6) HR1.out ?hl11 ?hxx11 ?hyy11 ?hii11 ?h111 ?_);(case hww11=>(exact wantA rfl));(case hl11=>rfl);(case hxx11=>rfl);(case hyy11=>rfl);(case hii11=>kernel_rfl);(case h111=>exact z1g 0);intro Z hz hb;have HZZ:=I hz;have HBZ:=I hb;clear hz hb))
  (try simp only[Exit.inBlock,Exit.then])
  refine bodyPost_ret (z33 rfl _ _ (w.heap.size+1) zV6 rfl (.bool false) rfl HZZ.out rfl) rfl ?_
  exact⟨_,by rw[HCR.out],by rw[HCR.out];exact z89 _ _,(HBL0.out.trans (HB1.out.mono HBL0.out.size)).trans (HBZ.out.below (Nat.le_trans HBL0.out.size HB1.out.size) (by omega) (by omega))⟩
 |false=>
  have HCR:Hid (z0h x=((resV (evalT x [] [])).1,(resV (evalT x [] [])).2 ==0)):=I (by unfold z0h;rw[HAN.out,if_neg (by decide)])
  go_upto_region 3 with (first|(go_at_call 52;refine HS.out.mono ?_;rintro e u ⟨rfl,hb⟩;have HB1:=I hb;have HR1:=I (HRS.out.keep (hb.block _ HRS.out.lt));have HE1:=I (HEB.out.keep (hb.block _ HEB.out.lt));clear hb))
  have HBu:Hid (Below w.heap.size w u):=I (HBL0.out.trans (HB1.out.mono HBL0.out.size))
  have HXu:=I ((HX.out.under HBu.out).more HBu.out.size)
  have HEV1:=I (z7r x [] [] cx (.slice none 0 0) (.slice none 0 0) u HXu.out (SlAt.nil _ _ _ _) (SlAt.nil _ _ _ _) (by decide) (by decide) (HTB.out.next HBu.out))
  obtain⟨n1,hn1⟩:∃ n,(resV (evalT x [] [])).2= n:=⟨_,rfl⟩
  have HN1:=I hn1
  obtain⟨r1,hr1⟩:∃ r,evalT x [] []= r:=⟨_,rfl⟩
  rw[hr1] at HEV1
  have HRR1:=I hr1
  clear hr1 hn1
  go_upto_region 4 with (first|((with_reducible refine zc 29 _ rfl ?hwl12 (w.heap.size) (0) (cx) _ rfl HE1.out.range Tryz.underlying29 rfl ?hil12 ?_);(case hwl12=>(exact wantA rfl));(case hil12=>rw[HLX.out];kernel_rfl))|(go_at_call 14;refine HEV1.out.mono ?_;rintro e y1 ⟨cs1,rfl,hk,hr,hb⟩;have HC1:=I (zi hk.val).1;have HOO1:=I (zi hk.val).2;have HVV1:=I hk.val;have HKP1:=I hk;have HBY1:=I hb;clear hk hr hb)|((with_reducible refine z09 26 _ _ rfl ?hwx13 y1 ?zz13 (cs1) ?hwld13 ?hz13 ?hx13 ?hy13 ?hi13 ?h113 ?_);(case hwld13=>rfl);(case hx13=>rfl);(case hy13=>rfl);(case hwx13=>(exact wantA rfl));(case hz13=>rw[HC1.out];rfl);(case hi13=>rw[HC1.out];kernel_rfl);(case h113=>exact HOO1.out);intro Z1 hZ;have HXX1:=I hZ;clear hZ))
  have HB2:Hid (Below u.heap.size u Z1):=I (HBY1.out.trans (HXX1.out.below.mono HBY1.out.size))
  have HBz:Hid (Below w.heap.size w Z1):=I (HBu.out.trans (HB2.out.mono HBu.out.size))
  have HR2:=I (HR1.out.keep (HB2.out.block _ HR1.out.lt))
  have HVZ:Hid (ValAt y1 y1.heap.size cs1 (resV r1).1):=HVV1
  have HRG:=I HXX1.out.range
  have HLT:=I HR1.out.lt
  have hN:(resV r1).2= n1:=by rw[← HRR1.out];exact HN1.out
  rw[hN]
  clear hN
  go_wp2_with (first|((with_reducible refine zc 26 _ rfl ?hwl14 (y1.heap.size) (0) (cs1) _ rfl HRG.out Tryz.underlying26 rfl ?hil14 ?_);(case hwl14=>(exact wantA rfl));(case hil14=>rw[HC1.out];kernel_rfl))|((with_reducible refine zh 26 _ _ rfl rfl ?hww15 (w.heap.size+1) (zV6) (cs1) HR2.out ?hl15 ?hxx15 ?hyy15 ?hii15 ?h115 ?_);(case hww15=>(exact wantA rfl));(case hl15=>rw[HC1.out];rfl);(case hxx15=>rfl);(case hyy15=>rfl);(case hii15=>rw[HC1.out];kernel_rfl);(case h115=>exact HOO1.out);intro Z hz hb;have HZZ:=I hz;have HBZ:=I hb;clear hz hb))
  (try simp only[Exit.inBlock,Exit.then])
  refine bodyPost_ret (z33 rfl _ _ (w.heap.size+1) cs1 HC1.out (.bool (n1 ==0)) rfl HZZ.out rfl) rfl ?_
  have hlt:=HLT.out
  refine⟨_,by rw[HCR.out,HN1.out],?_,HBz.out.trans (HBZ.out.below HBz.out.size (by omega) (by omega))⟩
  rw[HCR.out,HRR1.out]
  exact(HKP1.out.to (q:=fun _=>True) (fun b hp hl=>⟨trivial,(HBZ.out.block b (Nat.lt_of_lt_of_le hl HXX1.out.below.size) (by omega) (by omega)).trans (HXX1.out.below.block b hl)⟩) (Nat.le_trans HXX1.out.below.size HBZ.out.size)).val
end
section
open Go Go.RowKit
theorem zbI (a:VT):ordV a a= 0:=by
 have:=ordV_good.anti a a
 omega
theorem zdm (t:VT) (cs:List Value) (w:World) (hv:ValAt w w.heap.size cs t):Calls Tryz.prog 21 #[.agg ⟨cs⟩] w fun e w'=>e= .returned (.bool (zj t))/\Below w.heap.size w w':=z22 t cs w hv
section
variable {P:Program} {ops:Array Oper} {Q:Exit->Act->World->Prop} {S:World->Prop} {i:Nat} {r:List (Nat × Bool)} {a:Act} {w:World}
theorem z5I (d:Option Tmp) (o:Oper) (hi:ops[i]?= some o) (hd:o.dst= d) (hw:Region.wanted o (yielded ops a.tmps)= false) (hS:S w) (h:wpOrd P ops S Q r (a.put d undef) w):wpOrd P ops S Q ((i,true)::r) a w:=by subst hd;exact zcQ o hi hw hS h
theorem z9N (d:Option Tmp) (o:Oper) (hi:ops[i]?= some o) (hd:o.dst= d) (hw:Region.wanted o (yielded ops a.tmps)= false) (hS:S w) (h:wpOrd P ops S Q r (a.put d undef) w):wpOrd P ops S Q ((i,false)::r) a w:=by subst hd;exact zbW o hi hw hS h
end
theorem z3W (u:VT) (cs cs':List Value) (w:World) (hv:ValAt w w.heap.size cs u) (hv':ValAt w w.heap.size cs' u):Calls Tryz.prog 16 #[.agg ⟨cs⟩,.agg ⟨cs'⟩] w fun e w'=>e= .returned (.bool true)/\Below w.heap.size w w':=
 (ze7 u u cs cs' w hv hv').mono fun e w' ⟨h1,h2⟩=>⟨by rw[h1,zbI];rfl,h2⟩
theorem evalConst_walk (w:World) (htb:TabP w) (cx:List Value) (x:ET) (hxx:ExpAt w w.heap.size cx x) (v:Value) (E:List VarT) (hE:SlAt w w.heap.size 11 (VarAt w w.heap.size) v E) (hEl:E.length<=maxLen) (ct:List Value) (t:TT) (htt:TypAt w w.heap.size ct t):
  Calls Tryz.prog 9 #[.agg ⟨cx⟩,v,.agg ⟨ct⟩] w fun e w'=>e= .returned (.bool true)/\Below w.heap.size w w':=by
 have HTB:=I htb
 have HLx:=I (eslen hxx)
 have HOx:=I hxx.one
 have HXx:=I hxx
 have HLt:=I (z0z htt).1
 have HXt:=I htt
 obtain⟨hel,EA,ec,rfl,hEA⟩:=id hE
 have HE:=I hE
 have HEM:=I hEl
 clear hE hEA hEl hel htb hxx htt
 go_enter Tryz.func9,Tryz.ntmps9
 go_upto_region 1 with (fail)
 have hrx:=(Whole.new (w) cx 29).keep ((ze ((w).alloc (.cells ⟨cx⟩ 29)) (.cells ⟨ct⟩ 45)).block _ (by simp))
 have hrt:=Whole.new ((w).alloc (.cells ⟨cx⟩ 29)) ct 45
 rw[show((w).alloc (.cells ⟨cx⟩ 29)).heap.size= w.heap.size+1 by simp] at hrt
 have HB1:Hid (Below w.heap.size w (((w).alloc (.cells ⟨cx⟩ 29)).alloc (.cells ⟨ct⟩ 45))):=I (((Below.refl w.heap.size w).alloc (by simp) (.cells ⟨cx⟩ 29)).alloc (by simp) (.cells ⟨ct⟩ 45))
 generalize ((w).alloc (.cells ⟨cx⟩ 29)).alloc (.cells ⟨ct⟩ 45)= W at*
 have HRx:=I hrx
 have HRt:=I hrt
 clear hrx hrt
 have HK1:=I (Below.refl W.heap.size W)
 have HEx:=I (fun z (hz:Below W.heap.size W z)=>(((HXx.out.under (HB1.out.trans (hz.mono HB1.out.size))).more (HB1.out.trans (hz.mono HB1.out.size)).size:ExpAt z z.heap.size cx x)))
 have HWx:=I (fun z (hz:Below W.heap.size W z)=>HRx.out.keep (hz.block _ HRx.out.lt))
 have HEt:=I (fun z (hz:Below W.heap.size W z)=>(((HXt.out.under (HB1.out.trans (hz.mono HB1.out.size))).more (HB1.out.trans (hz.mono HB1.out.size)).size:TypAt z z.heap.size ct t)))
 have HWt:=I (fun z (hz:Below W.heap.size W z)=>HRt.out.keep (hz.block _ HRt.out.lt))
 have HEV:=I (fun z (hz:Below W.heap.size W z)=>((HE.out.below (HB1.out.trans (hz.mono HB1.out.size)) fun _ _ _ h=>(h.under (HB1.out.trans (hz.mono HB1.out.size))).more (HB1.out.trans (hz.mono HB1.out.size)).size).more (HB1.out.trans (hz.mono HB1.out.size)).size:SlAt z z.heap.size 11 (VarAt z z.heap.size) (.slice EA E.length ec) E))
 go_wp2_with (go_at_call 10;fail)
 refine(z4d W (HTB.out.next HB1.out)).mono ?_
 rintro e w2 ⟨rfl,hb⟩
 have HK2:=I hb
 have HB2:=I (HB1.out.trans (hb.mono HB1.out.size))
 clear hb
 have HS2:=I (zeF x cx w2 (HEx.out w2 HK2.out))
 go_wp2_with (first|((with_reducible refine zc 29 _ rfl ?hwl1 (w.heap.size) (0) (cx) _ rfl (HWx.out w2 HK2.out).range Tryz.underlying29 rfl ?hil1 ?_);(case hwl1=>(exact wantA rfl));(case hil1=>rw[HLx.out];kernel_rfl))|(go_at_call 11;fail))
 refine HS2.out.mono ?_
 rintro e w3 ⟨q,rfl,hb⟩
 have HK3:=I (HK2.out.trans (hb.mono HK2.out.size))
 have HB3:=I (HB2.out.trans (hb.mono HB2.out.size))
 clear hb HS2
 cases q with
 |false=>
  go_wp2_with (go_at_call 10;fail)
  refine(z4d w3 (HTB.out.next HB3.out)).mono ?_
  rintro e w9 ⟨rfl,hb⟩
  have HB9:=I (HB3.out.trans (hb.mono HB3.out.size))
  clear hb
  go_wp2
  go_ret
  exact⟨rfl,HB9.out⟩
 |true=>
  have HS3:=I (zdl E (.slice EA E.length ec) w3 (HEV.out w3 HK3.out) HEM.out)
  go_wp2_with (first|(go_at_call 12;fail))
  refine HS3.out.mono ?_
  rintro e w4 ⟨q,rfl,hq,hb⟩
  have HK4:=I (HK3.out.trans (hb.mono HK3.out.size))
  have HB4:=I (HB3.out.trans (hb.mono HB3.out.size))
  clear hb HS3
  cases q with
  |false=>
   clear hq
   go_wp2_with (go_at_call 10;fail)
   refine(z4d w4 (HTB.out.next HB4.out)).mono ?_
   rintro e w9 ⟨rfl,hb⟩
   have HB9:=I (HB4.out.trans (hb.mono HB4.out.size))
   clear hb
   go_wp2
   go_ret
   exact⟨rfl,HB9.out⟩
  |true=>
   have HE40:=I (hq rfl)
   clear hq
   have HS4:=I (za6 t ct w4 (HEt.out w4 HK4.out))
   go_wp2_with (first|((with_reducible refine zc 45 _ rfl ?hwl2 (w.heap.size+1) (0) (ct) _ rfl (HWt.out w4 HK4.out).range Tryz.underlying45 rfl ?hil2 ?_);(case hwl2=>(exact wantA rfl));(case hil2=>rw[HLt.out];kernel_rfl))|(go_at_call 28;fail))
   refine HS4.out.mono ?_
   rintro e w5 ⟨q,rfl,hb⟩
   have HK5:=I (HK4.out.trans (hb.mono HK4.out.size))
   have HB5:=I (HB4.out.trans (hb.mono HB4.out.size))
   clear hb HS4
   cases q with
   |false=>
    go_wp2_with (go_at_call 10;fail)
    refine(z4d w5 (HTB.out.next HB5.out)).mono ?_
    rintro e w9 ⟨rfl,hb⟩
    have HB9:=I (HB5.out.trans (hb.mono HB5.out.size))
    clear hb
    go_wp2
    go_ret
    exact⟨rfl,HB9.out⟩
   |true=>
    have HCO:=I (z8L x cx w5 (HTB.out.next HB5.out) (HEx.out w5 HK5.out))
    go_upto_region 4 with (first|((with_reducible refine zc 29 _ rfl ?hwl7 (w.heap.size) (0) (cx) _ rfl (HWx.out w5 HK5.out).range Tryz.underlying29 rfl ?hil7 ?_);(case hwl7=>(exact wantA rfl));(case hil7=>rw[HLx.out];kernel_rfl))|(go_at_call 29;refine HCO.out.mono ?_;rintro e y1 ⟨cs1,rfl,hk,hb⟩;have HC1:=I (zi hk).1;have HOO1:=I (zi hk).2;have HVV1:=I hk;have HBY1:=I hb;clear hk hb)|((with_reducible refine z09 26 _ _ rfl ?hwx8 y1 ?zz8 (cs1) ?hwld8 ?hz8 ?hx8 ?hy8 ?hi8 ?h18 ?_);(case hwld8=>rfl);(case hx8=>rfl);(case hy8=>rfl);(case hwx8=>(exact wantA rfl));(case hz8=>rw[HC1.out];rfl);(case hi8=>rw[HC1.out];kernel_rfl);(case h18=>exact HOO1.out);intro Z1 hZ;have HXX1:=I hZ;clear hZ))
    have HST1:Hid (Below w5.heap.size w5 Z1):=I (HBY1.out.trans (HXX1.out.below.mono HBY1.out.size))
    have HPL1:Hid (y1.heap.size < Z1.heap.size):=I HXX1.out.size
    have HPC1:=I HXX1.out.range
    have HVZ1:=I ((HVV1.out.under HXX1.out.below).more HXX1.out.below.size)
    obtain⟨q1,hq1⟩:∃ q,y1.heap.size= q:=⟨_,rfl⟩
    rw[hq1] at HPL1 HPC1
    rw[hq1]
    clear hq1 HXX1
    have HW1:Hid (Below W.heap.size W Z1):=I (HK5.out.trans (HST1.out.mono HK5.out.size))
    have HD1:Hid (Below w.heap.size w Z1):=I (HB5.out.trans (HST1.out.mono HB5.out.size))
    have HEV2:=I (z7r x E [] cx (.slice EA E.length ec) (.slice none 0 0) Z1 (HEx.out Z1 HW1.out) (HEV.out Z1 HW1.out) (SlAt.nil _ _ _ _) (by have:=HE40.out;omega) (by decide) (HTB.out.next HD1.out))
    go_upto_region 5 with (first|((with_reducible refine zc 29 _ rfl ?hwl9 (w.heap.size) (0) (cx) _ rfl (HWx.out Z1 HW1.out).range Tryz.underlying29 rfl ?hil9 ?_);(case hwl9=>(exact wantA rfl));(case hil9=>rw[HLx.out];kernel_rfl))|(go_at_call 14;refine HEV2.out.mono ?_;rintro e y2 ⟨cs2,rfl,hk,hr,hb⟩;have HC2:=I (zi hk.val).1;have HOO2:=I (zi hk.val).2;have HVV2:=I hk.val;have HBY2:=I hb;clear hk hr hb)|((with_reducible refine z09 26 _ _ rfl ?hwx10 y2 ?zz10 (cs2) ?hwld10 ?hz10 ?hx10 ?hy10 ?hi10 ?h110 ?_);(case hwld10=>rfl);(case hx10=>rfl);(case hy10=>rfl);(case hwx10=>(exact wantA rfl));(case hz10=>rw[HC2.out];rfl);(case hi10=>rw[HC2.out];kernel_rfl);(case h110=>exact HOO2.out);intro Z2 hZ;have HXX2:=I hZ;clear hZ))
    have HST2:Hid (Below Z1.heap.size Z1 Z2):=I (HBY2.out.trans (HXX2.out.below.mono HBY2.out.size))
    have HPL2:Hid (y2.heap.size < Z2.heap.size):=I HXX2.out.size
    have HPC2:=I HXX2.out.range
    have HVZ2:=I ((HVV2.out.under HXX2.out.below).more HXX2.out.below.size)
    obtain⟨q2,hq2⟩:∃ q,y2.heap.size= q:=⟨_,rfl⟩
    rw[hq2] at HPL2 HPC2
    rw[hq2]
    clear hq2 HXX2
    have HW2:Hid (Below W.heap.size W Z2):=I (HW1.out.trans (HST2.out.mono HW1.out.size))
    have HD2:Hid (Below w.heap.size w Z2):=I (HD1.out.trans (HST2.out.mono HD1.out.size))
    have HV1:Hid (∀ z,Below Z2.heap.size Z2 z->ValAt z z.heap.size cs1 (z0h x).1/\z.rangeAt q1 0 cs1):=I fun z hz=>⟨(HVZ1.out.under (HST2.out.trans (hz.mono HST2.out.size))).more (HST2.out.trans (hz.mono HST2.out.size)).size,zd HPC1.out (HST2.out.trans (hz.mono HST2.out.size)) HPL1.out⟩
    have HV2:Hid (∀ z,Below Z2.heap.size Z2 z->ValAt z z.heap.size cs2 (resV (evalT x E [])).1/\z.rangeAt q2 0 cs2):=I fun z hz=>⟨(HVZ2.out.under hz).more hz.size,zd HPC2.out hz HPL2.out⟩
    have HC:=I (Below.refl Z2.heap.size Z2)
    have HRI:=I (fun z (hz:Below Z2.heap.size Z2 z)=>zdH x cx z (HEx.out z (HW2.out.trans (hz.mono HW2.out.size))))
    have HAN:=I (fun z (hz:Below Z2.heap.size Z2 z)=>zed x cx z (HEx.out z (HW2.out.trans (hz.mono HW2.out.size))))
    have HZE:=I (fun z (hz:Below Z2.heap.size Z2 z)=>zbB t ct z (HEt.out z (HW2.out.trans (hz.mono HW2.out.size))))
    have hlaw:=zaK x E
    obtain⟨n2,hn2⟩:∃ n,(resV (evalT x E [])).2= n:=⟨_,rfl⟩
    obtain⟨okb,hok⟩:∃ b,(z0h x).2= b:=⟨_,rfl⟩
    obtain⟨rt,hrt⟩:∃ b,zJ x= b:=⟨_,rfl⟩
    obtain⟨an,han⟩:∃ b,anyE x= b:=⟨_,rfl⟩
    rw[hn2,hok]
    rw[hn2,hok,hrt,han] at hlaw
    rw[hrt] at HRI
    rw[han] at HAN
    clear hn2 hok hrt han
    have HZ0:Hid (∀ z,Below Z2.heap.size Z2 z->ValAt z z.heap.size zV6 v0):=I fun z _=>z89 _ _
    have hv0:okb= false->(z0h x).1= v0:=fun hk=>by
     rcases hlaw with ⟨_,_,h⟩|⟨_,_,_,h⟩|⟨_,_,_,h,_⟩|⟨_,_,_,_,h⟩
     ·exact h
     ·exact h
     ·rw[hk] at h;cases h
     ·exact h
    have hv1:okb= true->(z0h x).1=(resV (evalT x E [])).1:=fun hk=>by
     rcases hlaw with ⟨_,h,_⟩|⟨_,_,h,_⟩|⟨_,_,_,_,h⟩|⟨_,_,_,h,_⟩
     ·rw[hk] at h;cases h
     ·rw[hk] at h;cases h
     ·exact h
     ·rw[hk] at h;cases h
    have HSA0:Hid (okb= false->∀ z,Below Z2.heap.size Z2 z->Calls Tryz.prog 16 #[.agg ⟨cs1⟩,.agg ⟨zV6⟩] z fun e w'=>e= .returned (.bool true)/\Below z.heap.size z w'):=I fun hk z hz=>z3W v0 cs1 zV6 z (hv0 hk▸ (HV1.out z hz).1) (HZ0.out z hz)
    have HSA1:Hid (okb= true->∀ z,Below Z2.heap.size Z2 z->Calls Tryz.prog 16 #[.agg ⟨cs1⟩,.agg ⟨cs2⟩] z fun e w'=>e= .returned (.bool true)/\Below z.heap.size z w'):=I fun hk z hz=>z3W _ cs1 cs2 z (hv1 hk▸ (HV1.out z hz).1) (HV2.out z hz).1
    clear hv0 hv1
    rcases hlaw with ⟨rfl,rfl,h1⟩|⟨rfl,rfl,rfl,h1⟩|⟨rfl,rfl,rfl,rfl,h1⟩|⟨rfl,rfl,hn,rfl,h1⟩
    all_goals clear h1
    all_goals try (have hn1:(n2 ==0)= false:=by simpa using hn)
    all_goals try clear hn
    all_goals
     go_upto_region 9 with (first|((with_reducible refine zc 29 _ rfl ?hwl3 (w.heap.size) (0) (cx) _ rfl (HWx.out _ (HW2.out.trans (HC.out.mono HW2.out.size))).range Tryz.underlying29 rfl ?hil3 ?_);(case hwl3=>(exact wantA rfl));(case hil3=>rw[HLx.out];kernel_rfl))|(go_at_call 30;refine(HRI.out _ HC.out).mono ?_;rintro e z5 ⟨rfl,hb⟩;have HC:=I (HC.out.trans (hb.mono HC.out.size));clear hb)|(go_at_call 31;refine(HAN.out _ HC.out).mono ?_;rintro e z6 ⟨rfl,hb⟩;have HC:=I (HC.out.trans (hb.mono HC.out.size));clear hb)|((with_reducible refine zc 26 _ rfl ?hwl5 (q1) (0) (cs1) _ rfl (HV1.out _ HC.out).2 Tryz.underlying26 rfl ?hil5 ?_);(case hwl5=>(exact wantA rfl));(case hil5=>rw[HC1.out];kernel_rfl))|((with_reducible refine zc 26 _ rfl ?hwl6 (q2) (0) (cs2) _ rfl (HV2.out _ HC.out).2 Tryz.underlying26 rfl ?hil6 ?_);(case hwl6=>(exact wantA rfl));(case hil6=>rw[HC2.out];kernel_rfl))|(go_at_call 16;refine(HSA0.out (by first|rfl|trivial) _ HC.out).mono ?_;rintro e z7 ⟨rfl,hb⟩;have HC:=I (HC.out.trans (hb.mono HC.out.size));clear hb)|(go_at_call 16;refine(HSA1.out (by first|rfl|trivial) _ HC.out).mono ?_;rintro e z7 ⟨rfl,hb⟩;have HC:=I (HC.out.trans (hb.mono HC.out.size));clear hb)|((with_reducible refine zc 45 _ rfl ?hwl4 (w.heap.size+1) (0) (ct) _ rfl (HWt.out _ (HW2.out.trans (HC.out.mono HW2.out.size))).range Tryz.underlying45 rfl ?hil4 ?_);(case hwl4=>(exact wantA rfl));(case hil4=>rw[HLt.out];kernel_rfl))|(go_at_call 32;refine(HZE.out _ HC.out).mono ?_;rintro e y3 ⟨cs3,rfl,hk,hb⟩;have HC3:=I (zi hk.val).1;have HOO3:=I (zi hk.val).2;have HVV3:=I hk.val;have HBY3:=I (HC.out.trans (hb.mono HC.out.size));clear hk hb)|((with_reducible refine z09 26 _ _ rfl ?hwx11 y3 ?zz11 (cs3) ?hwld11 ?hz11 ?hx11 ?hy11 ?hi11 ?h111 ?_);(case hwld11=>rfl);(case hx11=>rfl);(case hy11=>rfl);(case hwx11=>(exact wantA rfl));(case hz11=>rw[HC3.out];rfl);(case hi11=>rw[HC3.out];kernel_rfl);(case h111=>exact HOO3.out);intro Z3 hZ;have HXX3:=I hZ;clear hZ))
     have HV3:Hid (∀ z,Below Z3.heap.size Z3 z->ValAt z z.heap.size cs3 (zeroV t)/\z.rangeAt y3.heap.size 0 cs3):=I fun z hz=>⟨(HVV3.out.under (HXX3.out.below.trans (hz.mono HXX3.out.below.size))).more (HXX3.out.below.trans (hz.mono HXX3.out.below.size)).size,zd HXX3.out.range hz HXX3.out.size⟩
     have HC3B:Hid (Below Z2.heap.size Z2 Z3):=I (HBY3.out.trans (HXX3.out.below.mono HBY3.out.size))
     have HW3:Hid (Below W.heap.size W Z3):=I (HW2.out.trans (HC3B.out.mono HW2.out.size))
     have HD3:Hid (Below w.heap.size w Z3):=I (HD2.out.trans (HC3B.out.mono HD2.out.size))
     have HFT:=I (fun h=>z9S (t:=t) h)
     obtain⟨q3,hq3⟩:∃ q,y3.heap.size= q:=⟨_,rfl⟩
     rw[hq3] at HV3
     rw[hq3]
     clear hq3
     have hs:Below Z3.heap.size Z3 Z3.drew:=(Below.refl _ _).drew
     refine zu [(0,true),(1,true),(2,false),(3,false),(4,true),(5,true),(6,false),(7,true),(8,true),(9,true),(10,true),(11,false),(12,true),(13,true),(14,true)] (fun z=>Below Z3.heap.size Z3 z) (by kernel_rfl) (by kernel_rfl) (by kernel_rfl) rfl (by intro c a d v w h;cases d<;>exact h) ?_
     refine z8 (some 77) (.agg ⟨cs3⟩) _ rfl rfl (by exact wantA rfl) hs (fun z hz=>zw 26 rfl (q3) 0 (cs3) _ rfl ((HV3.out z hz).2) Tryz.underlying26 rfl (by rw[HC3.out];kernel_rfl)) ?_
     go_frame
     refine z8 (some 78) (.agg ⟨ct⟩) _ rfl rfl (by exact wantA rfl) hs (fun z hz=>zw 45 rfl (w.heap.size+1) 0 (ct) _ rfl ((HWt.out z (HW3.out.trans (hz.mono HW3.out.size))).range) Tryz.underlying45 rfl (by rw[HLt.out];kernel_rfl)) ?_
     go_frame
     refine zx (some 79) 33 Tryz.func33 (by kernel_rfl) (by kernel_rfl) [.agg ⟨ct⟩] _ _ _ rfl rfl rfl (by exact wantA rfl) rfl ?_
     refine(z9W t ct Z3.drew (HEt.out Z3.drew (HW3.out.trans (hs.mono HW3.out.size)))).mono ?_
     rintro e u1 ⟨cs4,rfl,hk4,hb⟩
     have hs:Below Z3.heap.size Z3 u1:=hs.trans (hb.mono hs.size)
     clear hb
     refine⟨_,rfl,hs,?_⟩
     go_frame
     refine zx (some 80) 16 Tryz.func16 (by kernel_rfl) (by kernel_rfl) [.agg ⟨cs3⟩,.agg ⟨cs4⟩] _ _ _ rfl rfl rfl (by exact wantA rfl) rfl ?_
     refine(z3W (zeroV t) cs3 cs4 u1 (HV3.out u1 hs).1 hk4.val).mono ?_
     rintro e u2 ⟨rfl,hb⟩
     have hs:Below Z3.heap.size Z3 u2:=hs.trans (hb.mono hs.size)
     clear hb
     refine⟨_,rfl,hs,?_⟩
     go_frame
     refine zk (some 81) (.bool true) _ _ rfl rfl rfl (by exact wantA rfl) hs rfl ?_
     go_frame
     refine z8 (some 82) (.agg ⟨cs3⟩) _ rfl rfl (by exact wantA rfl) hs (fun z hz=>zw 26 rfl (q3) 0 (cs3) _ rfl ((HV3.out z hz).2) Tryz.underlying26 rfl (by rw[HC3.out];kernel_rfl)) ?_
     go_frame
     refine zx (some 83) 21 Tryz.func21 (by kernel_rfl) (by kernel_rfl) [.agg ⟨cs3⟩] _ _ _ rfl rfl rfl (by exact wantA rfl) rfl ?_
     refine(zdm (zeroV t) cs3 u2 (HV3.out u2 hs).1).mono ?_
     rintro e u3 ⟨rfl,hb⟩
     have hs:Below Z3.heap.size Z3 u3:=hs.trans (hb.mono hs.size)
     clear hb
     refine⟨_,rfl,hs,?_⟩
     go_frame
     obtain⟨rz,hrz⟩:∃ b,zj (zeroV t)= b:=⟨_,rfl⟩
     rw[hrz]
     cases rz with
     |false=>
      refine z8 (some 84) (.bool true) _ rfl rfl (by exact wantA rfl) hs (fun z hz=>by go_simp) ?_
      go_frame
      refine zk (some 85) (.bool true) _ _ rfl rfl rfl (by exact wantA rfl) hs rfl ?_
      go_frame
      refine z5I (some 86) _ rfl rfl (z36 rfl rfl rfl rfl (by decide)) hs ?_
      go_frame
      refine z5I (some 87) _ rfl rfl (z36 rfl rfl rfl rfl (by decide)) hs ?_
      go_frame
      refine z9N (some 88) _ rfl rfl (z36 rfl rfl rfl rfl (by decide)) hs ?_
      go_frame
      refine z0U (some 89) (.bool true) _ _ _ _ true rfl rfl rfl rfl (by exact wantA rfl) hs rfl ?_
      go_frame
      refine z0U (some 90) (.bool true) _ _ _ _ true rfl rfl rfl rfl (by exact wantA rfl) hs rfl ?_
      go_frame
      refine z0g (some 6) (.bool true) _ _ rfl rfl rfl (by exact wantA rfl) hs rfl ?_
      go_frame
      refine zR ?_
      go_wp2
      go_ret
      exact⟨rfl,HD3.out.trans (hs.mono HD3.out.size)⟩
     |true=>
      refine z8 (some 84) (.bool false) _ rfl rfl (by exact wantA rfl) hs (fun z hz=>by go_simp) ?_
      go_frame
      refine zk (some 85) (.bool false) _ _ rfl rfl rfl (by exact wantA rfl) hs rfl ?_
      go_frame
      refine z8 (some 86) (.agg ⟨cs3⟩) _ rfl rfl (by exact wantA rfl) hs (fun z hz=>zw 26 rfl (q3) 0 (cs3) _ rfl ((HV3.out z hz).2) Tryz.underlying26 rfl (by rw[HC3.out];kernel_rfl)) ?_
      go_frame
      refine z8 (some 87) (.agg ⟨ct⟩) _ rfl rfl (by exact wantA rfl) hs (fun z hz=>zw 45 rfl (w.heap.size+1) 0 (ct) _ rfl ((HWt.out z (HW3.out.trans (hz.mono HW3.out.size))).range) Tryz.underlying45 rfl (by rw[HLt.out];kernel_rfl)) ?_
      go_frame
      refine zx (some 88) 18 Tryz.func18 (by kernel_rfl) (by kernel_rfl) [.agg ⟨cs3⟩,.agg ⟨ct⟩] _ _ _ rfl rfl rfl (by exact wantA rfl) rfl ?_
      refine(zbE (zeroV t) t cs3 ct u3 (HV3.out u3 hs).1 (HEt.out u3 (HW3.out.trans (hs.mono HW3.out.size)))).mono ?_
      rintro e u4 ⟨rfl,hb⟩
      have hs:Below Z3.heap.size Z3 u4:=hs.trans (hb.mono hs.size)
      clear hb
      refine⟨_,rfl,hs,?_⟩
      go_frame
      rw[HFT.out hrz]
      refine z0U (some 89) (.bool true) _ _ _ _ false rfl rfl rfl rfl (by exact wantA rfl) hs rfl ?_
      go_frame
      refine z0U (some 90) (.bool true) _ _ _ _ true rfl rfl rfl rfl (by exact wantA rfl) hs rfl ?_
      go_frame
      refine z0g (some 6) (.bool true) _ _ rfl rfl rfl (by exact wantA rfl) hs rfl ?_
      go_frame
      refine zR ?_
      go_wp2
      go_ret
      exact⟨rfl,HD3.out.trans (hs.mono HD3.out.size)⟩
end
end Go.Proofs.YtmpbepjjbaeebaaGreatDoor
