/- Parts of a proof: RERight, RERightG, Toks, Texts11, Parsed11. -/
import Derived.Deep.CutBlock
import Derived.Test.YteolfamhmfidbaaGreatDoorPackJ9
import Derived.Test.YteolfamhmfidbaaGreatDoorPackJ10
import Derived.Test.YteolfamhmfidbaaGreatDoorPackJ13
import Derived.Test.YteolfamhmfidbaaGreatDoorPackJ20
set_option maxHeartbeats 8000000
set_option maxRecDepth 100000
set_option linter.unusedVariables false
set_option linter.unusedSimpArgs false
namespace Go.Proofs.YteolfamhmfidbaaGreatDoor
section
open Go Go.RowKit
def swB (k:Int) (s:ByteArray):Bool:=if k= 2 then nameB s && !wordB s else if k= 18 then zE s else s.toList.isEmpty
def lnB (k:Int) (ns nk:Nat):Bool:=if k= 17 then((ns:Int) ==(nk:Int)) else((ns:Int) ==0)
theorem zcJ (s:ByteArray):(nameB s && !wordB s)=(!wordB s && zE s):=by
 cases hw:wordB s with
 |true=>simp
 |false=>
  unfold wordB at hw
  simp only[Bool.or_eq_false_iff] at hw
  obtain⟨_,_,h3,h4,_⟩:=hw
  unfold zE
  rw[h3,h4]
  simp
theorem z94 (k : Int) (s : ByteArray) (ns : List ByteArray) (nk : Nat) : zJ k s ns nk = (swB k s && (lnB k ns.length nk && riseF none ns)) := by
  unfold zJ swB lnB
  by_cases h2 : k = 2
  · subst h2
    rw [if_pos rfl, if_pos rfl, if_neg (by decide), zcJ]
    cases ns with
    | nil => simp [riseF]
    | cons a l => have : ((((a :: l).length : Nat) : Int) == 0) = false := by rw [beq_eq_false_iff_ne]; simp; omega
                  rw [this]; simp
  · rw [if_neg h2, if_neg h2]
    by_cases h18 : k = 18
    · subst h18
      rw [if_pos rfl, if_pos rfl, if_neg (by decide)]
      cases ns with
      | nil => simp [riseF]
      | cons a l => have : ((((a :: l).length : Nat) : Int) == 0) = false := by rw [beq_eq_false_iff_ne]; simp; omega
                    rw [this]; simp
    · rw [if_neg h18, if_neg h18]
      by_cases h17 : k = 17
      · rw [if_pos h17, if_pos h17, Bool.and_comm (riseF none ns), Bool.and_assoc]
      · rw [if_neg h17, if_neg h17]
        cases ns with
        | nil => simp [riseF]
        | cons a l => have : ((((a :: l).length : Nat) : Int) == 0) = false := by rw [beq_eq_false_iff_ne]; simp; omega
                      rw [this]; simp
theorem z9h (k:Int) (s:ByteArray) (v:VT) (ns:List ByteArray) (its:List ET) (d:Nat):zK (.mk k s v ns its) d=(decide (d<=12) && kidsB (z0e k) its.length && (valB k v && (swB k s && (lnB k ns.length its.length && (riseF none ns && zP its (d+1)))))):=by
 rw[zK,z94]
 cases decide (d<=12)<;>cases kidsB (z0e k) its.length<;>cases valB k v<;>cases swB k s<;>cases lnB k ns.length its.length<;>simp
mutual
def allC (q:VT->Bool):ET->Bool
 | .mk k _ v _ its=>(k !=1 || q v) && allCL q its
def allCL (q:VT->Bool):List ET->Bool
 |[]=>true
 |a::l=>allC q a && allCL q l
end
theorem z7c {q:VT->Bool}:∀ {l:List ET} {x:ET},allCL q l= true->x∈l->allC q x= true
 |a::l,x,h,hx=>by
  rw[allCL,Bool.and_eq_true] at h
  rcases List.mem_cons.1 hx with rfl|hx
  ·exact h.1
  ·exact z7c h.2 hx
theorem z96 (q:VT->Bool) (HR0:∀ v cs w,q v= true->ValAt w w.heap.size cs v->Calls Tryz.prog 12 #[.agg ⟨cs⟩] w fun e w'=>e= .returned (.bool (zl v))/\Below w.heap.size w w'):∀ (t:ET) (far d:Nat) (cs:List Value) (w:World),far+d= 13->ExpAt w w.heap.size cs t->allC q t= true->
  Calls Tryz.prog 43 #[.agg ⟨cs⟩,.int .i64 far] w fun e w'=>e= .returned (.bool (zK t d))/\Below w.heap.size w w':=by
 intro t
 induction t using ET.ind with
 |h k s v ns its ih=>
  intro far d cs w hfd hv hq
  rw[allC,Bool.and_eq_true] at hq
  have HQ1:=I hq.1
  have HQ2:=I hq.2
  have HR1:=I HR0
  clear hq HR0
  have IH:=I ih
  obtain⟨v0,v1,v2,v3,v4,v5,vn0,vi0,rfl,_,_,hvv,hns,hil,hi⟩:=hv.inv
  obtain⟨_,A,c,rfl,hA⟩:=hi
  obtain⟨hnl,NA,nc,rfl,hN⟩:=id hns
  cases v with
  |mk vk vn vf vs vns vits=>
  obtain⟨u0,u1,hcv,_,_,hvf,_,hvns,_,hvi⟩:=hvv.inv
  obtain⟨_,VA,vc,rfl,_⟩:=hvns
  obtain⟨_,VD,vd,rfl,_⟩:=hvi
  simp only[List.cons.injEq,and_true] at hcv
  obtain⟨rfl,rfl,rfl,rfl,rfl,rfl⟩:=hcv
  have HVF:=I (wf64 hvf)
  have HA:=I hA
  have HN:=I hN
  have HVV:=I hvv
  have HFD:=I hfd
  have HW:=I (zc w (.cells ⟨[.int .i64 k,.string s,.int .i64 vk,.int .i64 vn,.float .f64 vf,.string vs,.slice VA vns.length vc,.slice VD vits.length vd,.slice NA ns.length nc,.slice A its.length c]⟩ 30))
  have HSZ:=I (zw w (.cells ⟨[.int .i64 k,.string s,.int .i64 vk,.int .i64 vn,.float .f64 vf,.string vs,.slice VA vns.length vc,.slice VD vits.length vd,.slice NA ns.length nc,.slice A its.length c]⟩ 30))
  have HRG:=I (zm w [.int .i64 k,.string s,.int .i64 vk,.int .i64 vn,.float .f64 vf,.string vs,.slice VA vns.length vc,.slice VD vits.length vd,.slice NA ns.length nc,.slice A its.length c] 30)
  have HWT:=I (fun w=>zcE k w)
  have HRE:=I (z9h k s (.mk vk vn vf vs vns vits) ns its d)
  generalize zK (.mk k s (.mk vk vn vf vs vns vits) ns its) d= res at*
  have HWR:=z4I k
  obtain⟨zz,hz⟩:∃ z,z0e k= z:=⟨_,rfl⟩
  rw[hz] at HWT HRE HWR
  unfold maxLen at hil
  have hf13:(far:Int)<=13:=by omega
  clear hv ih hA hns hN hvf hvv hz hfd
  have D:∀ j v,([.int .i64 k,.string s,.int .i64 vk,.int .i64 vn,.float .f64 vf,.string vs,.slice VA vns.length vc,.slice VD vits.length vd,.slice NA ns.length nc,.slice A its.length c])[j]?= some v->(w.alloc (.cells ⟨[.int .i64 k,.string s,.int .i64 vk,.int .i64 vn,.float .f64 vf,.string vs,.slice VA vns.length vc,.slice VD vits.length vd,.slice NA ns.length nc,.slice A its.length c]⟩ 30)).cell? ⟨w.heap.size,j,none⟩= some v:=z0l w _ _
  have D0:=I (D 0 _ rfl)
  have D1:=I (D 1 _ rfl)
  have D8:=I (D 8 _ rfl)
  have D9:=I (D 9 _ rfl)
  have HRV:Hid ((w.alloc (.cells ⟨[.int .i64 k,.string s,.int .i64 vk,.int .i64 vn,.float .f64 vf,.string vs,.slice VA vns.length vc,.slice VD vits.length vd,.slice NA ns.length nc,.slice A its.length c]⟩ 30)).rangeAt w.heap.size 2 [.int .i64 vk,.int .i64 vn,.float .f64 vf,.string vs,.slice VA vns.length vc,.slice VD vits.length vd]):=I (by have:=z3l (i:=2) (ds:=[.int .i64 vk,.int .i64 vn,.float .f64 vf,.string vs,.slice VA vns.length vc,.slice VD vits.length vd]) HRG.o (fun j v h=>match j,h with|0,h=>h|1,h=>h|2,h=>h|3,h=>h|4,h=>h|5,h=>h|j+6,h=>by simp at h);simpa using this)
  clear D
  go_enter Tryz.func43,Tryz.ntmps43
  go_upto_region 1 with (fail)
  generalize w.alloc (.cells ⟨[.int .i64 k,.string s,.int .i64 vk,.int .i64 vn,.float .f64 vf,.string vs,.slice VA vns.length vc,.slice VD vits.length vd,.slice NA ns.length nc,.slice A its.length c]⟩ 30)= W at*
  have d0:=D0.o
  have d1:=D1.o
  have d8:=D8.o
  have d9:=D9.o
  go_upto_region 2 with (go_at_call 77;refine(HWT.o _).mono ?_;rintro e z ⟨rfl,h⟩;rw[h];clear h z)
  obtain⟨c1,hc1⟩:∃ c1,(decide (d<=12) && kidsB zz its.length)= c1:=⟨_,rfl⟩
  have HC1:=I hc1
  rw[hc1] at HRE
  clear hc1
  go_cut [27] (fun v z=>v= .bool (!c1)/\z= W)
  case first=>
   by_cases h0:far= 0
   ·subst h0
    have h1:((0:Nat):Int) < 1:=by omega
    have HR:Hid ((!c1)= true):=I (by rw[← HC1.o];have:=HFD.o;simp;omega)
    go_wp2
    go_meet
    case rel=>exact⟨by rw[HR.o],rfl⟩
   ·have h1: ¬ ((far:Int) < 1):=by omega
    have h1b:decide ((far:Int) < 1)= false:=decide_eq_false h1
    have HD:Hid (decide (d<=12)= true):=I (decide_eq_true (by have:=HFD.o;omega))
    by_cases h2:zz= -2
    ·have h2b:(zz == -2)= true:=by simpa using h2
     have HR:Hid ((!c1)= true):=I (by rw[← HC1.o,HD.o];unfold kidsB;rw[h2b];rfl)
     clear h2
     go_wp2
     go_meet
     case rel=>exact⟨by rw[HR.o],rfl⟩
    ·have h2b:(zz == -2)= false:=by simpa using h2
     by_cases h3:0<=zz
     ·have h3b:decide (zz < 0)= false:=decide_eq_false (by omega)
      by_cases h4:(its.length:Int)= zz
      ·have h4b:((its.length:Int) !=zz)= false:=by simpa using h4
       have h4c:((its.length:Int) ==zz)= true:=by simpa using h4
       have HR:Hid ((!c1)= false):=I (by rw[← HC1.o,HD.o];unfold kidsB;rw[h2b,h3b,h4c];rfl)
       clear h4 h4c
       go_wp2
       go_meet
       case rel=>exact⟨by rw[HR.o],rfl⟩
      ·have h4b:((its.length:Int) !=zz)= true:=by simpa using h4
       have h4c:((its.length:Int) ==zz)= false:=by simpa using h4
       have HR:Hid ((!c1)= true):=I (by rw[← HC1.o,HD.o];unfold kidsB;rw[h2b,h3b,h4c];rfl)
       clear h4 h4c
       go_wp2
       go_meet
       case rel=>exact⟨by rw[HR.o],rfl⟩
     ·have h3b:decide (zz < 0)= true:=decide_eq_true (by omega)
      have HR:Hid ((!c1)= false):=I (by rw[← HC1.o,HD.o];unfold kidsB;rw[h2b,h3b];rfl)
      go_wp2
      go_meet
      case rel=>exact⟨by rw[HR.o],rfl⟩
  case rest=>
  obtain⟨rfl,rfl⟩:=hcut
  cases c1 with
  |false=>
   have HR:Hid (res= false):=I (HRE.o.trans (Bool.false_and _))
   go_wp2
   go_ret
   exact⟨z6 HR.o.symm,HW.o⟩
  |true=>
  rw[Bool.true_and] at HRE
  have HF0:Hid (1<=far):=I (by have:=HC1.o;rw[Bool.and_eq_true] at this;have h2:=of_decide_eq_true this.1;have:=HFD.o;omega)
  clear HC1
  go_upto_region 4 with (fail)
  obtain⟨c2,hc2⟩:∃ c2,valB k (.mk vk vn vf vs vns vits)= c2:=⟨_,rfl⟩
  have HC2:=I hc2
  rw[hc2] at HRE
  clear hc2
  have HVW:=I ((HVV.o.under HW.o).more HW.o.size)
  go_cut [47] (fun v z=>v= .bool (!c2)/\Below wc.heap.size wc z)
  case first=>
   by_cases hk1:k= 1
   ·subst hk1
    have HCC:=I (zaS (.mk vk vn vf vs vns vits) [.int .i64 vk,.int .i64 vn,.float .f64 vf,.string vs,.slice VA vns.length vc,.slice VD vits.length vd] wc HVW.o (fun z hz=>HR1.o _ _ z (by have h:=HQ1.o;simpa using h) hz))
    rw[show zL (.mk vk vn vf vs vns vits)= c2 from by have:=HC2.o;unfold valB at this;rw[if_pos rfl] at this;exact this] at HCC
    cases c2 with
    |true=>
     go_wp2_with (first|((with_reducible refine z7 27 _ rfl ?_ w.heap.size 2 [.int .i64 vk,.int .i64 vn,.float .f64 vf,.string vs,.slice VA vns.length vc,.slice VD vits.length vd] _ rfl HRV.o Tryz.underlying27 rfl ?_ ?_);(exact wA rfl);kernel_rfl)|(go_at_call 78;refine HCC.o.mono ?_;rintro e w2 ⟨rfl,hb⟩;have HB2:=I hb;have y0:=(hb.cell (p:=⟨w.heap.size,0,none⟩) HSZ.o).trans D0.o;clear hb))
     go_meet
     case rel=>exact⟨rfl,HB2.o⟩
    |false=>
     go_wp2_with (first|((with_reducible refine z7 27 _ rfl ?_ w.heap.size 2 [.int .i64 vk,.int .i64 vn,.float .f64 vf,.string vs,.slice VA vns.length vc,.slice VD vits.length vd] _ rfl HRV.o Tryz.underlying27 rfl ?_ ?_);(exact wA rfl);kernel_rfl)|(go_at_call 78;refine HCC.o.mono ?_;rintro e w2 ⟨rfl,hb⟩;have HB2:=I hb;have y0:=(hb.cell (p:=⟨w.heap.size,0,none⟩) HSZ.o).trans D0.o;clear hb))
     go_meet
     case rel=>exact⟨rfl,HB2.o⟩
   ·have hk1a:(k ==1)= false:=by simpa using hk1
    have hk1b:(k !=1)= true:=by simpa using hk1
    have HCC:=I (zex vk vn vf vs VA VD vns.length vits.length vc vd wc HVF.o)
    rw[show noneB vk vn vf vs vns.length vits.length= c2 from by have:=HC2.o;unfold valB at this;rw[if_neg hk1] at this;exact this] at HCC
    cases c2 with
    |true=>
     go_wp2_with (first|((with_reducible refine z7 27 _ rfl ?_ w.heap.size 2 [.int .i64 vk,.int .i64 vn,.float .f64 vf,.string vs,.slice VA vns.length vc,.slice VD vits.length vd] _ rfl HRV.o Tryz.underlying27 rfl ?_ ?_);(exact wA rfl);kernel_rfl)|(go_at_call 79;refine HCC.o.mono ?_;rintro e w2 ⟨rfl,hb⟩;have HB2:=I hb;clear hb))
     go_meet
     case rel=>exact⟨rfl,HB2.o⟩
    |false=>
     go_wp2_with (first|((with_reducible refine z7 27 _ rfl ?_ w.heap.size 2 [.int .i64 vk,.int .i64 vn,.float .f64 vf,.string vs,.slice VA vns.length vc,.slice VD vits.length vd] _ rfl HRV.o Tryz.underlying27 rfl ?_ ?_);(exact wA rfl);kernel_rfl)|(go_at_call 79;refine HCC.o.mono ?_;rintro e w2 ⟨rfl,hb⟩;have HB2:=I hb;clear hb))
     go_meet
     case rel=>exact⟨rfl,HB2.o⟩
  case rest=>
  obtain⟨rfl,hbc⟩:=hcut
  have HB2:=I (HW.o.trans (hbc.mono HW.o.size))
  have HS2:=I (Nat.lt_of_lt_of_le HSZ.o hbc.size)
  have E0:=I ((hbc.cell (p:=⟨w.heap.size,0,none⟩) HSZ.o).trans D0.o)
  have E1:=I ((hbc.cell (p:=⟨w.heap.size,1,none⟩) HSZ.o).trans D1.o)
  have E8:=I ((hbc.cell (p:=⟨w.heap.size,8,none⟩) HSZ.o).trans D8.o)
  have E9:=I ((hbc.cell (p:=⟨w.heap.size,9,none⟩) HSZ.o).trans D9.o)
  clear hbc d0 d1 d8 d9 D0 D1 D8 D9 HC2 HVW HRG HRV HSZ HVV
  cases c2 with
  |false=>
   have HR:Hid (res= false):=I (HRE.o.trans (Bool.false_and _))
   go_wp2
   go_ret
   exact⟨z6 HR.o.symm,HB2.o⟩
  |true=>
  rw[Bool.true_and] at HRE
  have e0:=E0.o
  have e1:=E1.o
  have e8:=E8.o
  have e9:=E9.o
  obtain⟨c3,hc3⟩:∃ c3,swB k s= c3:=⟨_,rfl⟩
  have HC3:=I hc3
  rw[hc3] at HRE
  clear hc3
  have HNA:=I (fun z=>z4e s z)
  have HWO:=I (fun z=>zbj s z)
  have HFI:=I (fun z=>z5U s z)
  go_upto_block 0 with (fail)
  go_cut [4] (fun v z=>v= .bool false/\c3= true/\z= wc)
  case first=>
   by_cases k2:k= 2
   ·subst k2
    have HS:Hid ((nameB s && !wordB s)= c3):=I (by have:=HC3.o;unfold swB at this;rw[if_pos rfl] at this;exact this)
    cases hn:nameB s with
    |false=>
     have HR:Hid (res= false):=I (HRE.o.trans (by rw[← HS.o,hn];rfl))
     rw[hn] at HNA
     clear hn
     go_wp2_with (go_at_call 80;refine(HNA.o _).mono ?_;rintro e z ⟨rfl,h⟩;rw[h];clear h z)
     go_ret
     exact⟨z6 HR.o.symm,HB2.o⟩
    |true=>
     rw[hn] at HNA HS
     clear hn
     cases hw:wordB s with
     |true=>
      have HR:Hid (res= false):=I (HRE.o.trans (by rw[← HS.o,hw];rfl))
      rw[hw] at HWO
      clear hw
      go_wp2_with (first|(go_at_call 80;refine(HNA.o _).mono ?_;rintro e z ⟨rfl,h⟩;rw[h];clear h z)|(go_at_call 81;refine(HWO.o _).mono ?_;rintro e z ⟨rfl,h⟩;rw[h];clear h z))
      go_ret
      exact⟨z6 HR.o.symm,HB2.o⟩
     |false=>
      have HR:Hid (c3= true):=I (by rw[← HS.o,hw];rfl)
      rw[hw] at HWO
      clear hw
      go_wp2_with (first|(go_at_call 80;refine(HNA.o _).mono ?_;rintro e z ⟨rfl,h⟩;rw[h];clear h z)|(go_at_call 81;refine(HWO.o _).mono ?_;rintro e z ⟨rfl,h⟩;rw[h];clear h z))
      go_meet
      case rel=>exact⟨rfl,HR.o,rfl⟩
   ·have k2b:(k ==2)= false:=by simpa using k2
    by_cases k18:k= 18
    ·subst k18
     have HS:Hid (zE s= c3):=I (by have:=HC3.o;unfold swB at this;rw[if_neg k2,if_pos rfl] at this;exact this)
     clear k2
     cases hn:zE s with
     |false=>
      have HR:Hid (res= false):=I (HRE.o.trans (by rw[← HS.o,hn];rfl))
      rw[hn] at HS
      have HF1:Hid (∀ z,Calls Tryz.prog 82 #[.string s] z fun e w'=>e= .returned (.bool false)/\w'= z):=I (by intro z;have:=HFI.o z;rw[hn] at this;exact this)
      clear hn
      go_wp2_with (go_at_call 82;refine(HF1.o _).mono ?_;rintro e z ⟨rfl,h⟩;rw[h];clear h z)
      go_ret
      exact⟨z6 HR.o.symm,HB2.o⟩
     |true=>
      have HR:Hid (c3= true):=I (by rw[← HS.o,hn])
      have HF1:Hid (∀ z,Calls Tryz.prog 82 #[.string s] z fun e w'=>e= .returned (.bool true)/\w'= z):=I (by intro z;have:=HFI.o z;rw[hn] at this;exact this)
      clear hn
      go_wp2_with (go_at_call 82;refine(HF1.o _).mono ?_;rintro e z ⟨rfl,h⟩;rw[h];clear h z)
      go_meet
      case rel=>exact⟨rfl,HR.o,rfl⟩
    ·have k18b:(k ==18)= false:=by simpa using k18
     have HS:Hid (s.toList.isEmpty= c3):=I (by have:=HC3.o;unfold swB at this;rw[if_neg k2,if_neg k18] at this;exact this)
     clear k2 k18
     cases c3 with
     |false=>
      have hs1:=HS.o
      have HR:Hid (res= false):=I (HRE.o.trans (Bool.false_and _))
      go_wp2
      go_ret
      exact⟨z6 HR.o.symm,HB2.o⟩
     |true=>
      have hs1:=HS.o
      go_wp2
      go_meet
      case rel=>exact⟨rfl,trivial,rfl⟩
  case rest=>
  obtain⟨rfl,hc3,rfl⟩:=hcut
  rw[hc3,Bool.true_and] at HRE
  clear hc3 HC3 HNA HWO
  go_upto_region 15 with (fail)
  obtain⟨c4,hc4⟩:∃ c4,lnB k ns.length its.length= c4:=⟨_,rfl⟩
  have HC4:=I hc4
  rw[hc4] at HRE
  clear hc4 e1
  go_cut [92] (fun v z=>v= .bool (!c4)/\z= wc)
  case first=>
   by_cases k17:k= 17
   ·subst k17
    have HS:Hid (((ns.length:Int) ==(its.length:Int))= c4):=I (by have:=HC4.o;unfold lnB at this;rw[if_pos rfl] at this;exact this)
    cases c4 with
    |true=>
     have h1:((ns.length:Int) !=(its.length:Int))= false:=by have:=HS.o;simp at this;simpa using this
     go_wp2
     go_meet
     case rel=>exact⟨rfl,rfl⟩
    |false=>
     have h1:((ns.length:Int) !=(its.length:Int))= true:=by have:=HS.o;simp at this;simpa using this
     go_wp2
     go_meet
     case rel=>exact⟨rfl,rfl⟩
   ·have k17b:(k !=17)= true:=by simpa using k17
    have k17c:(k ==17)= false:=by simpa using k17
    have HS:Hid (((ns.length:Int) ==0)= c4):=I (by have:=HC4.o;unfold lnB at this;rw[if_neg k17] at this;exact this)
    clear k17
    have HC5:Hid (ns.length= 0->c4= true):=I (fun h=>by rw[← HS.o,h];rfl)
    have HC6:Hid (0 < ns.length->c4= false):=I (fun h=>by rw[← HS.o,beq_eq_false_iff_ne];omega)
    clear HS
    cases ns with
    |nil=>
     have HC7:=I (HC5.o rfl)
     go_wp2
     go_meet
     case rel=>exact⟨by rw[HC7.o];rfl,rfl⟩
    |cons na nl=>
     have HC7:=I (HC6.o (by simp))
     go_wp2
     go_meet
     case rel=>exact⟨by rw[HC7.o];rfl,rfl⟩
  case rest=>
  obtain⟨rfl,rfl⟩:=hcut
  clear HC4
  cases c4 with
  |false=>
   have HR:Hid (res= false):=I (HRE.o.trans (Bool.false_and _))
   go_wp2
   go_ret
   exact⟨z6 HR.o.symm,HB2.o⟩
  |true=>
  rw[Bool.true_and] at HRE
  obtain⟨rr,hrr⟩:∃ rr,riseF none ns= rr:=⟨_,rfl⟩
  have H0:Hid (riseF (prevK ns 0) (ns.drop 0)= rr):=I hrr
  rw[hrr] at HRE
  have H1:=I (fun s=>z4E (l:=ns) (s:=s))
  have H2:=I (fun k p s=>z5N (l:=ns) (k:=k) (p:=p) (s:=s))
  have HE:=I (z7t (l:=ns))
  clear hrr e0 e8 e9
  go_upto_region 18 with (fail)
  have HKEEP:Hid (∀ z,Below w.heap.size w z->True):=I fun _ _=>trivial
  clear HKEEP
  go_loopg [6] ns.length (fun q x u=>∃ k:Nat,k+q= ns.length/\x= .int .i64 k/\Below wc.heap.size wc u/\riseF (prevK ns k) (ns.drop k)= rr)
  case atStart=>exact⟨0,by omega,rfl,Below.refl _ _,H0.o⟩
  case round=>
   obtain⟨k1,hk1,rfl,hb,hres⟩:=hrel
   have HR:=I hres
   have HBC:=I hb
   have HBK:=I (HB2.o.trans (hb.mono HB2.o.size))
   have x8:=(hb.cell (p:=⟨w.heap.size,8,none⟩) HS2.o).trans E8.o
   have x9:=(hb.cell (p:=⟨w.heap.size,9,none⟩) HS2.o).trans E9.o
   clear hres hb
   cases gk with
   |zero=>
    obtain rfl:k1= ns.length:=by omega
    have hge: ¬ ((ns.length:Int) <(ns.length:Int)):=by omega
    have HV:=I (HR.o.symm.trans HE.o)
    have HRR:Hid (res= zP its (d+1)):=I (by rw[HRE.o,HV.o];exact Bool.true_and _)
    clear HR
    go_upto_region 23 with (fail)
    clear x8 x9
    go_loopg [7] its.length (fun q x u=>∃ j:Nat,j+q= its.length/\x= .int .i64 j/\Below wc.heap.size wc u/\zP (its.drop j) (d+1)= res)
    case atStart=>exact⟨0,by omega,rfl,HBC.o,HRR.o.symm⟩
    case round=>
     obtain⟨j,hj,rfl,hbu,hres⟩:=hrel
     have HBE:=I hbu
     have HBU:=I (HB2.o.trans (hbu.mono HB2.o.size))
     have HR:=I hres
     have u9:=(hbu.cell (p:=⟨w.heap.size,9,none⟩) HS2.o).trans E9.o
     clear hbu hres
     cases gk with
     |zero=>
      obtain rfl:j= its.length:=by omega
      have hge: ¬ ((its.length:Int) <(its.length:Int)):=by omega
      have HV:=I (HR.o.symm.trans z12)
      go_wp2
      go_ret
      exact⟨z6 HV.o.symm,HBU.o⟩
     |succ q=>
      have hlt:(j:Int) <(its.length:Int):=by omega
      obtain⟨y,hy⟩:∃ y,its[j]?= some y:=⟨_,List.getElem?_eq_getElem (by omega)⟩
      obtain⟨b,ob,rfl,hbl,hc⟩:=HA.o (by omega)
      obtain⟨ks,hkl,hks,hvx⟩:=hc j y hy
      have HV:=I (HR.o.symm.trans (z0S hy))
      have HKL:=I hkl
      have HKS:=I (za hks HBU.o hbl)
      have HC:=I (IH.o y (List.mem_of_getElem? hy) (far - 1) (d+1) ks wr (by have:=HFD.o;have:=HF0.o;omega) ((hvx.under HBU.o).more HBU.o.size) (z7c HQ2.o (List.mem_of_getElem? hy)))
      have hd1:((far - 1:Nat):Int)=(far:Int) - 1:=by have:=HF0.o;omega
      rw[hd1] at HC
      clear hc hks hvx hy HR hkl hbl hd1
      cases hrc:zK y (d+1) with
      |false=>
       have HV2:Hid (res= false):=I (HV.o.trans (by rw[hrc];exact Bool.false_and _))
       rw[hrc] at HC
       clear hrc
       go_wp2_with (first|((with_reducible refine z7 30 _ rfl ?_ b (ob+j*10) ks _ rfl HKS.o Tryz.underlying30 rfl ?_ ?_);(exact wA rfl);rw[HKL.o];kernel_rfl)|(go_at_call 43;refine HC.o.mono ?_;rintro e w4 ⟨rfl,hb⟩;have HB4:=I hb;clear hb))
       go_ret
       exact⟨z6 HV2.o.symm,HBU.o.trans (HB4.o.mono HBU.o.size)⟩
      |true=>
       have HV2:=I (HV.o.trans (by rw[hrc,Bool.true_and]))
       rw[hrc] at HC
       clear hrc
       go_wp2_with (first|((with_reducible refine z7 30 _ rfl ?_ b (ob+j*10) ks _ rfl HKS.o Tryz.underlying30 rfl ?_ ?_);(exact wA rfl);rw[HKL.o];kernel_rfl)|(go_at_call 43;refine HC.o.mono ?_;rintro e w4 ⟨rfl,hb⟩;have HB4:=I hb;clear hb))
       go_roundg q
       case measure=>omega
       case rel=>exact⟨j+1,by omega,by go_num,HBE.o.trans (HB4.o.mono HBE.o.size),HV2.o.symm⟩
   |succ q=>
    have hlt:(k1:Int) <(ns.length:Int):=by omega
    obtain⟨sk,hsk⟩:∃ s,ns[k1]?= some s:=⟨_,List.getElem?_eq_getElem (by omega)⟩
    obtain⟨b,o,rfl,hbl,hc⟩:=HN.o (by omega)
    have HBL:=I hbl
    have HCC:Hid (∀ (i:Nat) x,ns[i]?= some x->w.cell? ⟨b,o+i,none⟩= some (.string x)):=I (fun i x hx=>by
     obtain⟨cs,_,hr,he⟩:=hc i x hx
     have:=hr 0 (.string x) (by rw[he.1];rfl)
     simpa using this)
    have ds:=(HBK.o.cell (p:=⟨b,o+k1,none⟩) hbl).trans (HCC.o k1 sk hsk)
    have HF2:=I (z5U sk)
    have HSK:=I hsk
    clear hc hbl hsk
    rcases Nat.eq_zero_or_pos k1 with hk0|hk0
    ·subst hk0
     have ds0:wr.cell? ⟨b,o,none⟩= some (.string sk):=ds
     have hlt0:(0:Int) <(ns.length:Int):=by omega
     have HV:=I (HR.o.symm.trans (H1.o sk HSK.o))
     clear HR
     generalize zE sk= nb at*
     cases nb with
     |false=>
      have HV2:Hid (res= false):=I (by rw[HRE.o,HV.o,Bool.false_and,Bool.false_and])
      clear HV
      go_wp2
      go_quiet ((go_at_call 82;exact Calls.quiet_of_same ((HF2.o _).mono fun e w' h=>⟨h.1,h.2⟩)))
      go_wp2
      go_ret
      exact⟨z6 HV2.o.symm,zr HBK.o _⟩
     |true=>
      have HV2:=I (HV.o.trans (Bool.true_and _))
      clear HV
      go_wp2
      go_quiet ((go_at_call 82;exact Calls.quiet_of_same ((HF2.o _).mono fun e w' h=>⟨h.1,h.2⟩)))
      go_wp2
      go_roundg q
      case measure=>omega
      case rel=>exact⟨1,by omega,by go_num,zr HBC.o _,HV2.o.symm⟩
    ·obtain⟨j,rfl⟩:∃ j,k1= j+1:=⟨k1 - 1,by omega⟩
     obtain⟨p,hp⟩:∃ p,ns[j]?= some p:=⟨_,List.getElem?_eq_getElem (by omega)⟩
     have HV:=I (HR.o.symm.trans (H2.o j p sk hp HSK.o))
     have dp:=(HBK.o.cell (p:=⟨b,o+j,none⟩) HBL.o).trans (HCC.o j p hp)
     have hpos:(0:Int) <((j+1:Nat):Int):=by omega
     have hj2:(j:Int) <(ns.length:Int):=by omega
     clear HR hp
     generalize zE sk= nb at*
     cases nb with
     |false=>
      have HV2:Hid (res= false):=I (by rw[HRE.o,HV.o,Bool.false_and,Bool.false_and])
      clear HV
      go_wp2
      go_quiet ((go_at_call 82;exact Calls.quiet_of_same ((HF2.o _).mono fun e w' h=>⟨h.1,h.2⟩)))
      go_wp2
      go_ret
      exact⟨z6 HV2.o.symm,zr HBK.o _⟩
     |true=>
      have HV2:=I (HV.o.trans (Bool.true_and _))
      clear HV
      cases hlt3:Op.bytesLess p.toList sk.toList with
      |false=>
       have HV3:Hid (res= false):=I (by rw[HRE.o,HV2.o,hlt3,Bool.false_and,Bool.false_and])
       go_wp2
       go_quiet ((go_at_call 82;exact Calls.quiet_of_same ((HF2.o _).mono fun e w' h=>⟨h.1,h.2⟩)))
       go_wp2
       go_ret
       exact⟨z6 HV3.o.symm,zr HBK.o _⟩
      |true=>
       have HV3:=I (HV2.o.trans (by rw[hlt3,Bool.true_and]))
       go_wp2
       go_quiet ((go_at_call 82;exact Calls.quiet_of_same ((HF2.o _).mono fun e w' h=>⟨h.1,h.2⟩)))
       go_wp2
       go_roundg q
       case measure=>omega
       case rel=>exact⟨j+2,by omega,by go_num,zr HBC.o _,HV3.o.symm⟩
theorem z9C (q:VT->Bool) (HR0:∀ v cs w,q v= true->ValAt w w.heap.size cs v->Calls Tryz.prog 12 #[.agg ⟨cs⟩] w fun e w'=>e= .returned (.bool (zl v))/\Below w.heap.size w w') (t:ET) (cs:List Value) (w:World) (hv:ExpAt w w.heap.size cs t) (hq:allC q t= true):Calls Tryz.prog 19 #[.agg ⟨cs⟩] w fun e w'=>e= .returned (.bool (zB t))/\Below w.heap.size w w':=by
 have HCL:=I (eslen hv)
 have HB:=I (zc w (.cells ⟨cs⟩ 30))
 have HR:=I (zm w cs 30)
 have HV:=I ((hv.under HB.o).more HB.o.size)
 have HS:=I (zw w (.cells ⟨cs⟩ 30))
 clear hv
 go_enter Tryz.func19,Tryz.ntmps19
 go_upto_region 1 with (fail)
 generalize w.alloc (.cells ⟨cs⟩ 30)= W at*
 have HC:=I (z4Q t cs W HV.o)
 by_cases h:cntE t 0<=200
 ·have h2:(cntE t 0:Int)<=200:=by omega
  have HT:Hid (zB t= zK t 1):=I (by unfold zB;rw[decide_eq_true h,Bool.true_and])
  clear h
  go_wp2_with (first|((with_reducible refine z7 30 _ rfl ?_ w.heap.size 0 cs _ rfl HR.o Tryz.underlying30 rfl ?_ ?_);(exact wA rfl);rw[HCL.o];kernel_rfl)|(go_at_call 26;refine HC.o.mono ?_;rintro e z ⟨rfl,hb⟩;have HB2:=I hb;have HR2:=I (za HR.o hb HS.o);clear hb)|((with_reducible refine z7 30 _ rfl ?_ w.heap.size 0 cs _ rfl HR2.o Tryz.underlying30 rfl ?_ ?_);(exact wA rfl);rw[HCL.o];kernel_rfl)|(go_at_call 43;refine(z96 q HR0 t 12 1 cs z (by decide) ((HV.o.under HB2.o).more HB2.o.size) hq).mono ?_;rintro e z2 ⟨rfl,hb⟩;have HB3:=I hb;clear hb))
  go_ret
  exact⟨z6 HT.o.symm,(HB.o.trans (HB2.o.mono HB.o.size)).trans (HB3.o.mono (Nat.le_trans HB.o.size HB2.o.size))⟩
 ·have h2: ¬ (cntE t 0:Int)<=200:=by omega
  have HT:Hid (zB t= false):=I (by unfold zB;rw[decide_eq_false h];rfl)
  clear h
  go_wp2_with (first|((with_reducible refine z7 30 _ rfl ?_ w.heap.size 0 cs _ rfl HR.o Tryz.underlying30 rfl ?_ ?_);(exact wA rfl);rw[HCL.o];kernel_rfl)|(go_at_call 26;refine HC.o.mono ?_;rintro e z ⟨rfl,hb⟩;have HB2:=I hb;clear hb))
  go_ret
  exact⟨z6 HT.o.symm,HB.o.trans (HB2.o.mono HB.o.size)⟩
end
section
open Go Go.RowKit
theorem zc4:∀ (t:ET),allC (fun _=>true) t= true:=by
 intro t
 induction t using ET.ind with
 |h k s v ns its ih=>
  rw[allC,Bool.or_true,Bool.true_and]
  clear k s v ns
  induction its with
  |nil=>rw[allCL]
  |cons a l ihl=>
   rw[allCL,ih a (by simp),ihl fun x hx=>ih x (by simp[hx])]
   rfl
theorem z9N (t:ET) (cs:List Value) (w:World) (hv:ExpAt w w.heap.size cs t):Calls Tryz.prog 19 #[.agg ⟨cs⟩] w fun e w'=>e= .returned (.bool (zB t))/\Below w.heap.size w w':=
 z9C (fun _=>true) (fun v cs w _ hv=>z5V v cs w hv) t cs w hv (zc4 t)
end
section
open Go Go.RowKit
theorem zbH {a b:ByteArray} (h:a.data.toList= b.data.toList):a= b:=by
 obtain⟨⟨a⟩⟩:=a
 obtain⟨⟨b⟩⟩:=b
 have:a= b:=h
 rw[this]
def chrB (P:UInt8->Bool) (L:List UInt8) (i e:Nat):Bool:=(List.range (e - i)).all fun k=>(L[i+k]?.map P).getD false
theorem z2d {P:UInt8->Bool} {L:List UInt8} {i e:Nat} (h:chrB P L i e= true):z0h P L i e:=by
 intro k h1 h2
 unfold chrB at h
 rw[List.all_eq_true] at h
 have h3:=h (k - i) (by rw[List.mem_range];omega)
 rw[show i+ (k - i)= k by omega] at h3
 cases hc:L[k]? with
 |none=>rw[hc] at h3;cases h3
 |some c=>rw[hc] at h3;exact⟨c,rfl,by simpa using h3⟩
def stopB (P:UInt8->Bool) (L:List UInt8) (e:Nat):Bool:=(L[e]?.map fun c=> !P c).getD true
theorem z86 {P:UInt8->Bool} {L:List UInt8} {e:Nat} (h:stopB P L e= true):z1t P L e:=by
 intro c hc
 unfold stopB at h
 rw[hc] at h
 simpa using h
def isC (P:UInt8->Bool) (L:List UInt8) (i:Nat):Bool:=(L[i]?.map P).getD false
theorem z8x {P:UInt8->Bool} {L:List UInt8} {i:Nat} (h:isC P L i= true):∃ c,L[i]?= some c/\P c= true:=by
 unfold isC at h
 cases hc:L[i]? with
 |none=>rw[hc] at h;cases h
 |some c=>rw[hc] at h;exact⟨c,rfl,by simpa using h⟩
def numB (s:ByteArray) (p i e v:Nat):Bool:=decide (p<=i) && (decide (i < e) && (decide (e<=i+18) && (decide (e<=s.size) && (decide ((s.size:Int)<=2000) && (chrB z0g s.data.toList p i && (isC (fun c=> !z0g c && zQ c) s.data.toList i && (chrB zQ s.data.toList i e &&
 (stopB (fun c=>zQ c ||(c.toNat:Int) ==112) s.data.toList e && (dvalN s.data.toList i (e - i) ==v)))))))))
theorem z6y (s:ByteArray) (p i e v:Nat) (h:numB s p i e v= true):NextC s p i ⟨2,i,e,(v:Nat),0,⟨#[]⟩⟩:=by
 unfold numB at h
 simp only[Bool.and_eq_true,decide_eq_true_eq,beq_iff_eq] at h
 obtain⟨h1,h2,h3,h4,h5,h6,h7,h8,h9,h10⟩:=h
 obtain⟨c,hc,hc2⟩:=z8x h7
 rw[Bool.and_eq_true] at hc2
 refine zdF s p i c _ h1 (by omega) h5 (z2d h6) hc (by simpa using hc2.1) hc2.2 fun w=> ?_
 have:=zbs s i e h2 h3 h4 h5 (z2d h8) (z86 h9) w
 rw[h10] at this
 exact this
def zbI (s nm:ByteArray) (p i e:Nat):Bool:=decide (p<=i) && (decide (i < e) && (decide (e<=s.size) && (decide ((s.size:Int)<=2000) && (chrB z0g s.data.toList p i && (isC (fun c=> !z0g c && (!zQ c && z13 c)) s.data.toList i && (chrB lxidC s.data.toList i e &&
 (stopB lxidC s.data.toList e && (((s.extract i e).data.toList ==nm.data.toList) && (decide ((nm.size:Int)<=30) && (!(nm.toList ==[110,97,110]) && !(nm.toList ==[105,110,102])))))))))))
theorem z19 (s nm:ByteArray) (p i e:Nat) (h:zbI s nm p i e= true):NextC s p i ⟨5,i,e,0,0,nm⟩:=by
 unfold zbI at h
 simp only[Bool.and_eq_true,decide_eq_true_eq,beq_iff_eq,Bool.not_eq_true'] at h
 obtain⟨h1,h2,h4,h5,h6,h7,h8,h9,h10,h11,h12,h13⟩:=h
 obtain⟨c,hc,hc2⟩:=z8x h7
 simp only[Bool.and_eq_true,Bool.not_eq_true'] at hc2
 exact zbw s p i c _ h1 (by omega) h5 (z2d h6) hc hc2.1 hc2.2.1 hc2.2.2 fun w=>zaM s nm i e h2 h4 h5 (z2d h8) (z86 h9) (zbH h10) h11 h12 h13 w
def signB (s one:ByteArray) (p i j:Nat):Bool:=decide (p<=i) && (decide (i < s.size) && (decide ((s.size:Int)<=2000) && (chrB z0g s.data.toList p i && (isC (fun c=> !z0g c && (!zQ c && (!z13 c && !((c.toNat:Int) ==34)))) s.data.toList i && (((s.extract i (i+1)).data.toList ==one.data.toList) &&
 (!((s.extract i (min (i+2) s.size)).toList ==[61,61]) && (!((s.extract i (min (i+2) s.size)).toList ==[60,61]) && (!((s.extract i (min (i+2) s.size)).toList ==[38,38]) && (!((s.extract i (min (i+2) s.size)).toList ==[124,124]) &&
 (decide (j < 17) && ((List.range j).all (fun k=> !((pk k).toList ==one.toList)) && ((pk j).toList ==one.toList))))))))))))
theorem z3b (s one:ByteArray) (p i j:Nat) (h:signB s one p i j= true):NextC s p i ⟨6,i,(i:Int)+1,0,0,one⟩:=by
 unfold signB at h
 simp only[Bool.and_eq_true,decide_eq_true_eq,beq_iff_eq,Bool.not_eq_true',List.all_eq_true,List.mem_range] at h
 obtain⟨h1,h2,h5,h6,h7,h8,n1,n2,n3,n4,hj,hno,hyes⟩:=h
 obtain⟨c,hc,hc2⟩:=z8x h7
 simp only[Bool.and_eq_true,Bool.not_eq_true'] at hc2
 exact zba s p i c _ h1 h2 h5 (z2d h6) hc hc2.1 hc2.2.1 hc2.2.2.1 hc2.2.2.2 fun w=>zc9 s one _ i j h2 h5 (zbH h8) rfl n1 n2 n3 n4 hj (fun k hk=>hno k hk) (beq_iff_eq.2 hyes) w
theorem z2m (s:ByteArray) (p:Nat) (h:(decide (p<=s.size) && (decide ((s.size:Int)<=2000) && chrB z0g s.data.toList p s.size))= true):LexRun s p []:=by
 simp only[Bool.and_eq_true,decide_eq_true_eq] at h
 exact .stop p s.size _ (zeo s p h.1 h.2.1 (z2d h.2.2)) rfl
section
variable {pb tb c:Nat} {E:Int} {toks:List Tok} {i j h:Nat} {x:ET}
def z2t (toks:List Tok) (i:Nat) (l:List (List UInt8)):Bool:=l.all fun s=> !isB toks i ⟨s.toArray⟩
theorem zR {l:List (List UInt8)} (h:z2t toks i l= true) {s:List UInt8} (hs:s∈l):isB toks i ⟨s.toArray⟩= false:=by
 unfold z2t at h
 rw[List.all_eq_true] at h
 simpa using h s hs
theorem z0J (hp:PCon pb tb c E toks 248 i j h x) (h1:z2t toks i [[45],[33]]= true) (h2:z2t toks j [[46],[91],[42],[47],[37]]= true):PCon pb tb c E toks 235 i j (h+1) x:=
 zfM (zeC (zfj hp (.done x j (zR h2 (by simp)) (zR h2 (by simp)))) (zR h1 (by simp)) (zR h1 (by simp))) (.done x j fun s hs=>by
  simp only[List.mem_cons,List.not_mem_nil,or_false] at hs
  rcases hs with rfl|rfl|rfl
  ·exact zR h2 (by simp)
  ·exact zR h2 (by simp)
  ·exact zR h2 (by simp))
theorem z30 (hp:PCon pb tb c E toks 221 i j h x) (h2:z2t toks j [[61,61],[60,61],[60],[38,38],[124,124],[63]]= true):PCon pb tb c E toks 85 i j (h+1) x:=
 zfu (pc_or (zgv (zgg hp (zR h2 (by simp)) (zR h2 (by simp)) (zR h2 (by simp))) (.done x j fun s hs=>by
  simp only[List.mem_cons,List.not_mem_nil,or_false] at hs
  subst hs
  exact zR h2 (by simp))) (.done x j fun s hs=>by
  simp only[List.mem_cons,List.not_mem_nil,or_false] at hs
  subst hs
  exact zR h2 (by simp))) (zR h2 (by simp))
theorem z8A (hp:PCon pb tb c E toks 235 i j h x) (h2:z2t toks j [[43],[45]]= true):PCon pb tb c E toks 221 i j h x:=
 z5p hp (.done x j fun s hs=>by
  simp only[List.mem_cons,List.not_mem_nil,or_false] at hs
  rcases hs with rfl|rfl
  ·exact zR h2 (by simp)
  ·exact zR h2 (by simp))
theorem z4r {y z:ET} {k:Nat} (h1:isB toks i ⟨#[43]⟩= true) (hy:PCon pb tb c E toks 235 (i+1) j h y) (hij:i < j) (hl:PL 235 [(⟨#[43]⟩,5),(⟨#[45]⟩,6)] h pb tb c E toks (twoE 5 x y) j z k):PL 235 [(⟨#[43]⟩,5),(⟨#[45]⟩,6)] h pb tb c E toks x i z k:=
 .step x i y j z k (⟨#[43]⟩,5) (by simp) h1 hy hij hl
theorem z7W (h2:z2t toks i [[43],[45]]= true):PL 235 [(⟨#[43]⟩,5),(⟨#[45]⟩,6)] h pb tb c E toks x i x i:=
 .done x i fun s hs=>by
  simp only[List.mem_cons,List.not_mem_nil,or_false] at hs
  rcases hs with rfl|rfl
  ·exact zR h2 (by simp)
  ·exact zR h2 (by simp)
end
theorem z1d (s:ByteArray) (toks:List Tok) (t:ET) (h:Nat) (hsz:(s.size:Int)<=2000) (hlex:LexRun s 0 toks) (hlen:toks.length<=2000) (hne:0 < toks.length)
  (hp:∀ pb tb c,PCon pb tb c (s.size:Int) toks 85 0 toks.length h t) (hh:h<=100) (hr:zB t= true) (w:World) (hq:allC leafV t= true:=by decide +kernel):
  Calls Tryz.prog 49 #[.string s] w fun e w'=>∃ cs,e= .returned (.tuple #[.agg ⟨cs⟩,.int .i64 0,.int .i64 0])/\KeptP (fun b=>w.heap.size<=b) w' cs t/\Below w.heap.size w w':=
 zeQ s toks t h hsz hlex hlen hne hp hh (fun cs w hv=>by have:=z9C leafV z8Z t cs w hv hq;rw[hr] at this;exact this) w
end
section
open Go Go.RowKit
def tx_xy:ByteArray:=⟨#[120,43,121]⟩
def tk_xy:List Tok:=[⟨5,0,1,0,0,⟨#[120]⟩⟩,⟨6,1,2,0,0,⟨#[43]⟩⟩,⟨5,2,3,0,0,⟨#[121]⟩⟩]
theorem lx_xy:LexRun tx_xy 0 tk_xy:= .more 0 0 1 _ _ (z19 tx_xy ⟨#[120]⟩ 0 0 1 (by decide +kernel)) (by decide) rfl (.more 1 1 2 _ _ (z3b tx_xy ⟨#[43]⟩ 1 1 10 (by decide +kernel)) (by decide) rfl (.more 2 2 3 _ _ (z19 tx_xy ⟨#[121]⟩ 2 2 3 (by decide +kernel)) (by decide) rfl (z2m tx_xy 3 (by decide +kernel))))
def ex_xy:ET:=twoE 5 (varE ⟨#[120]⟩) (varE ⟨#[121]⟩)
theorem zg6 (pb tb c:Nat) (E:Int):PCon pb tb c E tk_xy 85 0 3 2 ex_xy:=z30 (z5p (z0J (z1v (i:=0) ⟨5,0,1,0,0,⟨#[120]⟩⟩ rfl rfl (by decide +kernel) ⟨zI _ (by decide +kernel),by decide +kernel,by decide +kernel⟩) (by decide +kernel) (by decide +kernel)) (z4r (i:=1) (by decide +kernel) (z0J (z1v (i:=2) ⟨5,2,3,0,0,⟨#[121]⟩⟩ rfl rfl (by decide +kernel) ⟨zI _ (by decide +kernel),by decide +kernel,by decide +kernel⟩) (by decide +kernel) (by decide +kernel)) (by decide) (z7W (by decide +kernel)))) (by decide +kernel)
theorem rt_xy:zB ex_xy= true:=by decide +kernel
def z2s:ByteArray:=⟨#[51]⟩
def z5b:List Tok:=[⟨2,0,1,3,0,⟨#[]⟩⟩]
theorem zey:LexRun z2s 0 z5b:= .more 0 0 1 _ _ (z6y z2s 0 0 1 3 (by decide +kernel)) (by decide) rfl (z2m z2s 1 (by decide +kernel))
def z16:ET:=conE 2 3 0 ⟨#[]⟩
theorem zbG (pb tb c:Nat) (E:Int):PCon pb tb c E z5b 85 0 1 2 z16:=z30 (z8A (z0J (z8R (i:=0) ⟨2,0,1,3,0,⟨#[]⟩⟩ rfl rfl ⟨zI _ (by decide +kernel),by decide +kernel,by decide +kernel⟩) (by decide +kernel) (by decide +kernel)) (by decide +kernel)) (by decide +kernel)
theorem zep:zB z16= true:=by decide +kernel
def tx_z:ByteArray:=⟨#[122]⟩
def tk_z:List Tok:=[⟨5,0,1,0,0,⟨#[122]⟩⟩]
theorem lx_z:LexRun tx_z 0 tk_z:= .more 0 0 1 _ _ (z19 tx_z ⟨#[122]⟩ 0 0 1 (by decide +kernel)) (by decide) rfl (z2m tx_z 1 (by decide +kernel))
def ex_z:ET:=varE ⟨#[122]⟩
theorem pcx_z (pb tb c:Nat) (E:Int):PCon pb tb c E tk_z 85 0 1 2 ex_z:=z30 (z8A (z0J (z1v (i:=0) ⟨5,0,1,0,0,⟨#[122]⟩⟩ rfl rfl (by decide +kernel) ⟨zI _ (by decide +kernel),by decide +kernel,by decide +kernel⟩) (by decide +kernel) (by decide +kernel)) (by decide +kernel)) (by decide +kernel)
theorem rt_z:zB ex_z= true:=by decide +kernel
def z49:ByteArray:=⟨#[49]⟩
def z8d:List Tok:=[⟨2,0,1,1,0,⟨#[]⟩⟩]
theorem zg2:LexRun z49 0 z8d:= .more 0 0 1 _ _ (z6y z49 0 0 1 1 (by decide +kernel)) (by decide) rfl (z2m z49 1 (by decide +kernel))
def z1H:ET:=conE 2 1 0 ⟨#[]⟩
theorem zf1 (pb tb c:Nat) (E:Int):PCon pb tb c E z8d 85 0 1 2 z1H:=z30 (z8A (z0J (z8R (i:=0) ⟨2,0,1,1,0,⟨#[]⟩⟩ rfl rfl ⟨zI _ (by decide +kernel),by decide +kernel,by decide +kernel⟩) (by decide +kernel) (by decide +kernel)) (by decide +kernel)) (by decide +kernel)
theorem zgf:zB z1H= true:=by decide +kernel
def z1r:ByteArray:=⟨#[98,43,97,43,98]⟩
def z8g:List Tok:=[⟨5,0,1,0,0,⟨#[98]⟩⟩,⟨6,1,2,0,0,⟨#[43]⟩⟩,⟨5,2,3,0,0,⟨#[97]⟩⟩,⟨6,3,4,0,0,⟨#[43]⟩⟩,⟨5,4,5,0,0,⟨#[98]⟩⟩]
theorem zg5:LexRun z1r 0 z8g:= .more 0 0 1 _ _ (z19 z1r ⟨#[98]⟩ 0 0 1 (by decide +kernel)) (by decide) rfl (.more 1 1 2 _ _ (z3b z1r ⟨#[43]⟩ 1 1 10 (by decide +kernel)) (by decide) rfl (.more 2 2 3 _ _ (z19 z1r ⟨#[97]⟩ 2 2 3 (by decide +kernel)) (by decide) rfl (.more 3 3 4 _ _ (z3b z1r ⟨#[43]⟩ 3 3 10 (by decide +kernel)) (by decide) rfl (.more 4 4 5 _ _ (z19 z1r ⟨#[98]⟩ 4 4 5 (by decide +kernel)) (by decide) rfl (z2m z1r 5 (by decide +kernel))))))
def z1R:ET:=twoE 5 (twoE 5 (varE ⟨#[98]⟩) (varE ⟨#[97]⟩)) (varE ⟨#[98]⟩)
theorem zeW (pb tb c:Nat) (E:Int):PCon pb tb c E z8g 85 0 5 2 z1R:=z30 (z5p (z0J (z1v (i:=0) ⟨5,0,1,0,0,⟨#[98]⟩⟩ rfl rfl (by decide +kernel) ⟨zI _ (by decide +kernel),by decide +kernel,by decide +kernel⟩) (by decide +kernel) (by decide +kernel)) (z4r (i:=1) (by decide +kernel) (z0J (z1v (i:=2) ⟨5,2,3,0,0,⟨#[97]⟩⟩ rfl rfl (by decide +kernel) ⟨zI _ (by decide +kernel),by decide +kernel,by decide +kernel⟩) (by decide +kernel) (by decide +kernel)) (by decide) (z4r (i:=3) (by decide +kernel) (z0J (z1v (i:=4) ⟨5,4,5,0,0,⟨#[98]⟩⟩ rfl rfl (by decide +kernel) ⟨zI _ (by decide +kernel),by decide +kernel,by decide +kernel⟩) (by decide +kernel) (by decide +kernel)) (by decide) (z7W (by decide +kernel))))) (by decide +kernel)
theorem zgz:zB z1R= true:=by decide +kernel
def z1w:ByteArray:=⟨#[49,43,121]⟩
def z6i:List Tok:=[⟨2,0,1,1,0,⟨#[]⟩⟩,⟨6,1,2,0,0,⟨#[43]⟩⟩,⟨5,2,3,0,0,⟨#[121]⟩⟩]
theorem zfg:LexRun z1w 0 z6i:= .more 0 0 1 _ _ (z6y z1w 0 0 1 1 (by decide +kernel)) (by decide) rfl (.more 1 1 2 _ _ (z3b z1w ⟨#[43]⟩ 1 1 10 (by decide +kernel)) (by decide) rfl (.more 2 2 3 _ _ (z19 z1w ⟨#[121]⟩ 2 2 3 (by decide +kernel)) (by decide) rfl (z2m z1w 3 (by decide +kernel))))
def z0O:ET:=twoE 5 (conE 2 1 0 ⟨#[]⟩) (varE ⟨#[121]⟩)
theorem zdV (pb tb c:Nat) (E:Int):PCon pb tb c E z6i 85 0 3 2 z0O:=z30 (z5p (z0J (z8R (i:=0) ⟨2,0,1,1,0,⟨#[]⟩⟩ rfl rfl ⟨zI _ (by decide +kernel),by decide +kernel,by decide +kernel⟩) (by decide +kernel) (by decide +kernel)) (z4r (i:=1) (by decide +kernel) (z0J (z1v (i:=2) ⟨5,2,3,0,0,⟨#[121]⟩⟩ rfl rfl (by decide +kernel) ⟨zI _ (by decide +kernel),by decide +kernel,by decide +kernel⟩) (by decide +kernel) (by decide +kernel)) (by decide) (z7W (by decide +kernel)))) (by decide +kernel)
theorem zf9:zB z0O= true:=by decide +kernel
end
section
open Go Go.RowKit
def zfy (s:ByteArray) (t:ET):Prop:=∀ w,Calls Tryz.prog 22 #[.string s] w fun e w'=>∃ cs,e= .returned (.agg ⟨cs⟩)/\ExpAt w' w'.heap.size cs t/\Below w.heap.size w w'
theorem z0Y (s:ByteArray) (t:ET) (hp:∀ w,Calls Tryz.prog 49 #[.string s] w fun e w'=>∃ cs,e= .returned (.tuple #[.agg ⟨cs⟩,.int .i64 0,.int .i64 0])/\KeptP (fun b=>w.heap.size<=b) w' cs t/\Below w.heap.size w w'):zfy s t:=fun w=>by
 have HP:=I hp
 clear hp
 go_enter Tryz.func22,Tryz.ntmps22
 go_upto_region 1 with (fail)
 have HB0:=I (zc w (.cells ⟨[.int .i64 0,.string ⟨#[]⟩,.int .i64 0,.int .i64 0,.float .f64 0,.string ⟨#[]⟩,.slice none 0 0,.slice none 0 0,.slice none 0 0,.slice none 0 0]⟩ 30))
 have HW0:=I (Whole.new w [.int .i64 0,.string ⟨#[]⟩,.int .i64 0,.int .i64 0,.float .f64 0,.string ⟨#[]⟩,.slice none 0 0,.slice none 0 0,.slice none 0 0,.slice none 0 0] 30)
 generalize w.alloc (.cells ⟨[.int .i64 0,.string ⟨#[]⟩,.int .i64 0,.int .i64 0,.float .f64 0,.string ⟨#[]⟩,.slice none 0 0,.slice none 0 0,.slice none 0 0,.slice none 0 0]⟩ 30)= W at*
 have HPW:=I (HP.o W)
 go_wp2_with (go_at_call 49;fail)
 refine HPW.o.mono ?_
 rintro e z ⟨cs,rfl,hv,hb⟩
 have HKL:=I (eslen hv.exp)
 have HON:=I hv.exp.one
 have HV:=I hv
 have HB1:=I hb
 clear hv hb HPW HP
 go_upto_region 2 with (first|((with_reducible refine z0c 30 _ _ rfl ?hwx z ?zz cs ?hwld ?hz ?hx ?hy ?hi ?h1 ?_);(case hwld=>rfl);(case hx=>rfl);(case hy=>rfl);(case hwx=>(exact wA rfl));(case hz=>rw[HKL.o];rfl);(case hi=>rw[HKL.o];kernel_rfl);(case h1=>exact HON.o);intro Z hZ;have HX:=I hZ;clear hZ))
 have HRZ:=I HX.o.range
 have HW2:Hid (Whole 30 Z w.heap.size _):=I ((HW0.o.keep (HB1.o.block _ HW0.o.lt)).keep (HX.o.below.block _ (Nat.lt_of_lt_of_le HW0.o.lt HB1.o.size)))
 obtain⟨z0,hz0,hl0⟩:∃ z0:List Value,Whole 30 Z w.heap.size z0/\z0.length= 10:=⟨_,HW2.o,rfl⟩
 have HZ0:=I hz0
 have HL0:=I hl0
 clear hz0 hl0 HW2
 go_wp2_with (first|((with_reducible refine z7 30 _ rfl ?_ z.heap.size 0 cs _ rfl HRZ.o Tryz.underlying30 rfl ?_ ?_);(exact wA rfl);rw[HKL.o];kernel_rfl)|((with_reducible refine zd 30 _ _ rfl rfl ?_ w.heap.size z0 cs HZ0.o ?_ ?_ ?_ ?_ ?_ ?_);(exact wA rfl);rw[HL0.o,HKL.o];rfl;rfl;rw[HKL.o];kernel_rfl;exact HON.o;intro Z2 hZw hZb;have HZW:=I hZw;have HZB:=I hZb;clear hZw hZb))
 (try simp only[Exit.inBlock,Exit.then])
 refine bodyPost_ret (zH rfl _ _ w.heap.size cs HKL.o rfl HZW.o) rfl ?_
 have hB:Below w.heap.size w Z:=(HB0.o.trans (HB1.o.mono HB0.o.size)).trans (HX.o.below.mono (Nat.le_trans HB0.o.size HB1.o.size))
 have hbel:Below w.heap.size w Z2:=⟨HZB.o.os.trans hB.os,HZB.o.tape.trans hB.tape,HZB.o.output.trans hB.output,Nat.le_trans hB.size HZB.o.size,fun b hb=>(HZB.o.block b (by have:=hB.size;omega) (by omega) (by omega)).trans (hB.block b hb)⟩
 refine⟨cs,rfl,?_,hbel⟩
 exact(KeptP.to (q:=fun _=>True) HV.o (fun b hp hlt=>⟨trivial,by
  have h1:=HW0.o.lt
  have h2:w.heap.size < b:=Nat.lt_of_lt_of_le h1 hp
  exact(HZB.o.block b (Nat.lt_of_lt_of_le hlt HX.o.below.size) (by omega) (by omega)).trans (HX.o.below.block b hlt)⟩) (Nat.le_trans HX.o.below.size HZB.o.size)).exp
end
end Go.Proofs.YteolfamhmfidbaaGreatDoor
