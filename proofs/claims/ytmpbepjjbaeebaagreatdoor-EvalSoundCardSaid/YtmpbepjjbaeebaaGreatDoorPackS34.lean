/- Parts of a proof: RERight, Toks, Sign2, Flt07, RERightG. -/
import Derived.Deep.CutBlock
import Derived.OwnWalk
import Derived.Test.YtmpbepjjbaeebaaGreatDoorPackS5
import Derived.Test.YtmpbepjjbaeebaaGreatDoorPackS10
import Derived.Test.YtmpbepjjbaeebaaGreatDoorPackS18
import Derived.Test.YtmpbepjjbaeebaaGreatDoorPackS33
set_option maxHeartbeats 8000000
set_option maxRecDepth 100000
set_option linter.unusedVariables false
set_option linter.unusedSimpArgs false
namespace Go.Proofs.YtmpbepjjbaeebaaGreatDoor
section
open Go Go.RowKit
def swB (k:Int) (s:ByteArray):Bool:=if k= 2 then nameB s && !wordB s else if k= 18 then zK s else s.toList.isEmpty
def lnB (k:Int) (ns nk:Nat):Bool:=if k= 17 then((ns:Int) ==(nk:Int)) else((ns:Int) ==0)
theorem zba (s:ByteArray):(nameB s && !wordB s)=(!wordB s && zK s):=by
 cases hw:wordB s with
 |true=>simp
 |false=>
  unfold wordB at hw
  simp only[Bool.or_eq_false_iff] at hw
  obtain⟨_,_,h3,h4,_⟩:=hw
  unfold zK
  rw[h3,h4]
  simp
theorem z8y (k : Int) (s : ByteArray) (ns : List ByteArray) (nk : Nat) : zO k s ns nk = (swB k s && (lnB k ns.length nk && riseF none ns)) := by
  unfold zO swB lnB
  by_cases h2 : k = 2
  · subst h2
    rw [if_pos rfl, if_pos rfl, if_neg (by decide), zba]
    cases ns with
    | nil => simp [riseF]
    | cons a l => have : ((((a :: l).length : Nat) : Int) == 0) = false := by rw [beq_eq_false_iff_ne]; simp; omega
                  rw [this]; simp
  · rw [if_neg h2, if_neg h2]
    by_cases h18 : k = 18
    · subst h18
      rw [if_pos rfl, if_pos rfl, if_neg (by decide)]
      cases ns with
      | nil => simp [riseF]
      | cons a l => have : ((((a :: l).length : Nat) : Int) == 0) = false := by rw [beq_eq_false_iff_ne]; simp; omega
                    rw [this]; simp
    · rw [if_neg h18, if_neg h18]
      by_cases h17 : k = 17
      · rw [if_pos h17, if_pos h17, Bool.and_comm (riseF none ns), Bool.and_assoc]
      · rw [if_neg h17, if_neg h17]
        cases ns with
        | nil => simp [riseF]
        | cons a l => have : ((((a :: l).length : Nat) : Int) == 0) = false := by rw [beq_eq_false_iff_ne]; simp; omega
                      rw [this]; simp
theorem z8k (k:Int) (s:ByteArray) (v:VT) (ns:List ByteArray) (its:List ET) (d:Nat):z01 (.mk k s v ns its) d=(decide (d<=12) && kidsB (z0l k) its.length && (valB k v && (swB k s && (lnB k ns.length its.length && (riseF none ns && z03 its (d+1)))))):=by
 rw[z01,z8y]
 cases decide (d<=12)<;>cases kidsB (z0l k) its.length<;>cases valB k v<;>cases swB k s<;>cases lnB k ns.length its.length<;>simp
mutual
def allC (q:VT->Bool):ET->Bool
 | .mk k _ v _ its=>(k !=1 || q v) && allCL q its
def allCL (q:VT->Bool):List ET->Bool
 |[]=>true
 |a::l=>allC q a && allCL q l
end
theorem z6e {q:VT->Bool}:∀ {l:List ET} {x:ET},allCL q l= true->x∈l->allC q x= true
 |a::l,x,h,hx=>by
  rw[allCL,Bool.and_eq_true] at h
  rcases List.mem_cons.1 hx with rfl|hx
  ·exact h.1
  ·exact z6e h.2 hx
theorem z8o (q:VT->Bool) (HR0:∀ v cs w,q v= true->ValAt w w.heap.size cs v->Calls Tryz.prog 21 #[.agg ⟨cs⟩] w fun e w'=>e= .returned (.bool (zp v))/\Below w.heap.size w w'):∀ (t:ET) (far d:Nat) (cs:List Value) (w:World),far+d= 13->ExpAt w w.heap.size cs t->allC q t= true->
  Calls Tryz.prog 53 #[.agg ⟨cs⟩,.int .i64 far] w fun e w'=>e= .returned (.bool (z01 t d))/\Below w.heap.size w w':=by
 intro t
 induction t using ET.ind with
 |h k s v ns its ih=>
  intro far d cs w hfd hv hq
  rw[allC,Bool.and_eq_true] at hq
  have HQ1:=I hq.1
  have HQ2:=I hq.2
  have HR1:=I HR0
  clear hq HR0
  have IH:=I ih
  obtain⟨v0,v1,v2,v3,v4,v5,vn0,vi0,rfl,_,_,hvv,hns,hil,hi⟩:=hv.inv
  obtain⟨_,A,c,rfl,hA⟩:=hi
  obtain⟨hnl,NA,nc,rfl,hN⟩:=id hns
  cases v with
  |mk vk vn vf vs vns vits=>
  obtain⟨u0,u1,hcv,_,_,hvf,_,hvns,_,hvi⟩:=hvv.inv
  obtain⟨_,VA,vc,rfl,_⟩:=hvns
  obtain⟨_,VD,vd,rfl,_⟩:=hvi
  simp only[List.cons.injEq,and_true] at hcv
  obtain⟨rfl,rfl,rfl,rfl,rfl,rfl⟩:=hcv
  have HVF:=I (wf64 hvf)
  have HA:=I hA
  have HN:=I hN
  have HVV:=I hvv
  have HFD:=I hfd
  have HW:=I (zd w (.cells ⟨[.int .i64 k,.string s,.int .i64 vk,.int .i64 vn,.float .f64 vf,.string vs,.slice VA vns.length vc,.slice VD vits.length vd,.slice NA ns.length nc,.slice A its.length c]⟩ 29))
  have HSZ:=I (zw w (.cells ⟨[.int .i64 k,.string s,.int .i64 vk,.int .i64 vn,.float .f64 vf,.string vs,.slice VA vns.length vc,.slice VD vits.length vd,.slice NA ns.length nc,.slice A its.length c]⟩ 29))
  have HRG:=I (zv w [.int .i64 k,.string s,.int .i64 vk,.int .i64 vn,.float .f64 vf,.string vs,.slice VA vns.length vc,.slice VD vits.length vd,.slice NA ns.length nc,.slice A its.length c] 29)
  have HWT:=I (fun w=>zaM k w)
  have HRE:=I (z8k k s (.mk vk vn vf vs vns vits) ns its d)
  generalize z01 (.mk k s (.mk vk vn vf vs vns vits) ns its) d= res at*
  have HWR:=z4G k
  obtain⟨zz,hz⟩:∃ z,z0l k= z:=⟨_,rfl⟩
  rw[hz] at HWT HRE HWR
  unfold maxLen at hil
  have hf13:(far:Int)<=13:=by omega
  clear hv ih hA hns hN hvf hvv hz hfd
  have D:∀ j v,([.int .i64 k,.string s,.int .i64 vk,.int .i64 vn,.float .f64 vf,.string vs,.slice VA vns.length vc,.slice VD vits.length vd,.slice NA ns.length nc,.slice A its.length c])[j]?= some v->(w.alloc (.cells ⟨[.int .i64 k,.string s,.int .i64 vk,.int .i64 vn,.float .f64 vf,.string vs,.slice VA vns.length vc,.slice VD vits.length vd,.slice NA ns.length nc,.slice A its.length c]⟩ 29)).cell? ⟨w.heap.size,j,none⟩= some v:=z0w w _ _
  have D0:=I (D 0 _ rfl)
  have D1:=I (D 1 _ rfl)
  have D8:=I (D 8 _ rfl)
  have D9:=I (D 9 _ rfl)
  have HRV:Hid ((w.alloc (.cells ⟨[.int .i64 k,.string s,.int .i64 vk,.int .i64 vn,.float .f64 vf,.string vs,.slice VA vns.length vc,.slice VD vits.length vd,.slice NA ns.length nc,.slice A its.length c]⟩ 29)).rangeAt w.heap.size 2 [.int .i64 vk,.int .i64 vn,.float .f64 vf,.string vs,.slice VA vns.length vc,.slice VD vits.length vd]):=I (by have:=z3m (i:=2) (ds:=[.int .i64 vk,.int .i64 vn,.float .f64 vf,.string vs,.slice VA vns.length vc,.slice VD vits.length vd]) HRG.o (fun j v h=>match j,h with|0,h=>h|1,h=>h|2,h=>h|3,h=>h|4,h=>h|5,h=>h|j+6,h=>by simp at h);simpa using this)
  clear D
  go_enter Tryz.func53,Tryz.ntmps53
  go_upto_region 1 with (fail)
  generalize w.alloc (.cells ⟨[.int .i64 k,.string s,.int .i64 vk,.int .i64 vn,.float .f64 vf,.string vs,.slice VA vns.length vc,.slice VD vits.length vd,.slice NA ns.length nc,.slice A its.length c]⟩ 29)= W at*
  have d0:=D0.o
  have d1:=D1.o
  have d8:=D8.o
  have d9:=D9.o
  go_upto_region 2 with (go_at_call 89;refine(HWT.o _).mono ?_;rintro e z ⟨rfl,h⟩;rw[h];clear h z)
  obtain⟨c1,hc1⟩:∃ c1,(decide (d<=12) && kidsB zz its.length)= c1:=⟨_,rfl⟩
  have HC1:=I hc1
  rw[hc1] at HRE
  clear hc1
  go_cut [27] (fun v z=>v= .bool (!c1)/\z= W)
  case first=>
   by_cases h0:far= 0
   ·subst h0
    have h1:((0:Nat):Int) < 1:=by omega
    have HR:Hid ((!c1)= true):=I (by rw[← HC1.o];have:=HFD.o;simp;omega)
    go_wp2
    go_meet
    case rel=>exact⟨by rw[HR.o],rfl⟩
   ·have h1: ¬ ((far:Int) < 1):=by omega
    have h1b:decide ((far:Int) < 1)= false:=decide_eq_false h1
    have HD:Hid (decide (d<=12)= true):=I (decide_eq_true (by have:=HFD.o;omega))
    by_cases h2:zz= -2
    ·have h2b:(zz == -2)= true:=by simpa using h2
     have HR:Hid ((!c1)= true):=I (by rw[← HC1.o,HD.o];unfold kidsB;rw[h2b];rfl)
     clear h2
     go_wp2
     go_meet
     case rel=>exact⟨by rw[HR.o],rfl⟩
    ·have h2b:(zz == -2)= false:=by simpa using h2
     by_cases h3:0<=zz
     ·have h3b:decide (zz < 0)= false:=decide_eq_false (by omega)
      by_cases h4:(its.length:Int)= zz
      ·have h4b:((its.length:Int) !=zz)= false:=by simpa using h4
       have h4c:((its.length:Int) ==zz)= true:=by simpa using h4
       have HR:Hid ((!c1)= false):=I (by rw[← HC1.o,HD.o];unfold kidsB;rw[h2b,h3b,h4c];rfl)
       clear h4 h4c
       go_wp2
       go_meet
       case rel=>exact⟨by rw[HR.o],rfl⟩
      ·have h4b:((its.length:Int) !=zz)= true:=by simpa using h4
       have h4c:((its.length:Int) ==zz)= false:=by simpa using h4
       have HR:Hid ((!c1)= true):=I (by rw[← HC1.o,HD.o];unfold kidsB;rw[h2b,h3b,h4c];rfl)
       clear h4 h4c
       go_wp2
       go_meet
       case rel=>exact⟨by rw[HR.o],rfl⟩
     ·have h3b:decide (zz < 0)= true:=decide_eq_true (by omega)
      have HR:Hid ((!c1)= false):=I (by rw[← HC1.o,HD.o];unfold kidsB;rw[h2b,h3b];rfl)
      go_wp2
      go_meet
      case rel=>exact⟨by rw[HR.o],rfl⟩
  case rest=>
  obtain⟨rfl,rfl⟩:=hcut
  cases c1 with
  |false=>
   have HR:Hid (res= false):=I (HRE.o.trans (Bool.false_and _))
   go_wp2
   go_ret
   exact⟨z7 HR.o.symm,HW.o⟩
  |true=>
  rw[Bool.true_and] at HRE
  have HF0:Hid (1<=far):=I (by have:=HC1.o;rw[Bool.and_eq_true] at this;have h2:=of_decide_eq_true this.1;have:=HFD.o;omega)
  clear HC1
  go_upto_region 4 with (fail)
  obtain⟨c2,hc2⟩:∃ c2,valB k (.mk vk vn vf vs vns vits)= c2:=⟨_,rfl⟩
  have HC2:=I hc2
  rw[hc2] at HRE
  clear hc2
  have HVW:=I ((HVV.o.under HW.o).more HW.o.size)
  go_cut [47] (fun v z=>v= .bool (!c2)/\Below wc.heap.size wc z)
  case first=>
   by_cases hk1:k= 1
   ·subst hk1
    have HCC:=I (z9r (.mk vk vn vf vs vns vits) [.int .i64 vk,.int .i64 vn,.float .f64 vf,.string vs,.slice VA vns.length vc,.slice VD vits.length vd] wc HVW.o (fun z hz=>HR1.o _ _ z (by have h:=HQ1.o;simpa using h) hz))
    rw[show zN (.mk vk vn vf vs vns vits)= c2 from by have:=HC2.o;unfold valB at this;rw[if_pos rfl] at this;exact this] at HCC
    cases c2 with
    |true=>
     go_wp2_with (first|((with_reducible refine za 26 _ rfl ?_ w.heap.size 2 [.int .i64 vk,.int .i64 vn,.float .f64 vf,.string vs,.slice VA vns.length vc,.slice VD vits.length vd] _ rfl HRV.o Tryz.underlying26 rfl ?_ ?_);(exact wA rfl);kernel_rfl)|(go_at_call 90;refine HCC.o.mono ?_;rintro e w2 ⟨rfl,hb⟩;have HB2:=I hb;have y0:=(hb.cell (p:=⟨w.heap.size,0,none⟩) HSZ.o).trans D0.o;clear hb))
     go_meet
     case rel=>exact⟨rfl,HB2.o⟩
    |false=>
     go_wp2_with (first|((with_reducible refine za 26 _ rfl ?_ w.heap.size 2 [.int .i64 vk,.int .i64 vn,.float .f64 vf,.string vs,.slice VA vns.length vc,.slice VD vits.length vd] _ rfl HRV.o Tryz.underlying26 rfl ?_ ?_);(exact wA rfl);kernel_rfl)|(go_at_call 90;refine HCC.o.mono ?_;rintro e w2 ⟨rfl,hb⟩;have HB2:=I hb;have y0:=(hb.cell (p:=⟨w.heap.size,0,none⟩) HSZ.o).trans D0.o;clear hb))
     go_meet
     case rel=>exact⟨rfl,HB2.o⟩
   ·have hk1a:(k ==1)= false:=by simpa using hk1
    have hk1b:(k !=1)= true:=by simpa using hk1
    have HCC:=I (zc7 vk vn vf vs VA VD vns.length vits.length vc vd wc HVF.o)
    rw[show noneB vk vn vf vs vns.length vits.length= c2 from by have:=HC2.o;unfold valB at this;rw[if_neg hk1] at this;exact this] at HCC
    cases c2 with
    |true=>
     go_wp2_with (first|((with_reducible refine za 26 _ rfl ?_ w.heap.size 2 [.int .i64 vk,.int .i64 vn,.float .f64 vf,.string vs,.slice VA vns.length vc,.slice VD vits.length vd] _ rfl HRV.o Tryz.underlying26 rfl ?_ ?_);(exact wA rfl);kernel_rfl)|(go_at_call 91;refine HCC.o.mono ?_;rintro e w2 ⟨rfl,hb⟩;have HB2:=I hb;clear hb))
     go_meet
     case rel=>exact⟨rfl,HB2.o⟩
    |false=>
     go_wp2_with (first|((with_reducible refine za 26 _ rfl ?_ w.heap.size 2 [.int .i64 vk,.int .i64 vn,.float .f64 vf,.string vs,.slice VA vns.length vc,.slice VD vits.length vd] _ rfl HRV.o Tryz.underlying26 rfl ?_ ?_);(exact wA rfl);kernel_rfl)|(go_at_call 91;refine HCC.o.mono ?_;rintro e w2 ⟨rfl,hb⟩;have HB2:=I hb;clear hb))
     go_meet
     case rel=>exact⟨rfl,HB2.o⟩
  case rest=>
  obtain⟨rfl,hbc⟩:=hcut
  have HB2:=I (HW.o.trans (hbc.mono HW.o.size))
  have HS2:=I (Nat.lt_of_lt_of_le HSZ.o hbc.size)
  have E0:=I ((hbc.cell (p:=⟨w.heap.size,0,none⟩) HSZ.o).trans D0.o)
  have E1:=I ((hbc.cell (p:=⟨w.heap.size,1,none⟩) HSZ.o).trans D1.o)
  have E8:=I ((hbc.cell (p:=⟨w.heap.size,8,none⟩) HSZ.o).trans D8.o)
  have E9:=I ((hbc.cell (p:=⟨w.heap.size,9,none⟩) HSZ.o).trans D9.o)
  clear hbc d0 d1 d8 d9 D0 D1 D8 D9 HC2 HVW HRG HRV HSZ HVV
  cases c2 with
  |false=>
   have HR:Hid (res= false):=I (HRE.o.trans (Bool.false_and _))
   go_wp2
   go_ret
   exact⟨z7 HR.o.symm,HB2.o⟩
  |true=>
  rw[Bool.true_and] at HRE
  have e0:=E0.o
  have e1:=E1.o
  have e8:=E8.o
  have e9:=E9.o
  obtain⟨c3,hc3⟩:∃ c3,swB k s= c3:=⟨_,rfl⟩
  have HC3:=I hc3
  rw[hc3] at HRE
  clear hc3
  have HNA:=I (fun z=>z48 s z)
  have HWO:=I (fun z=>zbG s z)
  have HFI:=I (fun z=>z5p s z)
  go_upto_block 0 with (fail)
  go_cut [4] (fun v z=>v= .bool false/\c3= true/\z= wc)
  case first=>
   by_cases k2:k= 2
   ·subst k2
    have HS:Hid ((nameB s && !wordB s)= c3):=I (by have:=HC3.o;unfold swB at this;rw[if_pos rfl] at this;exact this)
    cases hn:nameB s with
    |false=>
     have HR:Hid (res= false):=I (HRE.o.trans (by rw[← HS.o,hn];rfl))
     rw[hn] at HNA
     clear hn
     go_wp2_with (go_at_call 92;refine(HNA.o _).mono ?_;rintro e z ⟨rfl,h⟩;rw[h];clear h z)
     go_ret
     exact⟨z7 HR.o.symm,HB2.o⟩
    |true=>
     rw[hn] at HNA HS
     clear hn
     cases hw:wordB s with
     |true=>
      have HR:Hid (res= false):=I (HRE.o.trans (by rw[← HS.o,hw];rfl))
      rw[hw] at HWO
      clear hw
      go_wp2_with (first|(go_at_call 92;refine(HNA.o _).mono ?_;rintro e z ⟨rfl,h⟩;rw[h];clear h z)|(go_at_call 93;refine(HWO.o _).mono ?_;rintro e z ⟨rfl,h⟩;rw[h];clear h z))
      go_ret
      exact⟨z7 HR.o.symm,HB2.o⟩
     |false=>
      have HR:Hid (c3= true):=I (by rw[← HS.o,hw];rfl)
      rw[hw] at HWO
      clear hw
      go_wp2_with (first|(go_at_call 92;refine(HNA.o _).mono ?_;rintro e z ⟨rfl,h⟩;rw[h];clear h z)|(go_at_call 93;refine(HWO.o _).mono ?_;rintro e z ⟨rfl,h⟩;rw[h];clear h z))
      go_meet
      case rel=>exact⟨rfl,HR.o,rfl⟩
   ·have k2b:(k ==2)= false:=by simpa using k2
    by_cases k18:k= 18
    ·subst k18
     have HS:Hid (zK s= c3):=I (by have:=HC3.o;unfold swB at this;rw[if_neg k2,if_pos rfl] at this;exact this)
     clear k2
     cases hn:zK s with
     |false=>
      have HR:Hid (res= false):=I (HRE.o.trans (by rw[← HS.o,hn];rfl))
      rw[hn] at HS
      have HF1:Hid (∀ z,Calls Tryz.prog 94 #[.string s] z fun e w'=>e= .returned (.bool false)/\w'= z):=I (by intro z;have:=HFI.o z;rw[hn] at this;exact this)
      clear hn
      go_wp2_with (go_at_call 94;refine(HF1.o _).mono ?_;rintro e z ⟨rfl,h⟩;rw[h];clear h z)
      go_ret
      exact⟨z7 HR.o.symm,HB2.o⟩
     |true=>
      have HR:Hid (c3= true):=I (by rw[← HS.o,hn])
      have HF1:Hid (∀ z,Calls Tryz.prog 94 #[.string s] z fun e w'=>e= .returned (.bool true)/\w'= z):=I (by intro z;have:=HFI.o z;rw[hn] at this;exact this)
      clear hn
      go_wp2_with (go_at_call 94;refine(HF1.o _).mono ?_;rintro e z ⟨rfl,h⟩;rw[h];clear h z)
      go_meet
      case rel=>exact⟨rfl,HR.o,rfl⟩
    ·have k18b:(k ==18)= false:=by simpa using k18
     have HS:Hid (s.toList.isEmpty= c3):=I (by have:=HC3.o;unfold swB at this;rw[if_neg k2,if_neg k18] at this;exact this)
     clear k2 k18
     cases c3 with
     |false=>
      have hs1:=HS.o
      have HR:Hid (res= false):=I (HRE.o.trans (Bool.false_and _))
      go_wp2
      go_ret
      exact⟨z7 HR.o.symm,HB2.o⟩
     |true=>
      have hs1:=HS.o
      go_wp2
      go_meet
      case rel=>exact⟨rfl,trivial,rfl⟩
  case rest=>
  obtain⟨rfl,hc3,rfl⟩:=hcut
  rw[hc3,Bool.true_and] at HRE
  clear hc3 HC3 HNA HWO
  go_upto_region 15 with (fail)
  obtain⟨c4,hc4⟩:∃ c4,lnB k ns.length its.length= c4:=⟨_,rfl⟩
  have HC4:=I hc4
  rw[hc4] at HRE
  clear hc4 e1
  go_cut [92] (fun v z=>v= .bool (!c4)/\z= wc)
  case first=>
   by_cases k17:k= 17
   ·subst k17
    have HS:Hid (((ns.length:Int) ==(its.length:Int))= c4):=I (by have:=HC4.o;unfold lnB at this;rw[if_pos rfl] at this;exact this)
    cases c4 with
    |true=>
     have h1:((ns.length:Int) !=(its.length:Int))= false:=by have:=HS.o;simp at this;simpa using this
     go_wp2
     go_meet
     case rel=>exact⟨rfl,rfl⟩
    |false=>
     have h1:((ns.length:Int) !=(its.length:Int))= true:=by have:=HS.o;simp at this;simpa using this
     go_wp2
     go_meet
     case rel=>exact⟨rfl,rfl⟩
   ·have k17b:(k !=17)= true:=by simpa using k17
    have k17c:(k ==17)= false:=by simpa using k17
    have HS:Hid (((ns.length:Int) ==0)= c4):=I (by have:=HC4.o;unfold lnB at this;rw[if_neg k17] at this;exact this)
    clear k17
    have HC5:Hid (ns.length= 0->c4= true):=I (fun h=>by rw[← HS.o,h];rfl)
    have HC6:Hid (0 < ns.length->c4= false):=I (fun h=>by rw[← HS.o,beq_eq_false_iff_ne];omega)
    clear HS
    cases ns with
    |nil=>
     have HC7:=I (HC5.o rfl)
     go_wp2
     go_meet
     case rel=>exact⟨by rw[HC7.o];rfl,rfl⟩
    |cons na nl=>
     have HC7:=I (HC6.o (by simp))
     go_wp2
     go_meet
     case rel=>exact⟨by rw[HC7.o];rfl,rfl⟩
  case rest=>
  obtain⟨rfl,rfl⟩:=hcut
  clear HC4
  cases c4 with
  |false=>
   have HR:Hid (res= false):=I (HRE.o.trans (Bool.false_and _))
   go_wp2
   go_ret
   exact⟨z7 HR.o.symm,HB2.o⟩
  |true=>
  rw[Bool.true_and] at HRE
  obtain⟨rr,hrr⟩:∃ rr,riseF none ns= rr:=⟨_,rfl⟩
  have H0:Hid (riseF (prevK ns 0) (ns.drop 0)= rr):=I hrr
  rw[hrr] at HRE
  have H1:=I (fun s=>z4E (l:=ns) (s:=s))
  have H2:=I (fun k p s=>z5C (l:=ns) (k:=k) (p:=p) (s:=s))
  have HE:=I (z6x (l:=ns))
  clear hrr e0 e8 e9
  go_upto_region 18 with (fail)
  have HKEEP:Hid (∀ z,Below w.heap.size w z->True):=I fun _ _=>trivial
  clear HKEEP
  go_loopg [6] ns.length (fun q x u=>∃ k:Nat,k+q= ns.length/\x= .int .i64 k/\Below wc.heap.size wc u/\riseF (prevK ns k) (ns.drop k)= rr)
  case atStart=>exact⟨0,by omega,rfl,Below.refl _ _,H0.o⟩
  case round=>
   obtain⟨k1,hk1,rfl,hb,hres⟩:=hrel
   have HR:=I hres
   have HBC:=I hb
   have HBK:=I (HB2.o.trans (hb.mono HB2.o.size))
   have x8:=(hb.cell (p:=⟨w.heap.size,8,none⟩) HS2.o).trans E8.o
   have x9:=(hb.cell (p:=⟨w.heap.size,9,none⟩) HS2.o).trans E9.o
   clear hres hb
   cases gk with
   |zero=>
    obtain rfl:k1= ns.length:=by omega
    have hge: ¬ ((ns.length:Int) <(ns.length:Int)):=by omega
    have HV:=I (HR.o.symm.trans HE.o)
    have HRR:Hid (res= z03 its (d+1)):=I (by rw[HRE.o,HV.o];exact Bool.true_and _)
    clear HR
    go_upto_region 23 with (fail)
    clear x8 x9
    go_loopg [7] its.length (fun q x u=>∃ j:Nat,j+q= its.length/\x= .int .i64 j/\Below wc.heap.size wc u/\z03 (its.drop j) (d+1)= res)
    case atStart=>exact⟨0,by omega,rfl,HBC.o,HRR.o.symm⟩
    case round=>
     obtain⟨j,hj,rfl,hbu,hres⟩:=hrel
     have HBE:=I hbu
     have HBU:=I (HB2.o.trans (hbu.mono HB2.o.size))
     have HR:=I hres
     have u9:=(hbu.cell (p:=⟨w.heap.size,9,none⟩) HS2.o).trans E9.o
     clear hbu hres
     cases gk with
     |zero=>
      obtain rfl:j= its.length:=by omega
      have hge: ¬ ((its.length:Int) <(its.length:Int)):=by omega
      have HV:=I (HR.o.symm.trans z1t)
      go_wp2
      go_ret
      exact⟨z7 HV.o.symm,HBU.o⟩
     |succ q=>
      have hlt:(j:Int) <(its.length:Int):=by omega
      obtain⟨y,hy⟩:∃ y,its[j]?= some y:=⟨_,List.getElem?_eq_getElem (by omega)⟩
      obtain⟨b,ob,rfl,hbl,hc⟩:=HA.o (by omega)
      obtain⟨ks,hkl,hks,hvx⟩:=hc j y hy
      have HV:=I (HR.o.symm.trans (z1b hy))
      have HKL:=I hkl
      have HKS:=I (zc hks HBU.o hbl)
      have HC:=I (IH.o y (List.mem_of_getElem? hy) (far - 1) (d+1) ks wr (by have:=HFD.o;have:=HF0.o;omega) ((hvx.under HBU.o).more HBU.o.size) (z6e HQ2.o (List.mem_of_getElem? hy)))
      have hd1:((far - 1:Nat):Int)=(far:Int) - 1:=by have:=HF0.o;omega
      rw[hd1] at HC
      clear hc hks hvx hy HR hkl hbl hd1
      cases hrc:z01 y (d+1) with
      |false=>
       have HV2:Hid (res= false):=I (HV.o.trans (by rw[hrc];exact Bool.false_and _))
       rw[hrc] at HC
       clear hrc
       go_wp2_with (first|((with_reducible refine za 29 _ rfl ?_ b (ob+j*10) ks _ rfl HKS.o Tryz.underlying29 rfl ?_ ?_);(exact wA rfl);rw[HKL.o];kernel_rfl)|(go_at_call 53;refine HC.o.mono ?_;rintro e w4 ⟨rfl,hb⟩;have HB4:=I hb;clear hb))
       go_ret
       exact⟨z7 HV2.o.symm,HBU.o.trans (HB4.o.mono HBU.o.size)⟩
      |true=>
       have HV2:=I (HV.o.trans (by rw[hrc,Bool.true_and]))
       rw[hrc] at HC
       clear hrc
       go_wp2_with (first|((with_reducible refine za 29 _ rfl ?_ b (ob+j*10) ks _ rfl HKS.o Tryz.underlying29 rfl ?_ ?_);(exact wA rfl);rw[HKL.o];kernel_rfl)|(go_at_call 53;refine HC.o.mono ?_;rintro e w4 ⟨rfl,hb⟩;have HB4:=I hb;clear hb))
       go_roundg q
       case measure=>omega
       case rel=>exact⟨j+1,by omega,by go_num,HBE.o.trans (HB4.o.mono HBE.o.size),HV2.o.symm⟩
   |succ q=>
    have hlt:(k1:Int) <(ns.length:Int):=by omega
    obtain⟨sk,hsk⟩:∃ s,ns[k1]?= some s:=⟨_,List.getElem?_eq_getElem (by omega)⟩
    obtain⟨b,o,rfl,hbl,hc⟩:=HN.o (by omega)
    have HBL:=I hbl
    have HCC:Hid (∀ (i:Nat) x,ns[i]?= some x->w.cell? ⟨b,o+i,none⟩= some (.string x)):=I (fun i x hx=>by
     obtain⟨cs,_,hr,he⟩:=hc i x hx
     have:=hr 0 (.string x) (by rw[he.1];rfl)
     simpa using this)
    have ds:=(HBK.o.cell (p:=⟨b,o+k1,none⟩) hbl).trans (HCC.o k1 sk hsk)
    have HF2:=I (z5p sk)
    have HSK:=I hsk
    clear hc hbl hsk
    rcases Nat.eq_zero_or_pos k1 with hk0|hk0
    ·subst hk0
     have ds0:wr.cell? ⟨b,o,none⟩= some (.string sk):=ds
     have hlt0:(0:Int) <(ns.length:Int):=by omega
     have HV:=I (HR.o.symm.trans (H1.o sk HSK.o))
     clear HR
     generalize zK sk= nb at*
     cases nb with
     |false=>
      have HV2:Hid (res= false):=I (by rw[HRE.o,HV.o,Bool.false_and,Bool.false_and])
      clear HV
      go_wp2
      go_quiet ((go_at_call 94;exact Calls.quiet_of_same ((HF2.o _).mono fun e w' h=>⟨h.1,h.2⟩)))
      go_wp2
      go_ret
      exact⟨z7 HV2.o.symm,zI HBK.o _⟩
     |true=>
      have HV2:=I (HV.o.trans (Bool.true_and _))
      clear HV
      go_wp2
      go_quiet ((go_at_call 94;exact Calls.quiet_of_same ((HF2.o _).mono fun e w' h=>⟨h.1,h.2⟩)))
      go_wp2
      go_roundg q
      case measure=>omega
      case rel=>exact⟨1,by omega,by go_num,zI HBC.o _,HV2.o.symm⟩
    ·obtain⟨j,rfl⟩:∃ j,k1= j+1:=⟨k1 - 1,by omega⟩
     obtain⟨p,hp⟩:∃ p,ns[j]?= some p:=⟨_,List.getElem?_eq_getElem (by omega)⟩
     have HV:=I (HR.o.symm.trans (H2.o j p sk hp HSK.o))
     have dp:=(HBK.o.cell (p:=⟨b,o+j,none⟩) HBL.o).trans (HCC.o j p hp)
     have hpos:(0:Int) <((j+1:Nat):Int):=by omega
     have hj2:(j:Int) <(ns.length:Int):=by omega
     clear HR hp
     generalize zK sk= nb at*
     cases nb with
     |false=>
      have HV2:Hid (res= false):=I (by rw[HRE.o,HV.o,Bool.false_and,Bool.false_and])
      clear HV
      go_wp2
      go_quiet ((go_at_call 94;exact Calls.quiet_of_same ((HF2.o _).mono fun e w' h=>⟨h.1,h.2⟩)))
      go_wp2
      go_ret
      exact⟨z7 HV2.o.symm,zI HBK.o _⟩
     |true=>
      have HV2:=I (HV.o.trans (Bool.true_and _))
      clear HV
      cases hlt3:Op.bytesLess p.toList sk.toList with
      |false=>
       have HV3:Hid (res= false):=I (by rw[HRE.o,HV2.o,hlt3,Bool.false_and,Bool.false_and])
       go_wp2
       go_quiet ((go_at_call 94;exact Calls.quiet_of_same ((HF2.o _).mono fun e w' h=>⟨h.1,h.2⟩)))
       go_wp2
       go_ret
       exact⟨z7 HV3.o.symm,zI HBK.o _⟩
      |true=>
       have HV3:=I (HV2.o.trans (by rw[hlt3,Bool.true_and]))
       go_wp2
       go_quiet ((go_at_call 94;exact Calls.quiet_of_same ((HF2.o _).mono fun e w' h=>⟨h.1,h.2⟩)))
       go_wp2
       go_roundg q
       case measure=>omega
       case rel=>exact⟨j+2,by omega,by go_num,zI HBC.o _,HV3.o.symm⟩
theorem z8L (q:VT->Bool) (HR0:∀ v cs w,q v= true->ValAt w w.heap.size cs v->Calls Tryz.prog 21 #[.agg ⟨cs⟩] w fun e w'=>e= .returned (.bool (zp v))/\Below w.heap.size w w') (t:ET) (cs:List Value) (w:World) (hv:ExpAt w w.heap.size cs t) (hq:allC q t= true):Calls Tryz.prog 30 #[.agg ⟨cs⟩] w fun e w'=>e= .returned (.bool (zS t))/\Below w.heap.size w w':=by
 have HCL:=I (eslen hv)
 have HB:=I (zd w (.cells ⟨cs⟩ 29))
 have HR:=I (zv w cs 29)
 have HV:=I ((hv.under HB.o).more HB.o.size)
 have HS:=I (zw w (.cells ⟨cs⟩ 29))
 clear hv
 go_enter Tryz.func30,Tryz.ntmps30
 go_upto_region 1 with (fail)
 generalize w.alloc (.cells ⟨cs⟩ 29)= W at*
 have HC:=I (z4H t cs W HV.o)
 by_cases h:cntE t 0<=200
 ·have h2:(cntE t 0:Int)<=200:=by omega
  have HT:Hid (zS t= z01 t 1):=I (by unfold zS;rw[decide_eq_true h,Bool.true_and])
  clear h
  go_wp2_with (first|((with_reducible refine za 29 _ rfl ?_ w.heap.size 0 cs _ rfl HR.o Tryz.underlying29 rfl ?_ ?_);(exact wA rfl);rw[HCL.o];kernel_rfl)|(go_at_call 25;refine HC.o.mono ?_;rintro e z ⟨rfl,hb⟩;have HB2:=I hb;have HR2:=I (zc HR.o hb HS.o);clear hb)|((with_reducible refine za 29 _ rfl ?_ w.heap.size 0 cs _ rfl HR2.o Tryz.underlying29 rfl ?_ ?_);(exact wA rfl);rw[HCL.o];kernel_rfl)|(go_at_call 53;refine(z8o q HR0 t 12 1 cs z (by decide) ((HV.o.under HB2.o).more HB2.o.size) hq).mono ?_;rintro e z2 ⟨rfl,hb⟩;have HB3:=I hb;clear hb))
  go_ret
  exact⟨z7 HT.o.symm,(HB.o.trans (HB2.o.mono HB.o.size)).trans (HB3.o.mono (Nat.le_trans HB.o.size HB2.o.size))⟩
 ·have h2: ¬ (cntE t 0:Int)<=200:=by omega
  have HT:Hid (zS t= false):=I (by unfold zS;rw[decide_eq_false h];rfl)
  clear h
  go_wp2_with (first|((with_reducible refine za 29 _ rfl ?_ w.heap.size 0 cs _ rfl HR.o Tryz.underlying29 rfl ?_ ?_);(exact wA rfl);rw[HCL.o];kernel_rfl)|(go_at_call 25;refine HC.o.mono ?_;rintro e z ⟨rfl,hb⟩;have HB2:=I hb;clear hb))
  go_ret
  exact⟨z7 HT.o.symm,HB.o.trans (HB2.o.mono HB.o.size)⟩
end
section
open Go Go.RowKit
theorem z49 {a b:ByteArray} (h:a.data.toList= b.data.toList):a= b:=by
 obtain⟨⟨a⟩⟩:=a
 obtain⟨⟨b⟩⟩:=b
 have:a= b:=h
 rw[this]
def chrB (P:UInt8->Bool) (L:List UInt8) (i e:Nat):Bool:=(List.range (e - i)).all fun k=>(L[i+k]?.map P).getD false
theorem z0J {P:UInt8->Bool} {L:List UInt8} {i e:Nat} (h:chrB P L i e= true):z0i P L i e:=by
 intro k h1 h2
 unfold chrB at h
 rw[List.all_eq_true] at h
 have h3:=h (k - i) (by rw[List.mem_range];omega)
 rw[show i+ (k - i)= k by omega] at h3
 cases hc:L[k]? with
 |none=>rw[hc] at h3;cases h3
 |some c=>rw[hc] at h3;exact⟨c,rfl,by simpa using h3⟩
def stopB (P:UInt8->Bool) (L:List UInt8) (e:Nat):Bool:=(L[e]?.map fun c=> !P c).getD true
theorem z3a {P:UInt8->Bool} {L:List UInt8} {e:Nat} (h:stopB P L e= true):z1f P L e:=by
 intro c hc
 unfold stopB at h
 rw[hc] at h
 simpa using h
def isC (P:UInt8->Bool) (L:List UInt8) (i:Nat):Bool:=(L[i]?.map P).getD false
theorem z33 {P:UInt8->Bool} {L:List UInt8} {i:Nat} (h:isC P L i= true):∃ c,L[i]?= some c/\P c= true:=by
 unfold isC at h
 cases hc:L[i]? with
 |none=>rw[hc] at h;cases h
 |some c=>rw[hc] at h;exact⟨c,rfl,by simpa using h⟩
def numB (s:ByteArray) (p i e v:Nat):Bool:=decide (p<=i) && (decide (i < e) && (decide (e<=i+18) && (decide (e<=s.size) && (decide ((s.size:Int)<=2000) && (chrB z0a s.data.toList p i && (isC (fun c=> !z0a c && zH c) s.data.toList i && (chrB zH s.data.toList i e &&
 (stopB (fun c=>zH c ||(c.toNat:Int) ==112) s.data.toList e && (dvalN s.data.toList i (e - i) ==v)))))))))
theorem z1F (s:ByteArray) (p i e v:Nat) (h:numB s p i e v= true):NextC s p i ⟨2,i,e,(v:Nat),0,⟨#[]⟩⟩:=by
 unfold numB at h
 simp only[Bool.and_eq_true,decide_eq_true_eq,beq_iff_eq] at h
 obtain⟨h1,h2,h3,h4,h5,h6,h7,h8,h9,h10⟩:=h
 obtain⟨c,hc,hc2⟩:=z33 h7
 rw[Bool.and_eq_true] at hc2
 refine z5d s p i c _ h1 (by omega) h5 (z0J h6) hc (by simpa using hc2.1) hc2.2 fun w=> ?_
 have:=zaG s i e h2 h3 h4 h5 (z0J h8) (z3a h9) w
 rw[h10] at this
 exact this
def zbQ (s nm:ByteArray) (p i e:Nat):Bool:=decide (p<=i) && (decide (i < e) && (decide (e<=s.size) && (decide ((s.size:Int)<=2000) && (chrB z0a s.data.toList p i && (isC (fun c=> !z0a c && (!zH c && z1d c)) s.data.toList i && (chrB lxidC s.data.toList i e &&
 (stopB lxidC s.data.toList e && (((s.extract i e).data.toList ==nm.data.toList) && (decide ((nm.size:Int)<=30) && (!(nm.toList ==[110,97,110]) && !(nm.toList ==[105,110,102])))))))))))
theorem z1z (s nm:ByteArray) (p i e:Nat) (h:zbQ s nm p i e= true):NextC s p i ⟨5,i,e,0,0,nm⟩:=by
 unfold zbQ at h
 simp only[Bool.and_eq_true,decide_eq_true_eq,beq_iff_eq,Bool.not_eq_true'] at h
 obtain⟨h1,h2,h4,h5,h6,h7,h8,h9,h10,h11,h12,h13⟩:=h
 obtain⟨c,hc,hc2⟩:=z33 h7
 simp only[Bool.and_eq_true,Bool.not_eq_true'] at hc2
 exact zbs s p i c _ h1 (by omega) h5 (z0J h6) hc hc2.1 hc2.2.1 hc2.2.2 fun w=>z9L s nm i e h2 h4 h5 (z0J h8) (z3a h9) (z49 h10) h11 h12 h13 w
def signB (s one:ByteArray) (p i j:Nat):Bool:=decide (p<=i) && (decide (i < s.size) && (decide ((s.size:Int)<=2000) && (chrB z0a s.data.toList p i && (isC (fun c=> !z0a c && (!zH c && (!z1d c && !((c.toNat:Int) ==34)))) s.data.toList i && (((s.extract i (i+1)).data.toList ==one.data.toList) &&
 (!((s.extract i (min (i+2) s.size)).toList ==[61,61]) && (!((s.extract i (min (i+2) s.size)).toList ==[60,61]) && (!((s.extract i (min (i+2) s.size)).toList ==[38,38]) && (!((s.extract i (min (i+2) s.size)).toList ==[124,124]) &&
 (decide (j < 17) && ((List.range j).all (fun k=> !((pk k).toList ==one.toList)) && ((pk j).toList ==one.toList))))))))))))
theorem z0A (s one:ByteArray) (p i j:Nat) (h:signB s one p i j= true):NextC s p i ⟨6,i,(i:Int)+1,0,0,one⟩:=by
 unfold signB at h
 simp only[Bool.and_eq_true,decide_eq_true_eq,beq_iff_eq,Bool.not_eq_true',List.all_eq_true,List.mem_range] at h
 obtain⟨h1,h2,h5,h6,h7,h8,n1,n2,n3,n4,hj,hno,hyes⟩:=h
 obtain⟨c,hc,hc2⟩:=z33 h7
 simp only[Bool.and_eq_true,Bool.not_eq_true'] at hc2
 exact z6E s p i c _ h1 h2 h5 (z0J h6) hc hc2.1 hc2.2.1 hc2.2.2.1 hc2.2.2.2 fun w=>zaB s one _ i j h2 h5 (z49 h8) rfl n1 n2 n3 n4 hj (fun k hk=>hno k hk) (beq_iff_eq.2 hyes) w
theorem z2t (s:ByteArray) (p:Nat) (h:(decide (p<=s.size) && (decide ((s.size:Int)<=2000) && chrB z0a s.data.toList p s.size))= true):LexRun s p []:=by
 simp only[Bool.and_eq_true,decide_eq_true_eq] at h
 exact .stop p s.size _ (zbT s p h.1 h.2.1 (z0J h.2.2)) rfl
section
variable {pb tb c:Nat} {E:Int} {toks:List Tok} {i j h:Nat} {x:ET}
end
theorem z1D (s:ByteArray) (toks:List Tok) (t:ET) (h:Nat) (hsz:(s.size:Int)<=2000) (hlex:LexRun s 0 toks) (hlen:toks.length<=2000) (hne:0 < toks.length)
  (hp:∀ pb tb c,PCon pb tb c (s.size:Int) toks 98 0 toks.length h t) (hh:h<=100) (hr:zS t= true) (w:World) (hq:allC leafV t= true:=by decide +kernel):
  Calls Tryz.prog 57 #[.string s] w fun e w'=>∃ cs,e= .returned (.tuple #[.agg ⟨cs⟩,.int .i64 0,.int .i64 0])/\KeptP (fun b=>w.heap.size<=b) w' cs t/\Below w.heap.size w w':=
 zcL s toks t h hsz hlex hlen hne hp hh (fun cs w hv=>by have:=z8L leafV z7C t cs w hv hq;rw[hr] at this;exact this) w
end
section
open Go Go.RowKit
theorem zcF (s t2:ByteArray) (i:Nat) (hi:i+2<=s.size) (hsz:(s.size:Int)<=2000) (h2:s.extract i (i+2)= t2) (n1:(t2.toList ==[61,61])= true) (w:World):
  Calls Tryz.prog 180 #[.string s,.agg #[.int .i64 1,.int .i64 (i:Nat),.int .i64 (i:Nat),.int .i64 0,.float .f64 0,.string ⟨#[]⟩]] w fun r w'=>
   r= .returned (.tuple #[.agg #[.int .i64 6,.int .i64 (i:Nat),.int .i64 ((i:Int)+2),.int .i64 0,.float .f64 0,.string t2],.int .i64 0])/\Below w.heap.size w w':=by
 have hsf:∀ (W:World) (a:Addr),(store a (.float .f64 0)).run Tryz.prog W= stored Tryz.prog W a (.float .f64 0) .plain:=fun W a=>run_store _ _ _ _ _ rfl
 have hsl2:∀ W,(Instr.sliceAt 9 (.string s) (some (.int .i64 (i:Nat))) (some (.int .i64 ((i:Int)+2))) none).run Tryz.prog W= .ok (.string t2) W:=fun W=>z0Z s t2 i (i+2) (by omega) (by omega) h2 W
 have hm:((i:Int)+2)<=(s.size:Int):=by omega
 have hmin:min ((i:Int)+2) (s.size:Int)=(i:Int)+2:=by omega
 clear h2
 go_enter Tryz.func180,Tryz.ntmps180
 go_upto_region 2 with (fail)
 go_wp2
 (try simp only[Exit.inBlock,Exit.then])
 refine bodyPost_ret (z0b rfl _ _ (w.heap.size+1) #[.int .i64 6,.int .i64 (i:Nat),.int .i64 ((i:Int)+2),.int .i64 0,.float .f64 0,.string t2] rfl (.int .i64 0) rfl (heap_alloc2_new w _ _) rfl) rfl ?_
 exact⟨rfl,z0q w _ _⟩
theorem zcS (s t2:ByteArray) (i:Nat) (hi:i+2<=s.size) (hsz:(s.size:Int)<=2000) (h2:s.extract i (i+2)= t2) (n1:(t2.toList ==[61,61])= false) (n2:(t2.toList ==[60,61])= false) (n3:(t2.toList ==[38,38])= false) (n4:(t2.toList ==[124,124])= true) (w:World):
  Calls Tryz.prog 180 #[.string s,.agg #[.int .i64 1,.int .i64 (i:Nat),.int .i64 (i:Nat),.int .i64 0,.float .f64 0,.string ⟨#[]⟩]] w fun r w'=>
   r= .returned (.tuple #[.agg #[.int .i64 6,.int .i64 (i:Nat),.int .i64 ((i:Int)+2),.int .i64 0,.float .f64 0,.string t2],.int .i64 0])/\Below w.heap.size w w':=by
 have hsf:∀ (W:World) (a:Addr),(store a (.float .f64 0)).run Tryz.prog W= stored Tryz.prog W a (.float .f64 0) .plain:=fun W a=>run_store _ _ _ _ _ rfl
 have hsl2:∀ W,(Instr.sliceAt 9 (.string s) (some (.int .i64 (i:Nat))) (some (.int .i64 ((i:Int)+2))) none).run Tryz.prog W= .ok (.string t2) W:=fun W=>z0Z s t2 i (i+2) (by omega) (by omega) h2 W
 have hm:((i:Int)+2)<=(s.size:Int):=by omega
 have hmin:min ((i:Int)+2) (s.size:Int)=(i:Int)+2:=by omega
 clear h2
 go_enter Tryz.func180,Tryz.ntmps180
 go_upto_region 2 with (fail)
 go_wp2
 (try simp only[Exit.inBlock,Exit.then])
 refine bodyPost_ret (z0b rfl _ _ (w.heap.size+1) #[.int .i64 6,.int .i64 (i:Nat),.int .i64 ((i:Int)+2),.int .i64 0,.float .f64 0,.string t2] rfl (.int .i64 0) rfl (heap_alloc2_new w _ _) rfl) rfl ?_
 exact⟨rfl,z0q w _ _⟩
def zag (s t2:ByteArray) (p i:Nat):Bool:=decide (p<=i) && (decide (i+2<=s.size) && (decide ((s.size:Int)<=2000) && (chrB z0a s.data.toList p i && (isC (fun c=> !z0a c && (!zH c && (!z1d c && !((c.toNat:Int) ==34)))) s.data.toList i && (((s.extract i (i+2)).data.toList ==t2.data.toList) &&
 (t2.toList ==[61,61] || t2.toList ==[124,124]))))))
theorem z28 (s t2:ByteArray) (p i:Nat) (h:zag s t2 p i= true):NextC s p i ⟨6,i,(i:Int)+2,0,0,t2⟩:=by
 unfold zag at h
 simp only[Bool.and_eq_true,decide_eq_true_eq,beq_iff_eq,Bool.or_eq_true] at h
 obtain⟨h1,h2,h5,h6,h7,h8,h9⟩:=h
 obtain⟨c,hc,hc2⟩:=z33 h7
 simp only[Bool.and_eq_true,Bool.not_eq_true'] at hc2
 refine z6E s p i c _ h1 (by omega) h5 (z0J h6) hc hc2.1 hc2.2.1 hc2.2.2.1 hc2.2.2.2 fun w=> ?_
 rcases h9 with h9|h9
 ·exact zcF s t2 i h2 h5 (z49 h8) (by rw[h9];rfl) w
 ·exact zcS s t2 i h2 h5 (z49 h8) (by rw[h9];rfl) (by rw[h9];rfl) (by rw[h9];rfl) (by rw[h9];rfl) w
def zam (s:ByteArray) (p i e v:Nat):Bool:=decide (p<=i) && (decide (i < e) && (decide (e<=i+19) && (decide (e<=s.size) && (decide ((s.size:Int)<=2000) && (chrB z0a s.data.toList p i && (isC (fun c=> !z0a c && zH c) s.data.toList i && (chrB zH s.data.toList i e &&
 (stopB (fun c=>zH c ||(c.toNat:Int) ==112) s.data.toList e && ((dvalN s.data.toList i (e - i) ==v) && decide (v < 9223372036854775808))))))))))
theorem zby (s:ByteArray) (p i e v:Nat) (h:zam s p i e v= true):NextC s p i ⟨2,i,e,(v:Nat),0,⟨#[]⟩⟩:=by
 unfold zam at h
 simp only[Bool.and_eq_true,decide_eq_true_eq,beq_iff_eq] at h
 obtain⟨h1,h2,h3,h4,h5,h6,h7,h8,h9,h10,h11⟩:=h
 obtain⟨c,hc,hc2⟩:=z33 h7
 rw[Bool.and_eq_true] at hc2
 refine z5d s p i c _ h1 (by omega) h5 (z0J h6) hc (by simpa using hc2.1) hc2.2 fun w=> ?_
 have:=z6u s i e h2 h3 (by rw[h10];exact h11) h4 h5 (z0J h8) (z3a h9) w
 rw[h10] at this
 exact this
end
section
open Go Go.RowKit
theorem wput {T:TypeId} {w:World} {b:Nat} {cs:List Value} (h:Whole T w b cs) (i:Nat) (v:Value):Whole T (w.setCell ⟨b,i,none⟩ v) b (cs.set i v):=by
 unfold Whole at h ⊢
 simp[World.setCell,Array.getElem?_modify,h]
theorem wthaw {T:TypeId} {w:World} {b:Nat} {cs:List Value} (h:Whole T w b cs) (i:Nat):w.frozen? ⟨b,i,none⟩= false:=by
 unfold World.frozen?
 have h2:w.heap[b]?= some (.cells cs.toArray T):=h
 simp[h2]
theorem zdI (w:World) (ca cb:List Value):Whole 156 ((w.alloc (.cells ⟨ca⟩ 156)).alloc (.cells ⟨cb⟩ 156)) w.heap.size ca/\Whole 156 ((w.alloc (.cells ⟨ca⟩ 156)).alloc (.cells ⟨cb⟩ 156)) (w.heap.size+1) cb/\Below w.heap.size w ((w.alloc (.cells ⟨ca⟩ 156)).alloc (.cells ⟨cb⟩ 156)):=by
 have h1:=Whole.new w ca 156
 have h2:=zd w (.cells ⟨ca⟩ 156)
 have hs:(w.alloc (.cells ⟨ca⟩ 156)).heap.size= w.heap.size+1:=by simp
 generalize w.alloc (.cells ⟨ca⟩ 156)= W1 at*
 have h3:=Whole.new W1 cb 156
 have h4:=zd W1 (.cells ⟨cb⟩ 156)
 rw[hs] at h3
 exact⟨h1.keep (h4.block _ (by omega)),h3,h2.trans (h4.mono (by omega))⟩
theorem zdz (w:World):Calls Tryz.prog 221 #[.string ⟨#[48,112,48]⟩] w fun e w'=>e= .returned (.tuple #[.int .u64 0,.int .i64 1,.string ⟨#[112,48]⟩])/\Below w.heap.size w w':=by
 have hsl:∀ W,(Instr.sliceAt 9 (.string ⟨#[48,112,48]⟩) (some (.int .i64 1)) none none).run Tryz.prog W= .ok (.string ⟨#[112,48]⟩) W:=fun W=>by kernel_rfl
 go_enter Tryz.func221,Tryz.ntmps221
 go_upto_region 3 with (fail)
 go_loopg [5,6] 1 (fun q x y u=>u= w/\x= .int .u64 0/\((q= 1/\y= .int .i64 0)\/(q= 0/\y= .int .i64 1)))
 case atStart=>exact⟨rfl,rfl,.inl ⟨rfl,rfl⟩⟩
 case round=>
  obtain⟨rfl,rfl,⟨rfl,rfl⟩|⟨rfl,rfl⟩⟩:=hrel
  ·go_wp2
   go_roundg 0
   case measure=>omega
   case rel=>exact⟨rfl,rfl,.inr ⟨rfl,rfl⟩⟩
  ·go_wp2
   refine zB [(0,true),(1,true),(2,true),(3,true),(4,true),(5,true),(6,true),(7,true)] (fun z=>Below wr.heap.size wr z) (by kernel_rfl) (by kernel_rfl) (by kernel_rfl) rfl (by intro c a d v w h;cases d<;>exact h) ?_
   have hs:Below wr.heap.size wr wr.drew:=(Below.refl _ _).drew
   refine zg (some 34) (.int .u64 0) _ _ rfl rfl rfl (by exact wA rfl) hs rfl ?_
   go_frame
   refine zg (some 35) (.int .i64 1) _ _ rfl rfl rfl (by exact wA rfl) hs rfl ?_
   go_frame
   refine zg (some 36) (.string ⟨#[48,112,48]⟩) _ _ rfl rfl rfl (by exact wA rfl) hs rfl ?_
   go_frame
   refine zg (some 37) (.int .i64 1) _ _ rfl rfl rfl (by exact wA rfl) hs rfl ?_
   go_frame
   refine z8 (some 38) (.string ⟨#[112,48]⟩) _ rfl rfl (by exact wA rfl) hs (fun z hz=>by go_simp) ?_
   go_frame
   refine z0Q (some 2) (.int .u64 0) _ _ rfl rfl rfl (by exact wA rfl) hs rfl ?_
   go_frame
   refine z0Q (some 3) (.int .i64 1) _ _ rfl rfl rfl (by exact wA rfl) hs rfl ?_
   go_frame
   refine z0Q (some 4) (.string ⟨#[112,48]⟩) _ _ rfl rfl rfl (by exact wA rfl) hs rfl ?_
   go_frame
   refine z08 ?_
   go_wp2
   (try simp only[Exit.inBlock,Exit.then])
   refine bodyPost_ret (results_tmp3 rfl _ _ _) rfl ?_
   exact⟨rfl,hs⟩
theorem zdQ (w:World):Calls Tryz.prog 221 #[.string ⟨#[48]⟩] w fun e w'=>e= .returned (.tuple #[.int .u64 0,.int .i64 1,.string ⟨#[]⟩])/\Below w.heap.size w w':=by
 have hsl:∀ W,(Instr.sliceAt 9 (.string ⟨#[48]⟩) (some (.int .i64 1)) none none).run Tryz.prog W= .ok (.string ⟨#[]⟩) W:=fun W=>by kernel_rfl
 go_enter Tryz.func221,Tryz.ntmps221
 go_upto_region 3 with (fail)
 go_loopg [5,6] 1 (fun q x y u=>u= w/\x= .int .u64 0/\((q= 1/\y= .int .i64 0)\/(q= 0/\y= .int .i64 1)))
 case atStart=>exact⟨rfl,rfl,.inl ⟨rfl,rfl⟩⟩
 case round=>
  obtain⟨rfl,rfl,⟨rfl,rfl⟩|⟨rfl,rfl⟩⟩:=hrel
  ·go_wp2
   go_roundg 0
   case measure=>omega
   case rel=>exact⟨rfl,rfl,.inr ⟨rfl,rfl⟩⟩
  ·go_wp2
   refine zB [(0,true),(1,true),(2,true),(3,true),(4,true),(5,true),(6,true),(7,true)] (fun z=>Below wr.heap.size wr z) (by kernel_rfl) (by kernel_rfl) (by kernel_rfl) rfl (by intro c a d v w h;cases d<;>exact h) ?_
   have hs:Below wr.heap.size wr wr.drew:=(Below.refl _ _).drew
   refine zg (some 34) (.int .u64 0) _ _ rfl rfl rfl (by exact wA rfl) hs rfl ?_
   go_frame
   refine zg (some 35) (.int .i64 1) _ _ rfl rfl rfl (by exact wA rfl) hs rfl ?_
   go_frame
   refine zg (some 36) (.string ⟨#[48]⟩) _ _ rfl rfl rfl (by exact wA rfl) hs rfl ?_
   go_frame
   refine zg (some 37) (.int .i64 1) _ _ rfl rfl rfl (by exact wA rfl) hs rfl ?_
   go_frame
   refine z8 (some 38) (.string ⟨#[]⟩) _ rfl rfl (by exact wA rfl) hs (fun z hz=>by go_simp) ?_
   go_frame
   refine z0Q (some 2) (.int .u64 0) _ _ rfl rfl rfl (by exact wA rfl) hs rfl ?_
   go_frame
   refine z0Q (some 3) (.int .i64 1) _ _ rfl rfl rfl (by exact wA rfl) hs rfl ?_
   go_frame
   refine z0Q (some 4) (.string ⟨#[]⟩) _ _ rfl rfl rfl (by exact wA rfl) hs rfl ?_
   go_frame
   refine z08 ?_
   go_wp2
   (try simp only[Exit.inBlock,Exit.then])
   refine bodyPost_ret (results_tmp3 rfl _ _ _) rfl ?_
   exact⟨rfl,hs⟩
theorem zaw (w:World):Calls Tryz.prog 165 #[.bool false,.int .u64 0,.int .i64 0] w fun e w'=>e= .returned (.tuple #[.float .f64 0,.int .i64 0])/\w'= w:=by
 have e1:∀ W:World,(callFunc 149 #[.int .u64 0]).run Tryz.prog W= .ok (.value (.float .f64 0)) W:=fun W=>by
  rw[run_callFunc_extern Tryz.func149 (by kernel_rfl) (by kernel_rfl) (by kernel_rfl) (e:=Extern.MathFloatBits.float64frombits) (by kernel_rfl)]
  rfl
 go_enter Tryz.func165,Tryz.ntmps165
 go_upto_region 3 with (fail)
 go_loopg [1,2] 0 (fun q x y u=>u= w/\x= .int .u64 0/\y= .int .i64 0)
 case atStart=>exact⟨rfl,rfl,rfl⟩
 case round=>
  obtain⟨rfl,rfl,rfl⟩:=hrel
  go_wp2
  go_ret2
  exact⟨rfl,rfl⟩
theorem z4u (w:World):Calls Tryz.prog 203 #[.string ⟨#[48,112,48]⟩] w fun e w'=>e= .returned (.tuple #[.float .f64 0,.int .i64 0])/\Below w.heap.size w w':=by
 have hsl:∀ W,(Instr.sliceAt 9 (.string ⟨#[112,48]⟩) (some (.int .i64 1)) none none).run Tryz.prog W= .ok (.string ⟨#[48]⟩) W:=fun W=>by kernel_rfl
 go_enter Tryz.func203,Tryz.ntmps203
 go_wp2_with (first|(go_at_call 221;first|((with_reducible refine(zdz _).mono ?_);rintro e z ⟨rfl,hb⟩;have HB1:=I hb;clear hb)|((with_reducible refine(zdQ _).mono ?_);rintro e z ⟨rfl,hb⟩;have HB2:=I hb;clear hb))|(go_at_call 165;refine(zaw _).mono ?_;rintro e z ⟨rfl,hzw⟩;rw[hzw];clear hzw z))
 go_ret2
 exact⟨rfl,HB1.o.trans (HB2.o.mono HB1.o.size)⟩
theorem zbC (s nm:ByteArray) (i m e f:Nat) (him:i < m) (hme:m+1 < e) (he:e<=s.size) (hsz:(s.size:Int)<=2000) (hc:z0i zH s.data.toList i m) (hp:s.data.toList[m]?= some 112) (hc2:z0i zH s.data.toList (m+1) e)
  (hs:z1f zH s.data.toList e) (hx:s.extract i e= nm) (hf:(Lit.float .f64 f).wf= true) (HP:∀ w,Calls Tryz.prog 203 #[.string nm] w fun e w'=>e= .returned (.tuple #[.float .f64 f,.int .i64 0])/\Below w.heap.size w w') (w:World):
  Calls Tryz.prog 176 #[.string s,.agg #[.int .i64 1,.int .i64 (i:Nat),.int .i64 (i:Nat),.int .i64 0,.float .f64 0,.string ⟨#[]⟩]] w fun r w'=>
   r= .returned (.tuple #[.agg #[.int .i64 3,.int .i64 (i:Nat),.int .i64 (e:Nat),.int .i64 0,.float .f64 f,.string ⟨#[]⟩],.int .i64 0])/\Below w.heap.size w w':=by
 have hm112:z1f zH s.data.toList m:=fun c h=>by rw[hp] at h;injection h with h;subst h;decide
 have HR1:=I (fun w=>z3T s i m (by omega) (by omega) hsz hc hm112 w)
 have HR2:=I (fun w=>z3T s (m+1) e (by omega) he hsz hc2 hs w)
 obtain⟨c3,hc3,hd3⟩:=hc2 (m+1) (Nat.le_refl _) (by omega)
 have dk:=fun h=>z0d (k:=m) (c:=112) hp h
 have dk3:=fun h=>z0d (k:=m+1) (c:=c3) hc3 h
 have h45:((c3.toNat:Int) ==45)= false:=by have:=z3k hd3;simp;omega
 have hl1:(m:Int) <(s.size:Int):=by omega
 have hl2:((m:Int)+1) <(s.size:Int):=by omega
 have hne:((e:Int) ==(m:Int)+1)= false:=by simp;omega
 have hne2: ¬ ((e:Int)=(m:Int)+1):=by omega
 have hsl:∀ W,(Instr.sliceAt 9 (.string s) (some (.int .i64 (i:Nat))) (some (.int .i64 (e:Nat))) none).run Tryz.prog W= .ok (.string nm) W:=fun W=>z0Z s nm i e (by omega) he hx W
 have hsf:∀ (W:World) (a:Addr) (f:Nat),(store a (.float .f64 f)).run Tryz.prog W= stored Tryz.prog W a (.float .f64 f) .plain:=fun W a f=>run_store _ _ _ _ _ rfl
 clear hc hp hc2 hs hx hm112 hc3 hd3
 go_enter Tryz.func176,Tryz.ntmps176
 go_upto_region 2 with (go_at_call 202;refine(HR1.o _).mono ?_;rintro r z ⟨rfl,rfl⟩)
 go_upto_region 7 with (go_at_call 202;refine(HR2.o _).mono ?_;rintro r z ⟨rfl,rfl⟩)
 go_upto_region 9 with (fail)
 have HW:=I (zdI w [.int .i64 1,.int .i64 (i:Nat),.int .i64 (e:Nat),.int .i64 0,.float .f64 0,.string ⟨#[]⟩] [.int .i64 0,.int .i64 0,.int .i64 0,.int .i64 0,.float .f64 0,.string ⟨#[]⟩])
 generalize (w.alloc (.cells #[.int .i64 1,.int .i64 (i:Nat),.int .i64 (e:Nat),.int .i64 0,.float .f64 0,.string ⟨#[]⟩] 156)).alloc (.cells #[.int .i64 0,.int .i64 0,.int .i64 0,.int .i64 0,.float .f64 0,.string ⟨#[]⟩] 156)= V at*
 have c1:V.cell? ⟨w.heap.size,1,none⟩= some (.int .i64 (i:Nat)):=HW.o.1.cells 1 rfl
 have c2:V.cell? ⟨w.heap.size,2,none⟩= some (.int .i64 (e:Nat)):=HW.o.1.cells 2 rfl
 have HPP:=I (HP V)
 clear HP
 go_upto_region 10 with (go_at_call 203;refine HPP.o.mono ?_;rintro e2 z ⟨rfl,hb⟩;have HBZ:=I hb;clear hb)
 have HZ1:=I (HW.o.1.keep (HBZ.o.block _ HW.o.1.lt))
 have HZ2:=I (HW.o.2.1.keep (HBZ.o.block _ HW.o.2.1.lt))
 have HBW:=I (HW.o.2.2.trans (HBZ.o.mono HW.o.2.2.size))
 clear c1 c2
 have d0:z.cell? ⟨w.heap.size,0,none⟩= some (.int .i64 1):=HZ1.o.cells 0 rfl
 have d4:z.cell? ⟨w.heap.size,4,none⟩= some (.float .f64 0):=HZ1.o.cells 4 rfl
 have f0:z.frozen? ⟨w.heap.size,0,none⟩= false:=wthaw HZ1.o 0
 have f4:z.frozen? ⟨w.heap.size,4,none⟩= false:=wthaw HZ1.o 4
 go_upto_region 12 with (fail)
 have HN1:Hid (Whole 156 ((z.setCell ⟨w.heap.size,0,none⟩ (.int .i64 3)).setCell ⟨w.heap.size,4,none⟩ (.float .f64 f)) w.heap.size [.int .i64 3,.int .i64 (i:Nat),.int .i64 (e:Nat),.int .i64 0,.float .f64 f,.string ⟨#[]⟩]):=I (wput (wput HZ1.o 0 (.int .i64 3)) 4 (.float .f64 f))
 have HN2:Hid (Whole 156 ((z.setCell ⟨w.heap.size,0,none⟩ (.int .i64 3)).setCell ⟨w.heap.size,4,none⟩ (.float .f64 f)) (w.heap.size+1) [.int .i64 0,.int .i64 0,.int .i64 0,.int .i64 0,.float .f64 0,.string ⟨#[]⟩]):=I ((HZ2.o.keep (Below.heap_setCell z ⟨w.heap.size,0,none⟩ _ _ (by show w.heap.size+1≠w.heap.size;omega))).keep (Below.heap_setCell _ ⟨w.heap.size,4,none⟩ _ _ (by show w.heap.size+1≠w.heap.size;omega)))
 have HNB:Hid (Below w.heap.size w ((z.setCell ⟨w.heap.size,0,none⟩ (.int .i64 3)).setCell ⟨w.heap.size,4,none⟩ (.float .f64 f))):=I (z1L (vs:=[.float .f64 f]) (z1L (vs:=[.int .i64 3]) HBW.o (Nat.le_refl _) 0) (Nat.le_refl _) 4)
 generalize (z.setCell ⟨w.heap.size,0,none⟩ (.int .i64 3)).setCell ⟨w.heap.size,4,none⟩ (.float .f64 f)= V2 at*
 clear d0 d4 f0 f4
 have HRG:=I HN1.o.range
 go_wp2_with (first|((with_reducible refine za 156 _ rfl ?_ w.heap.size 0 [.int .i64 3,.int .i64 (i:Nat),.int .i64 (e:Nat),.int .i64 0,.float .f64 f,.string ⟨#[]⟩] _ ?_ HRG.o Tryz.underlying156 rfl ?_ ?_);(exact wA rfl);rfl;kernel_rfl)|((with_reducible refine ze 156 _ _ rfl rfl ?_ (w.heap.size+1) [.int .i64 0,.int .i64 0,.int .i64 0,.int .i64 0,.float .f64 0,.string ⟨#[]⟩] [.int .i64 3,.int .i64 (i:Nat),.int .i64 (e:Nat),.int .i64 0,.float .f64 f,.string ⟨#[]⟩] HN2.o ?_ ?_ ?_ ?_ ?_ ?_);(exact wA rfl);rfl;rfl;rfl;kernel_rfl;exact z0x ⟨3,i,e,0,f,⟨#[]⟩⟩;intro Z2 hz hb;have HT4:=I hz;have HTB:=I hb;clear hz hb))
 (try simp only[Exit.inBlock,Exit.then])
 refine bodyPost_ret (z0b rfl _ _ (w.heap.size+1) #[.int .i64 3,.int .i64 (i:Nat),.int .i64 (e:Nat),.int .i64 0,.float .f64 f,.string ⟨#[]⟩] rfl (.int .i64 0) rfl HT4.o rfl) rfl ?_
 exact⟨rfl,HNB.o.trans (HTB.o.below (B:=w.heap.size) HNB.o.size (by omega) (by omega))⟩
def fltB (s nm:ByteArray) (p i m e:Nat):Bool:=decide (p<=i) && (decide (i < m) && (decide (m+1 < e) && (decide (e<=s.size) && (decide ((s.size:Int)<=2000) && (chrB z0a s.data.toList p i && (isC (fun c=> !z0a c && zH c) s.data.toList i && (chrB zH s.data.toList i m &&
 ((s.data.toList[m]? ==some 112) && (chrB zH s.data.toList (m+1) e && (stopB zH s.data.toList e && ((s.extract i e).data.toList ==nm.data.toList)))))))))))
theorem z4p (s nm:ByteArray) (p i m e f:Nat) (h:fltB s nm p i m e= true) (hf:(Lit.float .f64 f).wf= true) (HP:∀ w,Calls Tryz.prog 203 #[.string nm] w fun e w'=>e= .returned (.tuple #[.float .f64 f,.int .i64 0])/\Below w.heap.size w w'):NextC s p i ⟨3,i,e,0,f,⟨#[]⟩⟩:=by
 unfold fltB at h
 simp only[Bool.and_eq_true,decide_eq_true_eq,beq_iff_eq] at h
 obtain⟨h1,h2,h3,h4,h5,h6,h7,h8,h9,h10,h11,h12⟩:=h
 obtain⟨c,hc,hc2⟩:=z33 h7
 rw[Bool.and_eq_true] at hc2
 exact z5d s p i c _ h1 (by omega) h5 (z0J h6) hc (by simpa using hc2.1) hc2.2 fun w=>zbC s nm i m e f h2 h3 h4 h5 (z0J h8) h9 (z0J h10) (z3a h11) (z49 h12) hf HP w
end
section
open Go Go.RowKit
theorem zbN:∀ (t:ET),allC (fun _=>true) t= true:=by
 intro t
 induction t using ET.ind with
 |h k s v ns its ih=>
  rw[allC,Bool.or_true,Bool.true_and]
  clear k s v ns
  induction its with
  |nil=>rw[allCL]
  |cons a l ihl=>
   rw[allCL,ih a (by simp),ihl fun x hx=>ih x (by simp[hx])]
   rfl
theorem zdq (t:ET) (cs:List Value) (w:World) (hv:ExpAt w w.heap.size cs t):Calls Tryz.prog 30 #[.agg ⟨cs⟩] w fun e w'=>e= .returned (.bool (zS t))/\Below w.heap.size w w':=
 z8L (fun _=>true) (fun v cs w _ hv=>z3B v cs w hv) t cs w hv (zbN t)
end
end Go.Proofs.YtmpbepjjbaeebaaGreatDoor
