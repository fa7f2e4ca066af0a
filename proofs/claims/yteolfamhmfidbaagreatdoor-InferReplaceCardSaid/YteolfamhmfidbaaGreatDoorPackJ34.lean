/- Parts of a proof: Gath. -/
import Derived.Maps.OwnOps
import Derived.StringKeys
import Derived.Test.YteolfamhmfidbaaGreatDoorPackJ3
import Derived.Test.YteolfamhmfidbaaGreatDoorPackJ9
set_option maxHeartbeats 8000000
set_option maxRecDepth 100000
set_option linter.unusedVariables false
set_option linter.unusedSimpArgs false
namespace Go.Proofs.YteolfamhmfidbaaGreatDoor
open Go Go.RowKit
theorem law9:Go.Maps.Keyed Tryz.prog 9:=Go.Maps.string_keyed Tryz.underlying9
theorem zgl (w:World):(zeroValue 3).run Tryz.prog w= .ok (.int .i64 0) w:=by kernel_rfl
def MapK (w:World) (mb q:Nat) (S:List (List UInt8)):Prop:=∃ D:DataW Unit,w.ownsMap Tryz.prog 9 (Go.plainElem Tryz.prog 3) mb q D/\∀ x,Go.Maps.has D (.string x)= true↔x∈S
theorem z7k {l:List ET} {n:Nat} (h:500<=n):cntEL l n= n:=by
 cases l with
 |nil=>rw[cntEL]
 |cons a l=>rw[cntEL,if_pos h]
open Go.Maps in
theorem zeN {D:DataW Unit} (hD:IsMap D) {S:List (List UInt8)} (h:∀ x,has D (.string x)= true↔x∈S) (s:List UInt8) (d:DataW Unit):∀ x,has (D.put (.string s) d) (.string x)= true↔x∈S ++ [s]:=fun x=>by
 rw[List.mem_append,List.mem_singleton]
 by_cases he:x= s
 ·subst he
  exact⟨fun _=>Or.inr rfl,fun _=>has_put_same (k:=Lit.string x) hD trivial d⟩
 ·rw[has_put_other (by intro h2;injection h2 with h2;exact he h2),h]
  exact⟨Or.inl,fun h2=>h2.resolve_right he⟩
theorem zam:∀ (t:ET) (n:Nat) (cs:List Value) (p o mb:Nat) (S:List (List UInt8)) (w:World),n < 500->w.rangeAt p o cs->p < mb->ExpAt w mb cs t->MapK w mb n S->
  Calls Tryz.prog 50 #[.pointer (some ⟨p,o,none⟩),.map (some mb),.int .i64 n] w fun e w'=>e= .returned (.int .i64 (cntE t n:Nat))/\MapK w' mb (cntE t n) (S ++ (visE t n).map fun s=>s.data.toList)/\Below mb w w':=by
 intro t
 induction t using ET.ind with
 |h k s v ns its ih=>
  intro n cs p o mb S w hn hr hp hv hmk
  have IH:=I ih
  obtain⟨v0,v1,v2,v3,v4,v5,vn,vi,rfl,_,hs,_,_,hil,hi⟩:=hv.inv
  obtain⟨_,A,c,rfl,hA⟩:=hi
  have HA:=I hA
  have d0:w.cell? ⟨p,o,none⟩= some (.int .i64 k):=hr 0 _ rfl
  have d1:w.cell? ⟨p,o+1,none⟩= some (.string s):=hr 1 _ rfl
  have d9:w.cell? ⟨p,o+9,none⟩= some (.slice A its.length c):=hr 9 _ rfl
  have D9:=I d9
  have HPL:=I hp
  unfold maxLen at hil
  have H0:Hid (cntEL (its.drop 0) (n+1)= cntE (.mk k s v ns its) n):=I (by rw[cntE];rfl)
  have HVD:Hid (visE (.mk k s v ns its) n=(if k= 2 then[s] else[]) ++ visEL (its.drop 0) (n+1)):=I (by rw[visE];rfl)
  have hn2:(n:Int) < 500:=by omega
  generalize cntE (.mk k s v ns its) n= res at*
  generalize visE (.mk k s v ns its) n= vis at*
  by_cases hk:k= 2
  ·subst hk
   obtain⟨D,hown,hhas⟩:=hmk
   have HOWN:=I hown
   have HHAS:=I hhas
   have HKEY:Hid (keyOf Tryz.prog 9 (.string s)= some (.string s.data.toList)):=I (Go.WideMaps.keyOf_string_mk Tryz.underlying9 hs)
   have HNM:Hid (n < maxLen):=I (by unfold maxLen;omega)
   have HVS:Hid ([s] ++ visEL (its.drop 0) (n+1)= vis):=I (by have:=HVD.o;rw[if_pos rfl] at this;exact this.symm)
   clear ih hA hr hv hp hs hown hhas
   go_enter Tryz.func50,Tryz.ntmps50
   go_upto_region 4 with (first|(at_lookup;refine wpList_lookup_own_int _ rfl _ _ 100 rfl 9 3 .i64 law9 Tryz.underlying100 Tryz.underlying3 (zgl _) mb n D rfl HOWN.o _ _ rfl HKEY.o ?_;intro cc hat hwc;clear hat hwc)|(at_mapUpdate;refine wpList_mapUpdate_own _ rfl _ _ _ 100 rfl 9 3 law9 Tryz.underlying100 _ mb n _ rfl HOWN.o HNM.o _ _ _ rfl rfl HKEY.o _ [] (plainElem_int Tryz.underlying3 (wrap64_wf _)) ?_;intro w1 hown1 hgrow1;have HM1:=I hown1;have HG1:=I hgrow1;clear hown1 hgrow1))
   have HBS:Hid (Below mb w w1):=I ((Below.refl mb w).grown HG1.o (Nat.le_of_lt HOWN.o.lt) (fun j hj=>by cases hj;exact Nat.le_refl _))
   have HMS:Hid (MapK w1 mb (n+1) (S ++ [s].map fun s=>s.data.toList)):=I ⟨_,HM1.o,zeN HOWN.o.isMap HHAS.o _ _⟩
   have d9:=(HBS.o.cell (p:=⟨p,o+9,none⟩) HPL.o).trans D9.o
   clear d0 d1
   go_upto_region 5 with (fail)
   go_loopg [2,27] its.length (fun g u i wr=>∃ (j m:Nat) (L:List ByteArray),j+g= its.length/\i= .int .i64 j/\u= .int .i64 m/\m<=500/\Below mb w wr/\cntEL (its.drop j) m= res/\MapK wr mb m (S ++ L.map fun s=>s.data.toList)/\L ++ visEL (its.drop j) m= vis)
   case atStart=>exact⟨0,n+1,[s],by omega,rfl,by go_num,by omega,HBS.o,H0.o,HMS.o,HVS.o⟩
   case round=>
    obtain⟨j,m,L,hj,rfl,rfl,hm5,hb,hres,hmk,hvis⟩:=hrel
    have HB1:=I hb
    have HR:=I hres
    have HMK:=I hmk
    have HVI:=I hvis
    have d9:=(hb.cell (p:=⟨p,o+9,none⟩) HPL.o).trans D9.o
    clear hb hres hmk hvis
    have hm5':(m:Int)<=500:=by omega
    cases gk with
    |zero=>
     obtain rfl:j= its.length:=by omega
     have hge: ¬ ((its.length:Int) <(its.length:Int)):=by omega
     have HV:=I (HR.o.symm.trans (z2H (l:=its) (m:=m)))
     have HL:Hid (L= vis):=I (by have:=HVI.o;rw[z77,List.append_nil] at this;exact this)
     go_wp2
     go_ret
     exact⟨by rw[HV.o];rfl,by rw[HV.o,← HL.o];exact HMK.o,HB1.o⟩
    |succ g=>
     have hlt:(j:Int) <(its.length:Int):=by omega
     by_cases h0:m < 500
     ·obtain⟨y,hy⟩:∃ y,its[j]?= some y:=⟨_,List.getElem?_eq_getElem (by omega)⟩
      obtain⟨b,ob,rfl,hbb,hc⟩:=HA.o (by omega)
      obtain⟨cs,hcl,hr,hR⟩:=hc j y hy
      have HV2:=I (HR.o.symm.trans ((z22 hy).trans (if_neg (by omega))))
      have HVI2:Hid ((L ++ visE y m) ++ visEL (its.drop (j+1)) (cntE y m)= vis):=I (by have h1:=z5n (n:=m) hy;rw[if_neg (by omega)] at h1;rw[List.append_assoc,← h1];exact HVI.o)
      have HC:=I (IH.o y (List.mem_of_getElem? hy) m cs b (ob+j*10) mb (S ++ L.map fun s=>s.data.toList) wr h0 (za hr HB1.o hbb) hbb (hR.under HB1.o) HMK.o)
      have hle:=z1i y m h0
      have h0': ¬ ((500:Int)<=(m:Int)):=by omega
      clear hc hr hR hy hcl h0
      go_wp2_with (go_at_call 50;refine HC.o.mono ?_;rintro e w4 ⟨rfl,h1,h2⟩;have HM4:=I h1;have HB4:=I h2;clear h1 h2)
      go_roundg g
      case measure=>omega
      case rel=>exact⟨j+1,_,L ++ visE y m,by omega,by go_num,rfl,hle,HB1.o.trans HB4.o,HV2.o.symm,by have:=HM4.o;rw[List.map_append,← List.append_assoc];exact this,HVI2.o⟩
     ·have hm500:m= 500:=by omega
      subst hm500
      have HV2:Hid (res= 500):=I (HR.o.symm.trans (z7k (by omega)))
      have HL:Hid (L= vis):=I (by have:=HVI.o;rw[z7h (by omega),List.append_nil] at this;exact this)
      clear h0 hm5'
      go_wp2
      go_ret
      exact⟨by rw[HV2.o];rfl,by rw[HV2.o,← HL.o];exact HMK.o,HB1.o⟩
  ·have hkn: ¬ k= 2:=hk
   have hkb:(k ==2)= false:=by rw[beq_eq_false_iff_ne];exact hk
   have HVS:Hid ([] ++ visEL (its.drop 0) (n+1)= vis):=I (by have:=HVD.o;rw[if_neg hk] at this;exact this.symm)
   have HBS:Hid (Below mb w w):=I (Below.refl _ _)
   have HMS:Hid (MapK w mb (n+1) (S ++ ([]:List ByteArray).map fun s=>s.data.toList)):=I (by
    obtain⟨D,hown,hhas⟩:=hmk
    exact⟨D,hown.mono (by omega),by rw[List.map_nil,List.append_nil];exact hhas⟩)
   clear ih hA hr hv hp hs hk hmk
   go_enter Tryz.func50,Tryz.ntmps50
   go_upto_region 5 with (fail)
   go_loopg [2,27] its.length (fun g u i wr=>∃ (j m:Nat) (L:List ByteArray),j+g= its.length/\i= .int .i64 j/\u= .int .i64 m/\m<=500/\Below mb w wr/\cntEL (its.drop j) m= res/\MapK wr mb m (S ++ L.map fun s=>s.data.toList)/\L ++ visEL (its.drop j) m= vis)
   case atStart=>exact⟨0,n+1,[],by omega,rfl,by go_num,by omega,HBS.o,H0.o,HMS.o,HVS.o⟩
   case round=>
    obtain⟨j,m,L,hj,rfl,rfl,hm5,hb,hres,hmk,hvis⟩:=hrel
    have HB1:=I hb
    have HR:=I hres
    have HMK:=I hmk
    have HVI:=I hvis
    have d9:=(hb.cell (p:=⟨p,o+9,none⟩) HPL.o).trans D9.o
    clear hb hres hmk hvis
    have hm5':(m:Int)<=500:=by omega
    cases gk with
    |zero=>
     obtain rfl:j= its.length:=by omega
     have hge: ¬ ((its.length:Int) <(its.length:Int)):=by omega
     have HV:=I (HR.o.symm.trans (z2H (l:=its) (m:=m)))
     have HL:Hid (L= vis):=I (by have:=HVI.o;rw[z77,List.append_nil] at this;exact this)
     go_wp2
     go_ret
     exact⟨by rw[HV.o];rfl,by rw[HV.o,← HL.o];exact HMK.o,HB1.o⟩
    |succ g=>
     have hlt:(j:Int) <(its.length:Int):=by omega
     by_cases h0:m < 500
     ·obtain⟨y,hy⟩:∃ y,its[j]?= some y:=⟨_,List.getElem?_eq_getElem (by omega)⟩
      obtain⟨b,ob,rfl,hbb,hc⟩:=HA.o (by omega)
      obtain⟨cs,hcl,hr,hR⟩:=hc j y hy
      have HV2:=I (HR.o.symm.trans ((z22 hy).trans (if_neg (by omega))))
      have HVI2:Hid ((L ++ visE y m) ++ visEL (its.drop (j+1)) (cntE y m)= vis):=I (by have h1:=z5n (n:=m) hy;rw[if_neg (by omega)] at h1;rw[List.append_assoc,← h1];exact HVI.o)
      have HC:=I (IH.o y (List.mem_of_getElem? hy) m cs b (ob+j*10) mb (S ++ L.map fun s=>s.data.toList) wr h0 (za hr HB1.o hbb) hbb (hR.under HB1.o) HMK.o)
      have hle:=z1i y m h0
      have h0': ¬ ((500:Int)<=(m:Int)):=by omega
      clear hc hr hR hy hcl h0
      go_wp2_with (go_at_call 50;refine HC.o.mono ?_;rintro e w4 ⟨rfl,h1,h2⟩;have HM4:=I h1;have HB4:=I h2;clear h1 h2)
      go_roundg g
      case measure=>omega
      case rel=>exact⟨j+1,_,L ++ visE y m,by omega,by go_num,rfl,hle,HB1.o.trans HB4.o,HV2.o.symm,by have:=HM4.o;rw[List.map_append,← List.append_assoc];exact this,HVI2.o⟩
     ·have hm500:m= 500:=by omega
      subst hm500
      have HV2:Hid (res= 500):=I (HR.o.symm.trans (z7k (by omega)))
      have HL:Hid (L= vis):=I (by have:=HVI.o;rw[z7h (by omega),List.append_nil] at this;exact this)
      clear h0 hm5'
      go_wp2
      go_ret
      exact⟨by rw[HV2.o];rfl,by rw[HV2.o,← HL.o];exact HMK.o,HB1.o⟩
end Go.Proofs.YteolfamhmfidbaaGreatDoor
