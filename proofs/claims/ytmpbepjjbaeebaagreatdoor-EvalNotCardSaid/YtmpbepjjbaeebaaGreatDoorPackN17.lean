/- Parts of a proof: ENamed, RSmallE. -/
import Derived.Test.YtmpbepjjbaeebaaGreatDoorPackN3
import Derived.Test.YtmpbepjjbaeebaaGreatDoorPackN8
import Derived.Test.YtmpbepjjbaeebaaGreatDoorPackN9
import Derived.Test.YtmpbepjjbaeebaaGreatDoorPackN14
import Derived.Test.YtmpbepjjbaeebaaGreatDoorPackN16
set_option maxHeartbeats 8000000
set_option maxRecDepth 100000
set_option linter.unusedVariables false
set_option linter.unusedSimpArgs false
section
namespace Go.Proofs.YtmpbepjjbaeebaaGreatDoor
open Go Go.RowKit
open Go.Lib (hid)
def riseF:Option ByteArray→List ByteArray→Bool
 |_,[]=>true
 |none,s::l=>zH s && riseF (some s) l
 |some p,s::l=>zH s && (Op.bytesLess p.toList s.toList && riseF (some s) l)
theorem z4s {l:List ByteArray} {s:ByteArray} (h:l[0]?= some s):riseF (prevK l 0) (l.drop 0)=(zH s && riseF (prevK l 1) (l.drop 1)):=by
 rw[z0p h]
 show(zH s && riseF (some s) (l.drop 1))= _
 unfold prevK
 simp[h]
theorem z5v {l:List ByteArray} {k:Nat} {p s:ByteArray} (hp:l[k]?= some p) (h:l[k+1]?= some s):riseF (prevK l (k+1)) (l.drop (k+1))=(zH s && (Op.bytesLess p.toList s.toList && riseF (prevK l (k+2)) (l.drop (k+2)))):=by
 rw[z0p h]
 have h1:prevK l (k+1)= some p:=by unfold prevK;simp[hp]
 have h2:prevK l (k+2)= some s:=by unfold prevK;simp[h]
 rw[h1,h2]
 rfl
theorem z6M {l:List ByteArray}:riseF (prevK l l.length) (l.drop l.length)= true:=by
 rw[List.drop_eq_nil_of_le (Nat.le_refl _)];rw[riseF]
def zF (k:Int) (s:ByteArray) (ns:List ByteArray) (nk:Nat):Bool:=
 if k= 2 then !wordB s && (zH s && ((ns.length:Int) ==0))
 else if k= 18 then zH s && ((ns.length:Int) ==0)
 else if k= 17 then riseF none ns && (s.toList.isEmpty && ((ns.length:Int) ==(nk:Int)))
 else s.toList.isEmpty && ((ns.length:Int) ==0)
theorem zdT (p o:Nat) (sx:ByteArray) (v0 v1 v2 v3 v4 v5:Value) (A K:Option Addr) (c nk kc:Nat) (l:List ByteArray) (w:World) (hr:w.rangeAt p o [.int .i64 18,.string sx,v0,v1,v2,v3,v4,v5,.slice A l.length c,.slice K nk kc]) (hv:SlAt w w.heap.size 1 StrR (.slice A l.length c) l):
  Calls Tryz.prog 106 #[.pointer (some ⟨p,o,none⟩)] w fun e w'=>e= .returned (.bool (zF (18) sx l nk))∧Below w.heap.size w w':=by
 have d0:w.cell? ⟨p,o,none⟩= some (.int .i64 18):=hr 0 _ rfl
 have d1:w.cell? ⟨p,o+1,none⟩= some (.string sx):=hr 1 _ rfl
 have d8:w.cell? ⟨p,o+8,none⟩= some (.slice A l.length c):=hr 8 _ rfl
 have d9:w.cell? ⟨p,o+9,none⟩= some (.slice K nk kc):=hr 9 _ rfl
 have HPL:Hid (p < w.heap.size):=hid (z2n d0)
 have D8:=hid d8
 clear hr hv d8
 have d8:=D8.out
 have HFD:=hid (fun w=>z3s sx w)
 cases hf:zH sx with
 |false=>
  have HR:Hid (zF 18 sx l nk= false):=hid (by unfold zF;rw[if_neg (by decide),if_pos rfl];rw[hf];rfl)
  rw[hf] at HFD
  skip
  clear hf
  go_enter Tryz.func106,Tryz.ntmps106
  go_wp2_with (go_at_call 148;refine(HFD.out _).mono ?_;rintro e z ⟨rfl,hb⟩;have HB:=hid hb;have e8:=(hb.cell (p:=⟨p,o+8,none⟩) HPL.out).trans D8.out;clear hb)
  go_ret
  exact⟨za HR.out.symm,HB.out⟩
 |true=>
  cases hl:((l.length:Int) ==0) with
  |true=>
   have HR:Hid (zF 18 sx l nk= true):=hid (by unfold zF;rw[if_neg (by decide),if_pos rfl];rw[hf,hl];rfl)
   rw[hf] at HFD
   skip
   clear hf
   go_enter Tryz.func106,Tryz.ntmps106
   go_wp2_with (go_at_call 148;refine(HFD.out _).mono ?_;rintro e z ⟨rfl,hb⟩;have HB:=hid hb;have e8:=(hb.cell (p:=⟨p,o+8,none⟩) HPL.out).trans D8.out;clear hb)
   go_ret
   exact⟨za HR.out.symm,HB.out⟩
  |false=>
   have HR:Hid (zF 18 sx l nk= false):=hid (by unfold zF;rw[if_neg (by decide),if_pos rfl];rw[hf,hl];rfl)
   rw[hf] at HFD
   skip
   clear hf
   go_enter Tryz.func106,Tryz.ntmps106
   go_wp2_with (go_at_call 148;refine(HFD.out _).mono ?_;rintro e z ⟨rfl,hb⟩;have HB:=hid hb;have e8:=(hb.cell (p:=⟨p,o+8,none⟩) HPL.out).trans D8.out;clear hb)
   go_ret
   exact⟨za HR.out.symm,HB.out⟩
theorem zeA (p o:Nat) (sx:ByteArray) (v0 v1 v2 v3 v4 v5:Value) (A K:Option Addr) (c nk kc:Nat) (l:List ByteArray) (w:World) (hr:w.rangeAt p o [.int .i64 2,.string sx,v0,v1,v2,v3,v4,v5,.slice A l.length c,.slice K nk kc]) (hv:SlAt w w.heap.size 1 StrR (.slice A l.length c) l):
  Calls Tryz.prog 106 #[.pointer (some ⟨p,o,none⟩)] w fun e w'=>e= .returned (.bool (zF (2) sx l nk))∧Below w.heap.size w w':=by
 have d0:w.cell? ⟨p,o,none⟩= some (.int .i64 2):=hr 0 _ rfl
 have d1:w.cell? ⟨p,o+1,none⟩= some (.string sx):=hr 1 _ rfl
 have d8:w.cell? ⟨p,o+8,none⟩= some (.slice A l.length c):=hr 8 _ rfl
 have d9:w.cell? ⟨p,o+9,none⟩= some (.slice K nk kc):=hr 9 _ rfl
 have HPL:Hid (p < w.heap.size):=hid (z2n d0)
 have D8:=hid d8
 clear hr hv d8
 have d8:=D8.out
 have HWD:=hid (fun w=>zbw sx w)
 cases hw:wordB sx with
 |true=>
  have HR:Hid (zF 2 sx l nk= false):=hid (by unfold zF;rw[if_pos rfl,hw];rfl)
  rw[hw] at HWD
  clear hw
  go_enter Tryz.func106,Tryz.ntmps106
  go_wp2_with (go_at_call 147;refine(HWD.out _).mono ?_;rintro e z ⟨rfl,rfl⟩)
  go_ret
  exact⟨za HR.out.symm,Below.refl _ _⟩
 |false=>
  have HFD:=hid (fun w=>z3s sx w)
  cases hf:zH sx with
  |false=>
   have HR:Hid (zF 2 sx l nk= false):=hid (by unfold zF;rw[if_pos rfl];rw[hw,hf];rfl)
   rw[hf] at HFD
   rw[hw] at HWD
   clear hf hw
   go_enter Tryz.func106,Tryz.ntmps106
   go_wp2_with (first|(go_at_call 148;refine(HFD.out _).mono ?_;rintro e z ⟨rfl,hb⟩;have HB:=hid hb;have e8:=(hb.cell (p:=⟨p,o+8,none⟩) HPL.out).trans D8.out;clear hb)|(go_at_call 147;refine(HWD.out _).mono ?_;rintro e z ⟨rfl,rfl⟩))
   go_ret
   exact⟨za HR.out.symm,HB.out⟩
  |true=>
   cases hl:((l.length:Int) ==0) with
   |true=>
    have HR:Hid (zF 2 sx l nk= true):=hid (by unfold zF;rw[if_pos rfl];rw[hw,hf,hl];rfl)
    rw[hf] at HFD
    rw[hw] at HWD
    clear hf hw
    go_enter Tryz.func106,Tryz.ntmps106
    go_wp2_with (first|(go_at_call 148;refine(HFD.out _).mono ?_;rintro e z ⟨rfl,hb⟩;have HB:=hid hb;have e8:=(hb.cell (p:=⟨p,o+8,none⟩) HPL.out).trans D8.out;clear hb)|(go_at_call 147;refine(HWD.out _).mono ?_;rintro e z ⟨rfl,rfl⟩))
    go_ret
    exact⟨za HR.out.symm,HB.out⟩
   |false=>
    have HR:Hid (zF 2 sx l nk= false):=hid (by unfold zF;rw[if_pos rfl];rw[hw,hf,hl];rfl)
    rw[hf] at HFD
    rw[hw] at HWD
    clear hf hw
    go_enter Tryz.func106,Tryz.ntmps106
    go_wp2_with (first|(go_at_call 148;refine(HFD.out _).mono ?_;rintro e z ⟨rfl,hb⟩;have HB:=hid hb;have e8:=(hb.cell (p:=⟨p,o+8,none⟩) HPL.out).trans D8.out;clear hb)|(go_at_call 147;refine(HWD.out _).mono ?_;rintro e z ⟨rfl,rfl⟩))
    go_ret
    exact⟨za HR.out.symm,HB.out⟩
theorem zeJ (k:Int) (h2:k≠2) (h17:k≠17) (h18:k≠18) (p o:Nat) (sx:ByteArray) (v0 v1 v2 v3 v4 v5:Value) (A K:Option Addr) (c nk kc:Nat) (l:List ByteArray) (w:World) (hr:w.rangeAt p o [.int .i64 k,.string sx,v0,v1,v2,v3,v4,v5,.slice A l.length c,.slice K nk kc]) (hv:SlAt w w.heap.size 1 StrR (.slice A l.length c) l):
  Calls Tryz.prog 106 #[.pointer (some ⟨p,o,none⟩)] w fun e w'=>e= .returned (.bool (zF k sx l nk))∧Below w.heap.size w w':=by
 have d0:w.cell? ⟨p,o,none⟩= some (.int .i64 k):=hr 0 _ rfl
 have d1:w.cell? ⟨p,o+1,none⟩= some (.string sx):=hr 1 _ rfl
 have d8:w.cell? ⟨p,o+8,none⟩= some (.slice A l.length c):=hr 8 _ rfl
 have d9:w.cell? ⟨p,o+9,none⟩= some (.slice K nk kc):=hr 9 _ rfl
 have HPL:Hid (p < w.heap.size):=hid (z2n d0)
 have D8:=hid d8
 have e2:(k ==2)= false:=by rw[beq_eq_false_iff_ne];exact h2
 have e17:(k ==17)= false:=by rw[beq_eq_false_iff_ne];exact h17
 have e18:(k ==18)= false:=by rw[beq_eq_false_iff_ne];exact h18
 have HU:Hid (zF k sx l nk=(sx.toList.isEmpty && ((l.length:Int) ==0))):=hid (by unfold zF;rw[if_neg h2,if_neg h18,if_neg h17])
 clear hr hv h2 h17 h18
 cases hs:sx.toList.isEmpty with
 |false=>
  have HR:=hid (HU.out.trans (by rw[hs];rfl:_= false))
  go_enter Tryz.func106,Tryz.ntmps106
  go_wp2
  go_ret
  exact⟨za HR.out.symm,Below.refl _ _⟩
 |true=>
  cases hl:((l.length:Int) ==0) with
  |false=>
   have HR:=hid (HU.out.trans (by rw[hs,hl];rfl:_= false))
   go_enter Tryz.func106,Tryz.ntmps106
   go_wp2
   go_ret
   exact⟨za HR.out.symm,Below.refl _ _⟩
  |true=>
   have HR:=hid (HU.out.trans (by rw[hs,hl];rfl:_= true))
   go_enter Tryz.func106,Tryz.ntmps106
   go_wp2
   go_ret
   exact⟨za HR.out.symm,Below.refl _ _⟩
theorem zdi (p o:Nat) (sx:ByteArray) (v0 v1 v2 v3 v4 v5:Value) (A K:Option Addr) (c nk kc:Nat) (l:List ByteArray) (w:World) (hr:w.rangeAt p o [.int .i64 17,.string sx,v0,v1,v2,v3,v4,v5,.slice A l.length c,.slice K nk kc]) (hv:SlAt w w.heap.size 1 StrR (.slice A l.length c) l):
  Calls Tryz.prog 106 #[.pointer (some ⟨p,o,none⟩)] w fun e w'=>e= .returned (.bool (zF (17) sx l nk))∧Below w.heap.size w w':=by
 have d0:w.cell? ⟨p,o,none⟩= some (.int .i64 17):=hr 0 _ rfl
 have d1:w.cell? ⟨p,o+1,none⟩= some (.string sx):=hr 1 _ rfl
 have d8:w.cell? ⟨p,o+8,none⟩= some (.slice A l.length c):=hr 8 _ rfl
 have d9:w.cell? ⟨p,o+9,none⟩= some (.slice K nk kc):=hr 9 _ rfl
 have HPL:Hid (p < w.heap.size):=hid (z2n d0)
 have D8:=hid d8
 obtain⟨_,hl,ha⟩:=z22 hv
 have HA:=hid ha
 have H1:=hid (fun s=>z4s (l:=l) (s:=s))
 have H2:=hid (fun k p s=>z5v (l:=l) (k:=k) (p:=p) (s:=s))
 have HE:=hid (z6M (l:=l))
 have HU:Hid (zF 17 sx l nk=(riseF none l && (sx.toList.isEmpty && ((l.length:Int) ==(nk:Int))))):=hid (by unfold zF;rw[if_neg (by decide),if_neg (by decide),if_pos rfl])
 have H0:Hid (riseF (prevK l 0) (l.drop 0)= riseF none l):=hid rfl
 have hl2:(l.length:Int)≤9223372036854775807:=by omega
 have D1:=hid d1
 have D9:=hid d9
 clear ha hv hr
 obtain⟨res,hres0⟩:∃ res,riseF none l= res:=⟨_,rfl⟩
 have HRES:=hid hres0
 rw[hres0] at H0
 clear hres0
 go_enter Tryz.func106,Tryz.ntmps106
 go_upto_region 9 with (fail)
 go_loopg [38] l.length (fun q x u=>∃ k:Nat,k+q= l.length∧x= .int .i64 k∧Below w.heap.size w u∧riseF (prevK l k) (l.drop k)= res)
 case atStart=>exact⟨0,by omega,rfl,Below.refl _ _,H0.out⟩
 case round=>
  obtain⟨k,hk,rfl,hb,hres⟩:=hrel
  have HR:=hid hres
  have HBK:=hid hb
  clear hres hb
  cases gk with
  |zero=>
   obtain rfl:k= l.length:=by omega
   have hge: ¬ ((l.length:Int) <(l.length:Int)):=by omega
   have HV:=hid (HR.out.symm.trans HE.out)
   have x1:=(HBK.out.cell (p:=⟨p,o+1,none⟩) HPL.out).trans D1.out
   have x8:=(HBK.out.cell (p:=⟨p,o+8,none⟩) HPL.out).trans D8.out
   have x9:=(HBK.out.cell (p:=⟨p,o+9,none⟩) HPL.out).trans D9.out
   clear HR
   cases hs:sx.toList.isEmpty with
   |false=>
    have HR2:Hid (zF 17 sx l nk= false):=hid (by rw[HU.out,HRES.out,HV.out,hs];rfl)
    go_upto_region 14 with (fail)
    go_quiet (fail)
    go_wp2
    go_ret
    exact⟨za HR2.out.symm,HBK.out.trans ⟨rfl,rfl,rfl,Nat.le_refl _,fun _ _=>rfl⟩⟩
   |true=>
    cases hl:((l.length:Int) ==(nk:Int)) with
    |false=>
     have HR2:Hid (zF 17 sx l nk= false):=hid (by rw[HU.out,HRES.out,HV.out,hs,hl];rfl)
     go_upto_region 14 with (fail)
     go_quiet (fail)
     go_wp2
     go_ret
     exact⟨za HR2.out.symm,HBK.out.trans ⟨rfl,rfl,rfl,Nat.le_refl _,fun _ _=>rfl⟩⟩
    |true=>
     have HR2:Hid (zF 17 sx l nk= true):=hid (by rw[HU.out,HRES.out,HV.out,hs,hl];rfl)
     go_upto_region 14 with (fail)
     go_quiet (fail)
     go_wp2
     go_ret
     exact⟨za HR2.out.symm,HBK.out.trans ⟨rfl,rfl,rfl,Nat.le_refl _,fun _ _=>rfl⟩⟩
  |succ q=>
   have hlt:(k:Int) <(l.length:Int):=by omega
   obtain⟨s,hs⟩:∃ s,l[k]?= some s:=⟨_,List.getElem?_eq_getElem (by omega)⟩
   obtain⟨b,oo,rfl,hbl,hc⟩:=HA.out (by omega)
   have HCC:=hid (fun i x hx=>(hc i x hx).1)
   have HBL:=hid hbl
   have ds:=(HBK.out.cell (p:=⟨b,oo+k,none⟩) hbl).trans (hc k s hs).1
   have HNM:=hid (z3s s wr)
   have HSK:=hid hs
   clear hc hbl hs
   rcases Nat.eq_zero_or_pos k with hk0|hk0
   ·subst hk0
    have ds0:wr.cell? ⟨b,oo,none⟩= some (.string s):=ds
    have hlt0:(0:Int) <(l.length:Int):=by omega
    have HV:=hid (HR.out.symm.trans (H1.out s HSK.out))
    clear HR
    generalize zH s= nb at*
    cases nb with
    |false=>
     have HV2:Hid (res= false):=hid (HV.out.trans (Bool.false_and _))
     clear HV
     go_wp2_with (go_at_call 148;refine HNM.out.mono ?_;rintro e z ⟨rfl,hbz⟩;have HB3:=hid hbz;clear hbz)
     go_ret
     exact⟨za (by rw[HU.out,HRES.out,HV2.out];rfl),HBK.out.trans (HB3.out.mono HBK.out.size)⟩
    |true=>
     have HV2:=hid (HV.out.trans (Bool.true_and _))
     clear HV
     go_wp2_with (go_at_call 148;refine HNM.out.mono ?_;rintro e z ⟨rfl,hbz⟩;have HB3:=hid hbz;clear hbz)
     go_roundg q
     case measure=>omega
     case rel=>exact⟨1,by omega,by go_num,HBK.out.trans (HB3.out.mono HBK.out.size),HV2.out.symm⟩
   ·obtain⟨j,rfl⟩:∃ j,k= j+1:=⟨k - 1,by omega⟩
    obtain⟨pn,hp⟩:∃ pn,l[j]?= some pn:=⟨_,List.getElem?_eq_getElem (by omega)⟩
    have HV:=hid (HR.out.symm.trans (H2.out j pn s hp HSK.out))
    have HDP:=hid (HCC.out j pn hp)
    have hpos:(0:Int) <((j+1:Nat):Int):=by omega
    have hj2:(j:Int) <(l.length:Int):=by omega
    clear HR hp
    generalize zH s= nb at*
    cases nb with
    |false=>
     have HV2:Hid (res= false):=hid (HV.out.trans (Bool.false_and _))
     clear HV
     go_wp2_with (go_at_call 148;refine HNM.out.mono ?_;rintro e z ⟨rfl,hbz⟩;have HB3:=hid hbz;clear hbz)
     go_ret
     exact⟨za (by rw[HU.out,HRES.out,HV2.out];rfl),HBK.out.trans (HB3.out.mono HBK.out.size)⟩
    |true=>
     have HV2:=hid (HV.out.trans (Bool.true_and _))
     clear HV
     cases hlt3:Op.bytesLess pn.toList s.toList with
     |false=>
      have HV3:Hid (res= false):=hid (HV2.out.trans (by rw[hlt3];exact Bool.false_and _))
      go_wp2_with (go_at_call 148;refine HNM.out.mono ?_;rintro e z ⟨rfl,hbz⟩;have HB3:=hid hbz;have x8:=((HBK.out.trans (hbz.mono HBK.out.size)).cell (p:=⟨p,o+8,none⟩) HPL.out).trans D8.out;have dp:=(((HBK.out.trans (hbz.mono HBK.out.size)).cell (p:=⟨b,oo+j,none⟩) HBL.out)).trans HDP.out;clear hbz)
      go_ret
      exact⟨za (by rw[HU.out,HRES.out,HV3.out];rfl),HBK.out.trans (HB3.out.mono HBK.out.size)⟩
     |true=>
      have HV3:=hid (HV2.out.trans (by rw[hlt3,Bool.true_and]))
      go_wp2_with (go_at_call 148;refine HNM.out.mono ?_;rintro e z ⟨rfl,hbz⟩;have HB3:=hid hbz;have x8:=((HBK.out.trans (hbz.mono HBK.out.size)).cell (p:=⟨p,o+8,none⟩) HPL.out).trans D8.out;have dp:=(((HBK.out.trans (hbz.mono HBK.out.size)).cell (p:=⟨b,oo+j,none⟩) HBL.out)).trans HDP.out;clear hbz)
      go_roundg q
      case measure=>omega
      case rel=>exact⟨j+2,by omega,by go_num,HBK.out.trans (HB3.out.mono HBK.out.size),HV3.out.symm⟩
theorem zaK (k:Int) (p o:Nat) (sx:ByteArray) (v0 v1 v2 v3 v4 v5:Value) (A K:Option Addr) (c nk kc:Nat) (l:List ByteArray) (w:World) (hr:w.rangeAt p o [.int .i64 k,.string sx,v0,v1,v2,v3,v4,v5,.slice A l.length c,.slice K nk kc]) (hv:SlAt w w.heap.size 1 StrR (.slice A l.length c) l):
  Calls Tryz.prog 106 #[.pointer (some ⟨p,o,none⟩)] w fun e w'=>e= .returned (.bool (zF k sx l nk))∧Below w.heap.size w w':=by
 rcases Classical.em (k= 2) with rfl|h2
 ·exact zeA p o sx v0 v1 v2 v3 v4 v5 A K c nk kc l w hr hv
 rcases Classical.em (k= 17) with rfl|h17
 ·exact zdi p o sx v0 v1 v2 v3 v4 v5 A K c nk kc l w hr hv
 rcases Classical.em (k= 18) with rfl|h18
 ·exact zdT p o sx v0 v1 v2 v3 v4 v5 A K c nk kc l w hr hv
 exact zeJ k h2 h17 h18 p o sx v0 v1 v2 v3 v4 v5 A K c nk kc l w hr hv
end Go.Proofs.YtmpbepjjbaeebaaGreatDoor
end
section
namespace Go.Proofs.YtmpbepjjbaeebaaGreatDoor
open Go Go.RowKit
open Go.Lib (hid)
theorem zez:∀ (x:ET) (far:Nat) (cs:List Value) (w:World),far≤40→ExpAt w w.heap.size cs x→Calls Tryz.prog 24 #[.agg ⟨cs⟩,.int .i64 far] w (z6d w):=by
 intro x
 induction x using ET.ind with
 |h k s t ns its ih=>
  intro far cs w hfar hv
  obtain⟨v0,v1,v2,v3,v4,v5,vn,vi,rfl,_,_,_,_,hil,hi⟩:=hv.inv
  obtain⟨_,A,c,rfl,hA⟩:=hi
  have HA:=hid hA
  have IH:=hid ih
  unfold maxLen at hil
  clear hA hv ih
  go_enter Tryz.func24,Tryz.ntmps24
  go_upto_region 1 with (fail)
  have hb0:=zc w (.cells ⟨[.int .i64 k,.string s,v0,v1,v2,v3,v4,v5,vn,.slice A its.length c]⟩ 29)
  have hz0:=zC w (.cells ⟨[.int .i64 k,.string s,v0,v1,v2,v3,v4,v5,vn,.slice A its.length c]⟩ 29)
  have c5:=zr w ⟨[.int .i64 k,.string s,v0,v1,v2,v3,v4,v5,vn,.slice A its.length c]⟩ 29 9
  generalize w.alloc (.cells ⟨[.int .i64 k,.string s,v0,v1,v2,v3,v4,v5,vn,.slice A its.length c]⟩ 29)= W at*
  have HB:=hid hb0
  have C5:=hid c5
  have HSZ:=hid hz0
  clear hb0 c5 hz0
  go_wp2
  go_loopg [5,6] its.length (fun g m i wr=>∃ (j:Nat) (x:Int),j+g= its.length∧i= .int .i64 j∧m= .int .i64 x∧Below W.heap.size W wr)
  case atStart=>exact⟨0,0,by omega,rfl,rfl,Below.refl _ _⟩
  case round=>
   obtain⟨j,x,hj,rfl,rfl,hb⟩:=hrel
   have HB1:=hid hb
   have d5:=(hb.cell (p:=⟨w.heap.size,9,none⟩) HSZ.out).trans C5.out
   clear hb
   simp only[List.getElem?_toArray,List.getElem?_cons_succ,List.getElem?_cons_zero] at d5
   cases gk with
   |zero=>
    have hge: ¬ ((j:Int) <(its.length:Int)):=by omega
    go_wp2
    go_ret
    exact⟨_,rfl,HB.out.trans (HB1.out.mono HB.out.size)⟩
   |succ g=>
    have hlt:(j:Int) <(its.length:Int):=by omega
    by_cases h0:far= 0
    ·subst h0
     go_wp2
     go_ret
     exact⟨_,rfl,HB.out.trans (HB1.out.mono HB.out.size)⟩
    ·have hpos:(0:Int) <(far:Int):=by omega
     have hz2:w.heap.size≤wr.heap.size:=Nat.le_trans HB.out.size HB1.out.size
     obtain⟨y,hy⟩:∃ y,its[j]?= some y:=⟨_,List.getElem?_eq_getElem (by omega)⟩
     obtain⟨b,o,rfl,hbb,hc⟩:=HA.out (by omega)
     obtain⟨cs,hcl,hr,hR⟩:=hc j y hy
     have hB2:=HB.out.trans (HB1.out.mono HB.out.size)
     have HR:=hid (zd hr hB2 hbb)
     have HC:=hid (IH.out y (List.mem_of_getElem? hy) (far - 1) cs wr (by omega) ((hR.under hB2).more hB2.size))
     have HCL:=hid hcl
     have hf1:((far - 1:Nat):Int)=(far:Int) - 1:=by omega
     clear hc hr hR hB2 hy hcl h0
     rw[hf1] at HC
     clear hf1
     go_wp2_with (first|(with_reducible refine z8 29 _ rfl ?hw b (o+j*10) cs _ rfl HR.out Tryz.underlying29 rfl ?hi ?_;(case hw=>exact wantA rfl);(case hi=>rw[HCL.out];kernel_rfl))|(go_at_call 24;refine HC.out.mono ?_;rintro e w' ⟨z,rfl,hb⟩;have HB2:=hid hb;clear hb))
     all_goals
      go_roundg g
      case measure=>omega
      case rel=>exact⟨j+1,_,by omega,by go_num,rfl,HB1.out.trans (HB2.out.mono HB1.out.size)⟩
theorem z8H (t:ET) (cs:List Value) (w:World) (hv:ExpAt w w.heap.size cs t):Calls Tryz.prog 25 #[.agg ⟨cs⟩] w (z4O w):=
 (z1c t cs w hv).mono fun e w' ⟨h,hb⟩=>⟨(cntE t 0:Nat),by omega,by have:=z2T t 0 (by omega);omega,h,hb⟩
theorem z7P:∀ (x:ET) (cs:List Value) (w:World),ExpAt w w.heap.size cs x→Calls Tryz.prog 11 #[.agg ⟨cs⟩] w (z5a w):=by
 intro x
 induction x using ET.ind with
 |h k s t ns its ih=>
  intro cs w hv
  have HV:=hid hv
  have HCL:=hid (eslen hv)
  obtain⟨v0,v1,v2,v3,v4,v5,vn,vi,hcs,_,_,ht,_,hil,hi⟩:=hv.inv
  obtain⟨_,A,c,rfl,hA⟩:=hi
  have HA:=hid hA
  have IH:=hid ih
  have HT:=hid ht
  have HCS:=hid hcs
  unfold maxLen at hil
  clear hA hv ih ht hcs
  go_enter Tryz.func11,Tryz.ntmps11
  go_upto_region 1 with (fail)
  have HB:=hid (zc w (.cells ⟨cs⟩ 29))
  have HR:=hid (zu w cs 29)
  have HSZ:=hid (zC w (.cells ⟨cs⟩ 29))
  generalize w.alloc (.cells ⟨cs⟩ 29)= W at*
  have HR2:Hid (∀ z:World,Below W.heap.size W z→z.rangeAt w.heap.size 0 cs∧z.rangeAt w.heap.size 2 [v0,v1,v2,v3,v4,v5]∧z.cell? ⟨w.heap.size,9,none⟩= some (.slice A its.length c)):=hid fun z hz=>by
   have hr:=zd HR.out hz HSZ.out
   refine⟨hr,?_,?_⟩
   ·rw[HCS.out] at hr
    exact z3I (p:=[.int .i64 k,.string s]) (cs:=[v0,v1,v2,v3,v4,v5]) (q:=[vn,.slice A its.length c]) hr 2 rfl
   ·rw[HCS.out] at hr
    exact z5g hr 9 rfl
  have HC:=hid (zez (.mk k s t ns its) 40 cs W (by omega) ((HV.out.under HB.out).more HB.out.size))
  go_wp2_with (first|(with_reducible refine z8 29 _ rfl ?hw w.heap.size 0 cs _ rfl HR.out Tryz.underlying29 rfl ?hi ?_;(case hw=>exact wantA rfl);(case hi=>rw[HCL.out];kernel_rfl))|(go_at_call 24;fail))
  refine HC.out.mono ?_
  rintro e w2 ⟨z,rfl,hb⟩
  have HB2:=hid hb
  have HRZ:=hid (HR2.out w2 hb).1
  have HB2':=hid (HB.out.trans (hb.mono HB.out.size))
  have HC2:=hid (z8H (.mk k s t ns its) cs w2 ((HV.out.under HB2'.out).more HB2'.out.size))
  clear hb HC
  by_cases hz:z≤30
  ·have hz':decide ((30:Int) < z)= false:=by simp;omega
   go_wp2_with (first|(with_reducible refine z8 29 _ rfl ?hw w.heap.size 0 cs _ rfl HRZ.out Tryz.underlying29 rfl ?hi ?_;(case hw=>exact wantA rfl);(case hi=>rw[HCL.out];kernel_rfl))|(go_at_call 25;fail))
   refine HC2.out.mono ?_
   rintro e w3 ⟨y,hy0,hy1,rfl,hb⟩
   have HB3:=hid (HB2.out.trans (hb.mono HB2.out.size))
   have HRY:=hid (HR2.out w3 HB3.out).2.1
   have HB3':=hid (HB.out.trans (HB3.out.mono HB.out.size))
   have HC3:=hid (zbd t [v0,v1,v2,v3,v4,v5] w3 ((HT.out.under HB3'.out).more HB3'.out.size))
   clear hb HC2 HRZ HB2 HB2'
   by_cases hy:y < 500
   ·have hy':decide ((500:Int)≤y)= false:=by simp;omega
    go_wp2_with (first|(with_reducible refine z8 26 _ rfl ?hw w.heap.size 2 [v0,v1,v2,v3,v4,v5] _ rfl HRY.out Tryz.underlying26 rfl ?hi ?_;(case hw=>exact wantA rfl);(case hi=>kernel_rfl))|(go_at_call 20;fail))
    refine HC3.out.mono ?_
    rintro e w4 ⟨q,rfl,hb⟩
    have HB4:=hid (HB3.out.trans (hb.mono HB3.out.size))
    have HB4':=hid (HB.out.trans (HB4.out.mono HB.out.size))
    clear hb HC3 HRY HB3 HB3'
    cases q with
    |false=>
     go_wp2
     go_ret
     exact⟨_,rfl,HB4'.out⟩
    |true=>
     go_wp2
     go_loopg [3] its.length (fun g i wr=>∃ j:Nat,j+g= its.length∧i= .int .i64 j∧Below W.heap.size W wr)
     case atStart=>exact⟨0,by omega,rfl,HB4.out⟩
     case round=>
      obtain⟨j,hj,rfl,hb⟩:=hrel
      have HB5:=hid hb
      have HB5':=hid (HB.out.trans (hb.mono HB.out.size))
      have d9:=(HR2.out wr hb).2.2
      clear hb
      cases gk with
      |zero=>
       have hge: ¬ ((j:Int) <(its.length:Int)):=by omega
       go_wp2
       go_ret
       exact⟨_,rfl,HB5'.out⟩
      |succ g=>
       have hlt:(j:Int) <(its.length:Int):=by omega
       obtain⟨y,hy⟩:∃ y,its[j]?= some y:=⟨_,List.getElem?_eq_getElem (by omega)⟩
       obtain⟨b,o,rfl,hbb,hc⟩:=HA.out (by omega)
       obtain⟨ks,hcl,hr,hR⟩:=hc j y hy
       have HRK:=hid (zd hr HB5'.out hbb)
       have HCK:=hid (IH.out y (List.mem_of_getElem? hy) ks wr ((hR.under HB5'.out).more HB5'.out.size))
       have HKL:=hid hcl
       clear hc hr hR hy hcl
       go_wp2_with (first|(with_reducible refine z8 29 _ rfl ?hw b (o+j*10) ks _ rfl HRK.out Tryz.underlying29 rfl ?hi ?_;(case hw=>exact wantA rfl);(case hi=>rw[HKL.out];kernel_rfl))|(go_at_call 11;fail))
       refine HCK.out.mono ?_
       rintro e w6 ⟨q,rfl,hb⟩
       have HB6:=hid (HB5.out.trans (hb.mono HB5.out.size))
       clear hb
       cases q with
       |false=>
        go_wp2
        go_ret
        exact⟨_,rfl,HB.out.trans (HB6.out.mono HB.out.size)⟩
       |true=>
        go_wp2
        go_roundg g
        case measure=>omega
        case rel=>exact⟨j+1,by omega,by go_num,HB6.out⟩
   ·have hy':decide ((500:Int)≤y)= true:=by simp;omega
    go_wp2
    go_ret
    exact⟨_,rfl,HB3'.out⟩
  ·have hz':decide ((30:Int) < z)= true:=by simp;omega
   go_wp2
   go_ret
   exact⟨_,rfl,HB2'.out⟩
def zbf (E:List VarT) (w:World) (e:Ending) (w':World):Prop:=∃ b:Bool,e= .returned (.bool b)∧(b= true→E.length≤40)∧Below w.heap.size w w'
theorem z99 (E:List VarT) (v:Value) (w:World) (hv:SlAt w w.heap.size 11 (VarAt w w.heap.size) v E) (hE:E.length≤maxLen):
  Calls Tryz.prog 12 #[v] w (zbf E w):=by
 obtain⟨hel,EA,ec,rfl,hea⟩:=hv
 have HEB:=hid hea
 unfold maxLen at hE
 clear hea hel
 go_enter Tryz.func12,Tryz.ntmps12
 go_wp2
 go_loopg [3] E.length (fun q x u=>∃ j:Nat,j+q= E.length∧x= .int .i64 j∧Below w.heap.size w u)
 case atStart=>exact⟨0,by omega,rfl,Below.refl _ _⟩
 case round=>
  obtain⟨jj,hj,rfl,hb⟩:=hrel
  have HBK:=hid hb
  clear hb
  cases gk with
  |zero=>
   obtain rfl:jj= E.length:=by omega
   have hge: ¬ ((E.length:Int) <(E.length:Int)):=by omega
   by_cases h40:(E.length:Int)≤40
   ·go_wp2
    go_ret
    exact⟨_,rfl,(fun _=>by omega),HBK.out⟩
   ·go_wp2
    go_ret
    exact⟨_,rfl,nofun,HBK.out⟩
  |succ q=>
   have hlt2:(jj:Int) <(E.length:Int):=by omega
   obtain⟨x,he⟩:∃ e,E[jj]?= some e:=⟨_,List.getElem?_eq_getElem (by omega)⟩
   obtain⟨bb,o,rfl,hbl,hc⟩:=HEB.out (by omega)
   obtain⟨ks,hkl,hks,hva⟩:=hc jj x he
   obtain⟨ct,ci,hce,h3,h6,hct,hci⟩:=hva.ex
   have hnm:=hva.name
   unfold maxLen at hnm
   have HRG:Hid (∀ z:World,Below w.heap.size w z→z.cell? ⟨bb,o+jj*11,none⟩= some (.string x.name)∧z.rangeAt bb (o+jj*11+2) ct∧z.rangeAt bb (o+jj*11+5) ci):=hid fun z hz=>by
    have hr0:=zd hks hz hbl
    rw[hce] at hr0
    refine⟨z5g hr0 0 rfl,z3I (p:=[.string x.name,.int .i64 x.label]) (cs:=ct) (q:=ci) hr0 _ rfl,?_⟩
    exact z3I (p:=[.string x.name,.int .i64 x.label] ++ ct) (cs:=ci) (q:=[]) (by rw[List.append_nil];exact hr0) _ (by simp[h3])
   have HT:=hid (fun z (hz:Below w.heap.size w z)=>zeF x.type ct z ((hct.under hz).more hz.size))
   have HI:=hid (fun z (hz:Below w.heap.size w z)=>zbd x.init ci z ((hci.under hz).more hz.size))
   have HL3:=hid h3
   have HL6:=hid h6
   have HC1:=hid (HT.out wr HBK.out)
   have HR1:=hid (HRG.out wr HBK.out).2.1
   clear hc he hks hva hkl hct hci hce h3 h6
   go_wp2_with (first|(with_reducible refine z8 45 _ rfl ?hw bb (o+jj*11+2) ct _ rfl HR1.out Tryz.underlying45 rfl ?hi ?_;(case hw=>exact wantA rfl);(case hi=>rw[HL3.out];kernel_rfl))|(go_at_call 28;fail))
   refine HC1.out.mono ?_
   rintro e w2 ⟨q1,rfl,hb⟩
   have HB2:=hid (HBK.out.trans (hb.mono HBK.out.size))
   clear hb HC1
   cases q1 with
   |false=>
    go_wp2
    go_ret
    exact⟨_,rfl,nofun,HB2.out⟩
   |true=>
    have HC2:=hid (HI.out w2 HB2.out)
    have HR2:=hid (HRG.out w2 HB2.out).2.2
    go_wp2_with (first|(with_reducible refine z8 26 _ rfl ?hw bb (o+jj*11+5) ci _ rfl HR2.out Tryz.underlying26 rfl ?hi ?_;(case hw=>exact wantA rfl);(case hi=>rw[HL6.out];kernel_rfl))|(go_at_call 20;fail))
    refine HC2.out.mono ?_
    rintro e w3 ⟨q2,rfl,hb⟩
    have HB3:=hid (HB2.out.trans (hb.mono HB2.out.size))
    clear hb HC2
    cases q2 with
    |false=>
     go_wp2
     go_ret
     exact⟨_,rfl,nofun,HB3.out⟩
    |true=>
     have c0:=(HRG.out w3 HB3.out).1
     by_cases h300:(300:Int) <(x.name.size:Int)
     ·go_wp2
      go_ret
      exact⟨_,rfl,nofun,HB3.out⟩
     ·go_wp2
      go_roundg q
      case measure=>omega
      case rel=>exact⟨jj+1,by omega,by go_num,HB3.out⟩
end Go.Proofs.YtmpbepjjbaeebaaGreatDoor
end
