/- Parts of a proof: RLabel, Same11, Awake11. -/
import Derived.Test.YteolfamhmfidbaaGreatDoorPackJ7
import Derived.Test.YteolfamhmfidbaaGreatDoorPackJ32
import Derived.Test.YteolfamhmfidbaaGreatDoorPackJ33
import Derived.Test.YteolfamhmfidbaaGreatDoorPackJ38
import Derived.Test.YteolfamhmfidbaaGreatDoorPackJ44
import Derived.Test.YteolfamhmfidbaaGreatDoorPackJ45
import Derived.Test.YteolfamhmfidbaaGreatDoorPackJ47
set_option maxHeartbeats 8000000
set_option maxRecDepth 100000
set_option linter.unusedVariables false
set_option linter.unusedSimpArgs false
namespace Go.Proofs.YteolfamhmfidbaaGreatDoor
section
open Go Go.RowKit P
theorem zbR (E:List VarT) (s:ByteArray) (v:Value) (w:World) (hv:SlAt w w.heap.size 11 (VarAt w w.heap.size) v E) (hE:E.length<=10000):
  Calls Tryz.prog 18 #[v,.string s] w fun e w'=>e= .returned (.int .i64 (findV E s))/\w'= w:=by
 obtain⟨hel,EA,ec,rfl,hea⟩:=hv
 have HEB:=I hea
 have hle2:(E.length:Int)<=10000:=by omega
 clear hea hel
 go_enter Tryz.func18,Tryz.ntmps18
 go_wp2
 go_loopg [5] E.length (fun q x u=>∃ j:Nat,j+q= E.length/\x= .int .i64 j/\u= w/\∀ k,k < j->∀ e,E[k]?= some e->z0V s e= false)
 case atStart=>exact⟨0,by omega,rfl,rfl,fun k hk=>absurd hk (Nat.not_lt_zero k)⟩
 case round=>
  obtain⟨jj,hj,rfl,rfl,hno⟩:=hrel
  have HNO:=I hno
  clear hno
  cases gk with
  |zero=>
   obtain rfl:jj= E.length:=by omega
   have hge: ¬ ((E.length:Int) <(E.length:Int)):=by omega
   have HR:Hid (findV E s= -1):=I (z3B fun k e he=>HNO.o k (List.getElem?_eq_some_iff.1 he).1 e he)
   go_wp2
   go_ret
   exact⟨by rw[HR.o];try rfl,rfl⟩
  |succ q=>
   have hlt2:(jj:Int) <(E.length:Int):=by omega
   obtain⟨x,he⟩:∃ e,E[jj]?= some e:=⟨_,List.getElem?_eq_getElem (by omega)⟩
   obtain⟨bb,o,rfl,hbl,hc⟩:=HEB.o (by omega)
   obtain⟨ks,hkl,hks,hva⟩:=hc jj x he
   obtain⟨a,b,c,d,e,f,g,i,j,rfl⟩:=z3H hva
   have hcell:wr.cell? ⟨bb,o+jj*11,none⟩= some (.string x.name):=hks 0 _ rfl
   have HE:=I he
   clear hc he hks hva hkl
   cases ho:(x.name.toList ==s.toList) with
   |true=>
    have HR:Hid (findV E s= jj):=I (z2N jj x HE.o ho fun k hk e' he'=>HNO.o k hk e' he')
    go_wp2
    go_ret
    exact⟨by rw[HR.o];try rfl,rfl⟩
   |false=>
    have HNX:Hid (∀ k,k < jj+1->∀ e,E[k]?= some e->z0V s e= false):=I fun k hk e' he'=>by
     by_cases ek:k= jj
     ·subst ek
      have:=HE.o
      rw[he'] at this
      injection this with this
      rw[this];exact ho
     ·exact HNO.o k (by omega) e' he'
    go_wp2
    go_roundg q
    case measure=>omega
    case rel=>exact⟨jj+1,by omega,by go_num,rfl,HNX.o⟩
end
section
open Go Go.RowKit P
def NameR (cs:List Value) (x:List UInt8):Prop:=cs=[.string ⟨x.toArray⟩]
theorem zbt {w:World} {base:Nat} {v:Value} {l:List (List UInt8)} (h:w.ownsRow base 9 1 v l.length (l.map encStr)) (hl:l.length<=500):SlAt w w.heap.size 1 NameR v l:=by
 obtain⟨A,c,rfl⟩:=z4h h
 refine⟨by omega,A,c,rfl,fun h0=> ?_⟩
 obtain⟨g,rfl,hg,hc⟩:=z5Q h h0
 refine⟨g,0,rfl,hg,fun i x hx=>⟨[.string ⟨x.toArray⟩],rfl,fun j u hu=> ?_,rfl⟩⟩
 match j,hu with
 |0,hu=>
  simp at hu
  subst hu
  have:=hc i x hx
  rw[show 0+i*1+0= i by omega];exact this
 |j+1,hu=>simp at hu
theorem z6U {w:World} {b o:Nat} {l:List (List UInt8)} (hc:∀ (i:Nat) x,l[i]?= some x->∃ cs:List Value,cs.length= 1/\w.rangeAt b (o+i*1) cs/\NameR cs x) {j:Nat} {x:List UInt8} (hx:l[j]?= some x):
  w.cell? ⟨b,o+j,none⟩= some (.string ⟨x.toArray⟩):=by
 obtain⟨cs,_,hr,he⟩:=hc j x hx
 have:=hr 0 (.string ⟨x.toArray⟩) (by rw[he];rfl)
 simpa using this
theorem zfF (u v:Value) (l:List (List UInt8)) (w:World) (hu:SlAt w w.heap.size 1 NameR u l) (hv:SlAt w w.heap.size 1 NameR v l) (hl:l.length<=500):
  Calls Tryz.prog 23 #[u,v] w fun e w'=>e= .returned (.bool true)/\Below w.heap.size w w':=by
 obtain⟨_,A,c,rfl,hA⟩:=hu
 obtain⟨_,D,c',rfl,hD⟩:=hv
 have HA:=I hA
 have HD:=I hD
 have hl2:(l.length:Int)<=500:=by omega
 clear hA hD
 go_enter Tryz.func23,Tryz.ntmps23
 go_wp2
 go_loopg [5] l.length (fun g i wr=>∃ j:Nat,j+g= l.length/\i= .int .i64 j/\Below w.heap.size w wr)
 case atStart=>exact⟨0,by omega,rfl,Below.refl _ _⟩
 case round=>
  obtain⟨j,hj,rfl,hb⟩:=hrel
  have HB:=I hb
  cases gk with
  |zero=>
   obtain rfl:j= l.length:=by omega
   have hge: ¬ ((l.length:Int) <(l.length:Int)):=by omega
   clear hb
   go_wp2
   go_ret
   exact⟨rfl,HB.o⟩
  |succ g=>
   have hlt:(j:Int) <(l.length:Int):=by omega
   obtain⟨x,hx⟩:∃ x,l[j]?= some x:=⟨_,List.getElem?_eq_getElem (by omega)⟩
   obtain⟨b1,o1,rfl,hb1,hc1⟩:=HA.o (by omega)
   obtain⟨b2,o2,rfl,hb2,hc2⟩:=HD.o (by omega)
   have d1:=(hb.cell (p:=⟨b1,o1+j,none⟩) hb1).trans (z6U hc1 hx)
   have d2:=(hb.cell (p:=⟨b2,o2+j,none⟩) hb2).trans (z6U hc2 hx)
   clear hb hx hc1 hc2 hb1 hb2
   generalize (⟨x.toArray⟩:ByteArray)= s at*
   have hs:(s.toList ==s.toList)= true:=by simp
   go_upto_region 6 with (fail)
   go_quiet (fail)
   go_wp2
   go_roundg g
   case measure=>omega
   case rel=>exact⟨j+1,by omega,by go_num,zr HB.o _⟩
def zvarC (nm:ByteArray) (l:Int):List Value:=[.string nm,.int .i64 l,.int .i64 0,.slice none 0 0,.slice none 0 0,.int .i64 0,.int .i64 0,.float .f64 0,.string ⟨#[]⟩,.slice none 0 0,.slice none 0 0]
def zvar (nm:ByteArray) (l:Int):VarT:=⟨nm,l,.mk 0 [] [],.mk 0 0 0 ⟨#[]⟩ [] []⟩
theorem z9L (w:World) (B:Nat) (nm:ByteArray) (l:Int) (hn:nm.size<=maxLen) (hl:wfI l):VarAt w B (zvarC nm l) (zvar nm l) where
 ex:=⟨[.int .i64 0,.slice none 0 0,.slice none 0 0],[.int .i64 0,.int .i64 0,.float .f64 0,.string ⟨#[]⟩,.slice none 0 0,.slice none 0 0],rfl,rfl,rfl,
  TypAt.of (zI 0 (by decide +kernel)) (SlAt.nil _ _ _ _) (by unfold maxLen;simp) (SlAt.nil _ _ _ _),
  ValAt.of (zI 0 (by decide +kernel)) (zI 0 (by decide +kernel)) (by decide +kernel) (Nat.zero_le _) (SlAt.nil _ _ _ _) (by unfold maxLen;simp) (SlAt.nil _ _ _ _)⟩
 name:=hn
 label:=hl
theorem zdr (w:World) (a b:ByteArray) (i j:Int) (ha:a.size<=maxLen) (hb:b.size<=maxLen) (hi:wfI i) (hj:wfI j):
  SlAt (w.alloc (.cells ⟨zvarC a i ++ zvarC b j⟩ 50)) (w.alloc (.cells ⟨zvarC a i ++ zvarC b j⟩ 50)).heap.size 11 (VarAt (w.alloc (.cells ⟨zvarC a i ++ zvarC b j⟩ 50)) (w.alloc (.cells ⟨zvarC a i ++ zvarC b j⟩ 50)).heap.size) (.slice (some ⟨w.heap.size,0,none⟩) 2 2) [zvar a i,zvar b j]:=by
 have hr:=zm w (zvarC a i ++ zvarC b j) 50
 refine⟨by simp,_,2,rfl,fun _=>⟨w.heap.size,0,rfl,by simp,fun k x hx=> ?_⟩⟩
 match k,hx with
 |0,hx=>
  simp at hx
  subst hx
  refine⟨zvarC a i,rfl,fun p u hu=> ?_,z9L _ _ a i ha hi⟩
  exact hr p u (by rw[List.getElem?_append_left (List.getElem?_eq_some_iff.1 hu).1];exact hu)
 |1,hx=>
  simp at hx
  subst hx
  refine⟨zvarC b j,rfl,fun p u hu=> ?_,z9L _ _ b j hb hj⟩
  have:=hr (11+p) u (by rw[List.getElem?_append_right (by show 11<=11+p;omega),show 11+p - (zvarC a i).length= p by show 11+p - 11= p;omega];exact hu)
  rw[show 0+1*11+p= 0+ (11+p) by omega];exact this
 |k+2,hx=>simp at hx
end
section
open Go Go.RowKit P
def ps2:List (Int × Int):=[(0,1)]
def L2:Rel:=ordOf 2 ps2
theorem mk2:makeE 2 ps2= 0:=by decide +kernel
def E11:List VarT:=[zvar ⟨#[120]⟩ 1,zvar ⟨#[121]⟩ 0]
theorem lb_xy:labE 2 L2 E11 ex_xy=(1,0):=by decide +kernel
theorem zdG:labE 2 L2 E11 z16=(0,0):=by decide +kernel
theorem lb_z:labE 2 L2 E11 ex_z=(0,11):=by decide +kernel
theorem zgc:readL z1R=[[97],[98]]:=by decide +kernel
theorem rp_xy:replE ⟨#[120]⟩ z1H ex_xy= z0O:=by kernel_rfl
theorem zf7:sameE z0O z0O= true:=by decide +kernel
theorem ps_xy:∀ w,Calls Tryz.prog 22 #[.string ⟨#[120,43,121]⟩] w fun e w'=>∃ cs,e= .returned (.agg ⟨cs⟩)/\ExpAt w' w'.heap.size cs ex_xy/\Below w.heap.size w w':=z0Y tx_xy ex_xy (z1d tx_xy tk_xy ex_xy 2 (by decide) lx_xy (by decide) (by decide) (fun pb tb c=>zg6 pb tb c _) (by decide) rt_xy)
theorem zeP:∀ w,Calls Tryz.prog 22 #[.string ⟨#[51]⟩] w fun e w'=>∃ cs,e= .returned (.agg ⟨cs⟩)/\ExpAt w' w'.heap.size cs z16/\Below w.heap.size w w':=z0Y z2s z16 (z1d z2s z5b z16 2 (by decide) zey (by decide) (by decide) (fun pb tb c=>zbG pb tb c _) (by decide) zep)
theorem ps_z:∀ w,Calls Tryz.prog 22 #[.string ⟨#[122]⟩] w fun e w'=>∃ cs,e= .returned (.agg ⟨cs⟩)/\ExpAt w' w'.heap.size cs ex_z/\Below w.heap.size w w':=z0Y tx_z ex_z (z1d tx_z tk_z ex_z 2 (by decide) lx_z (by decide) (by decide) (fun pb tb c=>pcx_z pb tb c _) (by decide) rt_z)
theorem zge:∀ w,Calls Tryz.prog 22 #[.string ⟨#[49]⟩] w fun e w'=>∃ cs,e= .returned (.agg ⟨cs⟩)/\ExpAt w' w'.heap.size cs z1H/\Below w.heap.size w w':=z0Y z49 z1H (z1d z49 z8d z1H 2 (by decide) zg2 (by decide) (by decide) (fun pb tb c=>zf1 pb tb c _) (by decide) zgf)
theorem zgA:∀ w,Calls Tryz.prog 22 #[.string ⟨#[98,43,97,43,98]⟩] w fun e w'=>∃ cs,e= .returned (.agg ⟨cs⟩)/\ExpAt w' w'.heap.size cs z1R/\Below w.heap.size w w':=z0Y z1r z1R (z1d z1r z8g z1R 2 (by decide) zg5 (by decide) (by decide) (fun pb tb c=>zeW pb tb c _) (by decide) zgz)
theorem zfI:∀ w,Calls Tryz.prog 22 #[.string ⟨#[49,43,121]⟩] w fun e w'=>∃ cs,e= .returned (.agg ⟨cs⟩)/\ExpAt w' w'.heap.size cs z0O/\Below w.heap.size w w':=z0Y z1w z0O (z1d z1w z6i z0O 2 (by decide) zfg (by decide) (by decide) (fun pb tb c=>zdV pb tb c _) (by decide) zf9)
theorem z58 (k:Int) (s:ByteArray) (v:VT):FitE (.mk k s v [] []):= .mk (by simp) (by simp) (fun x hx=>by cases hx)
theorem zgB:FitE ex_xy:= .mk (by simp) (by show 2*160<=140737488351232;omega) (fun x hx=>by
 simp only[List.mem_cons,List.not_mem_nil,or_false] at hx
 rcases hx with rfl|rfl
 ·exact z58 _ _ _
 ·exact z58 _ _ _)
theorem zeT:FitE z1H:=z58 _ _ _
def t11r:OrdT:= .act 22 (.take 23 (.take 24 (.take 25 (.act 26 (.act 27 (.take 28 (.take 29 .done)))))))
def t11:OrdT:=OrdT.of [(0,true),(1,true),(2,true),(3,true),(4,true),(5,true),(6,true),(7,true),(8,true),(9,true),(10,true),(11,true),(12,true),(13,true),(14,true),(15,true),(16,true),(17,true),(18,true)] (.two 19 21 (.two 20 21 (.act 21 t11r) (.act 20 t11r)) (.act 19 (.act 20 t11r)))
theorem z2S (w:World):Calls Tryz.prog 6 #[] w fun e w'=>e= .returned (.bool true)/\Below w.heap.size w w':=by
 go_enter Tryz.func6,Tryz.ntmps6
 go_wp2_with fail
 refine(zfR 2 _ 1 1 ps2 _ rfl (Pairs.new w ps2 _ _ rfl (by unfold okPs ps2;decide) (by decide)) mk2).mono ?_
 rintro e w1 ⟨rfl,hl,hb⟩
 have HL1:=I hl
 have HB1:Hid (Below w.heap.size w w1):=I ((zc w _).trans (hb.mono (by simp)))
 clear hl hb
 obtain⟨lb,hlb⟩:∃ lb,(w.alloc (.cells (z4l ps2).toArray 64)).heap.size= lb:=⟨_,rfl⟩
 have hlb2:w.heap.size+1= lb:=by rw[← hlb];simp
 have HL2:Hid (LatR w1 lb 2 L2):=I (by rw[← hlb];exact HL1.o)
 go_upto_region 3 with (fail)
 clear hlb hlb2 HL1
 have HV:=I (zdr w1 ⟨#[120]⟩ ⟨#[121]⟩ 1 0 (by decide) (by decide) (zI 1 (by decide +kernel)) (zI 0 (by decide +kernel)))
 have HB2:=I (zc w1 (.cells ⟨zvarC ⟨#[120]⟩ 1 ++ zvarC ⟨#[121]⟩ 0⟩ 50))
 show Code.wp _ _ _ _ (w1.alloc (.cells ⟨zvarC ⟨#[120]⟩ 1 ++ zvarC ⟨#[121]⟩ 0⟩ 50))
 have HBX:=I (HB1.o.trans (HB2.o.mono HB1.o.size))
 have HLX:=I (HL2.o.here HB2.o)
 have HVX:Hid (SlAt (w1.alloc (.cells ⟨zvarC ⟨#[120]⟩ 1 ++ zvarC ⟨#[121]⟩ 0⟩ 50)) (w1.alloc (.cells ⟨zvarC ⟨#[120]⟩ 1 ++ zvarC ⟨#[121]⟩ 0⟩ 50)).heap.size 11 (VarAt (w1.alloc (.cells ⟨zvarC ⟨#[120]⟩ 1 ++ zvarC ⟨#[121]⟩ 0⟩ 50)) (w1.alloc (.cells ⟨zvarC ⟨#[120]⟩ 1 ++ zvarC ⟨#[121]⟩ 0⟩ 50)).heap.size) (.slice (some ⟨w1.heap.size,0,none⟩) 2 2) E11):=I HV.o
 clear HB1 HB2 HL2 HV
 generalize w1.alloc (.cells ⟨zvarC ⟨#[120]⟩ 1 ++ zvarC ⟨#[121]⟩ 0⟩ 50)= W at*
 go_wp2_with (go_at_call 22;fail)
 refine(ps_xy _).mono ?_
 rintro e w3a ⟨c3,rfl,hv,hb⟩
 have HE:=I hv
 have HBA:=I (HBX.o.trans (hb.mono HBX.o.size))
 have HLA:=I (HLX.o.here hb)
 have HVA:=I ((HVX.o.below hb (R':=VarAt w3a w3a.heap.size) fun _ _ _ h=>(h.under hb).more hb.size).more hb.size)
 have HLC:=I (z3n 2 L2 lb ex_xy E11 c3 (.slice (some ⟨w1.heap.size,0,none⟩) 2 2) w3a HLA.o HE.o HVA.o (by decide))
 rw[lb_xy] at HLC
 simp only at HLC
 clear hv hb HBX HLX HVX
 go_wp2_with (go_at_call 9;fail)
 refine HLC.o.mono ?_
 rintro e w3b ⟨rfl,hb⟩
 have HBX:=I (HBA.o.trans (hb.mono HBA.o.size))
 have HLX:=I (HLA.o.here hb)
 have HVX:=I ((HVA.o.below hb (R':=VarAt w3b w3b.heap.size) fun _ _ _ h=>(h.under hb).more hb.size).more hb.size)
 clear hb HBA HLA HVA HE HLC
 go_wp2_with (go_at_call 22;fail)
 refine(zeP _).mono ?_
 rintro e w4a ⟨c4,rfl,hv,hb⟩
 have HE:=I hv
 have HBA:=I (HBX.o.trans (hb.mono HBX.o.size))
 have HLA:=I (HLX.o.here hb)
 have HVA:=I ((HVX.o.below hb (R':=VarAt w4a w4a.heap.size) fun _ _ _ h=>(h.under hb).more hb.size).more hb.size)
 have HLC:=I (z3n 2 L2 lb z16 E11 c4 (.slice (some ⟨w1.heap.size,0,none⟩) 2 2) w4a HLA.o HE.o HVA.o (by decide))
 rw[zdG] at HLC
 simp only at HLC
 clear hv hb HBX HLX HVX
 go_wp2_with (go_at_call 9;fail)
 refine HLC.o.mono ?_
 rintro e w4b ⟨rfl,hb⟩
 have HBX:=I (HBA.o.trans (hb.mono HBA.o.size))
 have HLX:=I (HLA.o.here hb)
 have HVX:=I ((HVA.o.below hb (R':=VarAt w4b w4b.heap.size) fun _ _ _ h=>(h.under hb).more hb.size).more hb.size)
 clear hb HBA HLA HVA HE HLC
 go_wp2_with (go_at_call 22;fail)
 refine(ps_z _).mono ?_
 rintro e w5a ⟨c5,rfl,hv,hb⟩
 have HE:=I hv
 have HBA:=I (HBX.o.trans (hb.mono HBX.o.size))
 have HLA:=I (HLX.o.here hb)
 have HVA:=I ((HVX.o.below hb (R':=VarAt w5a w5a.heap.size) fun _ _ _ h=>(h.under hb).more hb.size).more hb.size)
 have HLC:=I (z3n 2 L2 lb ex_z E11 c5 (.slice (some ⟨w1.heap.size,0,none⟩) 2 2) w5a HLA.o HE.o HVA.o (by decide))
 rw[lb_z] at HLC
 simp only at HLC
 clear hv hb HBX HLX HVX
 go_wp2_with (go_at_call 9;fail)
 refine HLC.o.mono ?_
 rintro e w5b ⟨rfl,hb⟩
 have HBX:=I (HBA.o.trans (hb.mono HBA.o.size))
 have HLX:=I (HLA.o.here hb)
 have HVX:=I ((HVA.o.below hb (R':=VarAt w5b w5b.heap.size) fun _ _ _ h=>(h.under hb).more hb.size).more hb.size)
 clear hb HBA HLA HVA HE HLC
 clear HLX HVX
 go_wp2_with (go_at_call 22;fail)
 refine(ps_xy _).mono ?_
 rintro e w6 ⟨c6,rfl,hv,hb⟩
 have HE:=I hv
 have HB6:=I (HBX.o.trans (hb.mono HBX.o.size))
 clear hv hb HBX
 go_wp2_with (go_at_call 22;fail)
 refine(zge _).mono ?_
 rintro e w7 ⟨c7,rfl,hv,hb⟩
 have HE7:=I ((HE.o.under hb).more hb.size)
 have HO7:=I hv
 have HB7:=I (HB6.o.trans (hb.mono HB6.o.size))
 clear hv hb HE HB6
 have HRC:=I (z3Y ⟨#[120]⟩ z1H zeT ex_xy w7.heap.size c6 c7 w7 zgB (Nat.le_refl _) HE7.o HO7.o)
 rw[rp_xy] at HRC
 go_wp2_with (go_at_call 15;fail)
 refine HRC.o.mono ?_
 rintro e z9 ⟨cr,rfl,hk,hb⟩
 have HRX:=I hk.exp
 have HRL:=I (eslen hk.exp)
 have HRO:=I hk.exp.one
 have HB9:=I (HB7.o.trans (hb.mono HB7.o.size))
 clear hk hb HE7 HO7 HB7 HRC
 go_upto_region 7 with (first|((with_reducible refine z0c 30 _ _ rfl ?hwx z9 ?zz cr ?hwld ?hz ?hx ?hy ?hi ?h1 ?_);(case hwld=>rfl);(case hx=>rfl);(case hy=>rfl);(case hwx=>(exact wA rfl));(case hz=>rw[HRL.o];rfl);(case hi=>rw[HRL.o];kernel_rfl);(case h1=>exact HRO.o);intro Z hZ;have HX:=I hZ;clear hZ))
 have HBZ:=I (HB9.o.trans (HX.o.below.mono HB9.o.size))
 have HRG:=I HX.o.range
 have HEZ:=I ((HRX.o.under HX.o.below).more HX.o.below.size)
 have HZS:=I HX.o.size
 clear HX HRX HB9
 refine z6w t11 (fun z=>Below Z.heap.size Z z) (by kernel_rfl) (by kernel_rfl) (by kernel_rfl) rfl (by intro c a d v w h;cases d<;>exact h) ?_
 have hs0:Below Z.heap.size Z Z.drew:=(Below.refl _ Z).drew
 generalize Z.drew= Zd at*
 refine z0i (some 44) (.int .i64 1) _ _ rfl rfl rfl (by exact wA rfl) hs0 rfl ?_
 go_frame
 refine z1e (some 45) (.bool true) _ rfl rfl (by exact wA rfl) hs0 (fun z hz=>by go_simp) ?_
 go_frame
 refine z0i (some 46) (.bool true) _ _ rfl rfl rfl (by exact wA rfl) hs0 rfl ?_
 go_frame
 refine z0i (some 47) (.int .i64 0) _ _ rfl rfl rfl (by exact wA rfl) hs0 rfl ?_
 go_frame
 refine z1e (some 48) (.bool true) _ rfl rfl (by exact wA rfl) hs0 (fun z hz=>by go_simp) ?_
 go_frame
 refine z1l (some 49) (.bool true) _ _ _ _ true rfl rfl rfl rfl (by exact wA rfl) hs0 rfl ?_
 go_frame
 refine z0i (some 50) (.bool true) _ _ rfl rfl rfl (by exact wA rfl) hs0 rfl ?_
 go_frame
 refine z0i (some 51) (.int .i64 0) _ _ rfl rfl rfl (by exact wA rfl) hs0 rfl ?_
 go_frame
 refine z1e (some 52) (.bool true) _ rfl rfl (by exact wA rfl) hs0 (fun z hz=>by go_simp) ?_
 go_frame
 refine z1l (some 53) (.bool true) _ _ _ _ true rfl rfl rfl rfl (by exact wA rfl) hs0 rfl ?_
 go_frame
 refine z0i (some 54) (.bool true) _ _ rfl rfl rfl (by exact wA rfl) hs0 rfl ?_
 go_frame
 refine z0i (some 55) (.int .i64 0) _ _ rfl rfl rfl (by exact wA rfl) hs0 rfl ?_
 go_frame
 refine z1e (some 56) (.bool true) _ rfl rfl (by exact wA rfl) hs0 (fun z hz=>by go_simp) ?_
 go_frame
 refine z1l (some 57) (.bool true) _ _ _ _ true rfl rfl rfl rfl (by exact wA rfl) hs0 rfl ?_
 go_frame
 refine z0i (some 58) (.bool true) _ _ rfl rfl rfl (by exact wA rfl) hs0 rfl ?_
 go_frame
 refine z0i (some 59) (.int .i64 11) _ _ rfl rfl rfl (by exact wA rfl) hs0 rfl ?_
 go_frame
 refine z1e (some 60) (.bool true) _ rfl rfl (by exact wA rfl) hs0 (fun z hz=>by go_simp) ?_
 go_frame
 refine z1l (some 61) (.bool true) _ _ _ _ true rfl rfl rfl rfl (by exact wA rfl) hs0 rfl ?_
 go_frame
 refine z0i (some 62) (.bool true) _ _ rfl rfl rfl (by exact wA rfl) hs0 rfl ?_
 go_frame
 have HZR:=I HRG.o
 refine zfK (fun u z=>∃ cs,u= .agg ⟨cs⟩/\ExpAt z z.heap.size cs z1R) (fun v z=>SlAt z z.heap.size 1 NameR v [[97],[98]]) (fun v z=>SlAt z z.heap.size 1 NameR v [[97],[98]])
  22 24 Tryz.func22 (by kernel_rfl) (by kernel_rfl) Tryz.func24 (by kernel_rfl) (by kernel_rfl) (.string ⟨#[98,43,97,43,98]⟩) #[.string ⟨#[97]⟩,.string ⟨#[98]⟩] _ _ _ _ _ rfl rfl rfl rfl rfl rfl rfl rfl
  (by exact wA rfl) (fun v=>(by exact wA rfl)) (fun u=>(by exact wA rfl)) (fun u v=>(by exact wA rfl)) (by exact wA rfl) (fun u=>(by exact wA rfl)) (fun u v=>(by exact wA rfl)) (fun u=>rfl) (fun u v=>rfl) (T:=9) (n:=2)
  (fun z=>by go_simp) (fun u z=>by go_simp) (fun u v z=>by go_simp) ?c1 ?c2 ?p1 ?p2 ?p3 ?p4 (by decide) (by decide) hs0 ?_
 case c1=>
  intro z hz
  refine(zgA z).mono ?_
  rintro e z' ⟨cs,rfl,hv,hb⟩
  exact⟨_,rfl,hz.trans (hb.mono hz.size),⟨cs,rfl,hv⟩,fun u hu=>(hu.below hb fun _ _ _ h=>h).more hb.size⟩
 case c2=>
  rintro u z hz ⟨cs,rfl,hv⟩
  refine(z6X z1R cs z hv).mono ?_
  rintro e z' ⟨v,base,rfl,hbs,hrow,hb⟩
  rw[zgc] at hrow
  exact⟨_,rfl,hz.trans (hb.mono hz.size),zbt hrow (by decide),fun u hu=>(hu.below hb fun _ _ _ h=>h).more hb.size⟩
 case p1=>exact fun z hz=>hz.alloc hz.size _
 case p2=>rintro v z ⟨cs,rfl,hv⟩;exact⟨cs,rfl,(hv.under (zc z _)).more (zc z _).size⟩
 case p3=>exact fun v z hv=>(hv.below (zc z _) fun _ _ _ h=>h).more (zc z _).size
 case p4=>
  intro z
  refine⟨by decide,_,2,rfl,fun _=>⟨z.heap.size,0,rfl,by simp,fun k x hx=> ?_⟩⟩
  have hr:=zm z [.string ⟨#[97]⟩,.string ⟨#[98]⟩] 9
  match k,hx with
  |0,hx=>
   simp at hx
   subst hx
   exact⟨[.string ⟨#[97]⟩],rfl,fun p u hu=>by
    match p,hu with
    |0,hu=>simp at hu;subst hu;exact hr 0 _ rfl
    |p+1,hu=>simp at hu,rfl⟩
  |1,hx=>
   simp at hx
   subst hx
   exact⟨[.string ⟨#[98]⟩],rfl,fun p u hu=>by
    match p,hu with
    |0,hu=>simp at hu;subst hu;exact hr 1 _ rfl
    |p+1,hu=>simp at hu,rfl⟩
  |k+2,hx=>simp at hx
 intro u v x z hz hvn hxn
 clear hs0
 go_frame
 refine z6s (some 66) 23 Tryz.func23 (by kernel_rfl) (by kernel_rfl) [v,x] _ _ _ rfl rfl rfl (by exact wA rfl) rfl ?_
 refine(zfF v x [[97],[98]] z hvn hxn (by decide)).mono ?_
 rintro e z2 ⟨rfl,hb⟩
 have hs0:=hz.trans (hb.mono hz.size)
 refine⟨_,rfl,hs0,?_⟩
 go_frame
 clear hvn hxn hb hz
 refine z1l (some 67) (.bool true) _ _ _ _ true rfl rfl rfl rfl (by exact wA rfl) hs0 rfl ?_
 go_frame
 refine z0i (some 68) (.bool true) _ _ rfl rfl rfl (by exact wA rfl) hs0 rfl ?_
 go_frame
 refine z1e (some 69) (.agg cr.toArray) _ rfl rfl (by exact wA rfl) hs0 (fun z hz=>zD 30 rfl z9.heap.size 0 cr _ rfl (za HZR.o hz HZS.o) Tryz.underlying30 rfl (by rw[HRL.o];kernel_rfl)) ?_
 go_frame
 refine z6s (some 70) 22 Tryz.func22 (by kernel_rfl) (by kernel_rfl) [.string ⟨#[49,43,121]⟩] _ _ _ rfl rfl rfl (by exact wA rfl) rfl ?_
 refine(zfI z2).mono ?_
 rintro e z3 ⟨c3,rfl,hv3,hb⟩
 have hs1:=hs0.trans (hb.mono hs0.size)
 refine⟨_,rfl,hs1,?_⟩
 go_frame
 clear hb hs0
 refine z6s (some 71) 16 Tryz.func16 (by kernel_rfl) (by kernel_rfl) [.agg cr.toArray,.agg ⟨c3⟩] _ _ _ rfl rfl rfl (by exact wA rfl) rfl ?_
 have hsm:=z61 z0O z0O cr c3 z3 ((HEZ.o.under hs1).more hs1.size) hv3
 rw[zf7] at hsm
 refine hsm.mono ?_
 rintro e z4 ⟨rfl,hb⟩
 have hs0:=hs1.trans (hb.mono hs1.size)
 refine⟨_,rfl,hs0,?_⟩
 go_frame
 clear hb hs1 hsm hv3
 refine z1l (some 72) (.bool true) _ _ _ _ true rfl rfl rfl rfl (by exact wA rfl) hs0 rfl ?_
 go_frame
 refine z9l (some 0) (.bool true) _ _ rfl rfl rfl (by exact wA rfl) hs0 rfl ?_
 go_frame
 refine zeH ?_
 have HEND:=I (HBZ.o.trans (hs0.mono HBZ.o.size))
 clear hs0
 go_wp2
 go_ret
 exact⟨rfl,HEND.o⟩
end
end Go.Proofs.YteolfamhmfidbaaGreatDoor
