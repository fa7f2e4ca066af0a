/- Parts of a proof: RPair, RPr, RFind, ROwn, RCheck0, RCheck, RMay, EvSound. -/
import Derived.Test.YtmpbepjjbaeebaaGreatDoorPackS7
import Derived.Test.YtmpbepjjbaeebaaGreatDoorPackS11
import Derived.Test.YtmpbepjjbaeebaaGreatDoorPackS21
import Derived.Test.YtmpbepjjbaeebaaGreatDoorPackS32
import Derived.Test.YtmpbepjjbaeebaaGreatDoorPackS34
import Derived.Test.YtmpbepjjbaeebaaGreatDoorPackS39
set_option maxHeartbeats 8000000
set_option maxRecDepth 100000
set_option linter.unusedVariables false
set_option linter.unusedSimpArgs false
namespace Go.Proofs.YtmpbepjjbaeebaaGreatDoor
section
open Go Go.RowKit
def RowA (p:Nat->Prop) (w:World) (v:Value) (l:List TT):Prop:=SlAt (only w p) w.heap.size 3 (TypAt (only w p) w.heap.size) v l
theorem RowA.inv {p:Nat->Prop} {w:World} {v:Value} {l:List TT} (h:RowA p w v l):∃ A c,v= .slice A l.length c/\(0 < l.length->∃ b o,A= some ⟨b,o,none⟩/\b < w.heap.size/\∀ (i:Nat) x,l[i]?= some x->∃ ks:List Value,ks.length= 3/\w.rangeAt b (o+i*3) ks/\KeptT p w ks x):=by
 obtain⟨_,A,c,rfl,h2⟩:=h
 refine⟨A,c,rfl,fun h0=> ?_⟩
 obtain⟨b,o,e,hb,hc⟩:=h2 h0
 refine⟨b,o,e,hb,fun i x hx=> ?_⟩
 obtain⟨ks,hl,hr,hks⟩:=hc i x hx
 exact⟨ks,hl,fun j v hv=>(zu.1 (hr j v hv)).2,hks⟩
theorem RowA.to {p q:Nat->Prop} {w w':World} {v:Value} {l:List TT} (h:RowA p w v l) (hb:∀ b,p b->b < w.heap.size->q b/\w'.heap[b]?= w.heap[b]?) (hs:w.heap.size<=w'.heap.size):RowA q w' v l:=by
 obtain⟨h0,A,c,rfl,h1⟩:=h
 refine⟨h0,A,c,rfl,fun hp=> ?_⟩
 obtain⟨b,o,rfl,hlt,h2⟩:=h1 hp
 refine⟨b,o,rfl,Nat.lt_of_lt_of_le hlt hs,fun i x hx=> ?_⟩
 obtain⟨cs,h3,h4,h5⟩:=h2 i x hx
 exact⟨cs,h3,fun j v hv=>z3w hb _ _ (h4 j v hv),KeptT.to (show KeptT p w cs x from h5) hb hs⟩
theorem RowA.next {p:Nat->Prop} {w u:World} {v:Value} {l:List TT} (h:RowA p w v l) (hb:Below w.heap.size w u):RowA p u v l:=h.to (fun b hp hl=>⟨hp,hb.block b hl⟩) hb.size
theorem KeptT.kind {p:Nat->Prop} {w:World} {cs:List Value} {t:TT} (h:KeptT p w cs t):cs[0]?= some (.int .i64 (kT t))/\wfI (kT t):=by
 cases t with
 |mk k ns its=>
  obtain⟨NA,nc,A,c,rfl,hk,_⟩:=h.inv
  exact⟨rfl,hk⟩
theorem RowA.at {p:Nat->Prop} {w:World} {A:Option Addr} {n c:Nat} {l:List TT} (h:RowA p w (.slice A n c) l) (hl:0 < l.length):n= l.length/\∃ b o,A= some ⟨b,o,none⟩/\b < w.heap.size/\∀ (i:Nat) x,l[i]?= some x->∃ ks:List Value,ks.length= 3/\w.rangeAt b (o+i*3) ks/\KeptT p w ks x:=by
 obtain⟨A2,c2,e,h2⟩:=h.inv
 injection e with e1 e2 e3
 subst e1 e2 e3
 exact⟨rfl,h2 hl⟩
def codeT:Except Int TT->Int
 | .ok _=>0
 | .error e=>e
def okT:Except Int TT->TT
 | .ok t=>t
 | .error _=>pT 0
def TPost (p:Nat->Prop) (r:Except Int TT) (w:World) (e:Ending) (w':World):Prop:=∃ cs,e= .returned (.tuple #[.agg ⟨cs⟩,.int .i64 (codeT r)])/\KeptT (fun b=>p b\/w.heap.size<=b) w' cs (okT r)/\Below w.heap.size w w'
theorem zbk (p:Nat->Prop) (w:World) (v:Value) (l:List TT) (ta tb:TT) (k:Int) (hv:RowA p w v l) (h0:l[0]?= some ta) (h1:l[1]?= some tb):Calls Tryz.prog 136 #[v,.int .i64 k] w fun e w'=>e= .returned (.bool (kT ta ==k && kT tb ==k))/\w'= w:=by
 have hl:=(List.getElem?_eq_some_iff.1 h1).1
 obtain⟨A,c,rfl,h2⟩:=hv.inv
 obtain⟨b,o,rfl,hb,hc⟩:=h2 (by omega)
 obtain⟨k0,hl0,hr0,hk0⟩:=hc 0 ta h0
 obtain⟨k1,hl1,hr1,hk1⟩:=hc 1 tb h1
 have d0:w.cell? ⟨b,o,none⟩= some (.int .i64 (kT ta)):=by have:=hr0 0 _ hk0.kind.1;simpa using this
 have d1:w.cell? ⟨b,o+3,none⟩= some (.int .i64 (kT tb)):=by have:=hr1 0 _ hk1.kind.1;rwa [Nat.one_mul,Nat.add_zero] at this
 have l0:0 < l.length:=by omega
 have l1:1 < l.length:=by omega
 clear hc h2 hr0 hr1 hk0 hk1 hv
 generalize kT ta= x at*
 generalize kT tb= y at*
 go_enter Tryz.func136,Tryz.ntmps136
 by_cases hx:x= k
 ·have hxb:(x ==k)= true:=by rw[hx];exact beq_self_eq_true k
  rw[hxb]
  go_wp2
  go_ret
  exact⟨rfl,rfl⟩
 ·have hxb:(x ==k)= false:=by rw[beq_eq_false_iff_ne];exact hx
  rw[hxb]
  go_wp2
  go_ret
  exact⟨rfl,rfl⟩
theorem z8t (p:Nat->Prop) (s:ByteArray) (t:TT) (ce ct:List Value) (w:World) (hx:ce[1]?= some (.string s)) (hj:jok t= true) (hk:KeptT p w ct t) (hp:∀ b,p b->b < w.heap.size):
  Calls Tryz.prog 83 #[.agg ⟨ce⟩,.agg ⟨ct⟩] w (TPost p (z0j s t) w):=by
 cases t with
 |mk k ns its=>
  obtain⟨hJ,_⟩:=z1T.1 hj
  obtain⟨NA,nc,A,c,rfl,hwk,h1,h2,h3⟩:=hk.inv
  have HNA:=I h1
  have HIA:=I h3
  have HX:=I hx
  have HJL:=I hJ
  have HP:=I hp
  have hnn:ns.length<=1000:=hJ.1
  have hin:its.length<=1000:=hJ.2.1
  clear hk h1 h2 h3 hx hJ hj hp hwk
  go_enter Tryz.func83,Tryz.ntmps83
  go_upto_region 1 with (fail)
  have hz3:(#[Value.int IntKind.i64 0,Value.slice none 0 0,Value.slice none 0 0]:Array Value)= zT3.toArray:=rfl
  rw[hz3]
  clear hz3
  have g1:=zd w (.cells ⟨ce⟩ 29)
  have g2:=zd (w.alloc (.cells ⟨ce⟩ 29)) (.cells ⟨[.int .i64 k,.slice NA ns.length nc,.slice A its.length c]⟩ 45)
  have g3:=zd ((w.alloc (.cells ⟨ce⟩ 29)).alloc (.cells ⟨[.int .i64 k,.slice NA ns.length nc,.slice A its.length c]⟩ 45)) (.cells zT3.toArray 45)
  have hA:=((Whole.new w ce 29).keep (g2.block _ (by simp))).keep (g3.block _ (by simp;omega))
  have hB:=(Whole.new (w.alloc (.cells ⟨ce⟩ 29)) [.int .i64 k,.slice NA ns.length nc,.slice A its.length c] 45).keep (g3.block _ (by simp))
  have hR:=Whole.new ((w.alloc (.cells ⟨ce⟩ 29)).alloc (.cells ⟨[.int .i64 k,.slice NA ns.length nc,.slice A its.length c]⟩ 45)) zT3 45
  rw[show(w.alloc (.cells ⟨ce⟩ 29)).heap.size= w.heap.size+1 by simp] at hB
  rw[show((w.alloc (.cells ⟨ce⟩ 29)).alloc (.cells ⟨[.int .i64 k,.slice NA ns.length nc,.slice A its.length c]⟩ 45)).heap.size= w.heap.size+2 by simp] at hR
  have hbl:Below w.heap.size w (((w.alloc (.cells ⟨ce⟩ 29)).alloc (.cells ⟨[.int .i64 k,.slice NA ns.length nc,.slice A its.length c]⟩ 45)).alloc (.cells zT3.toArray 45)):=g1.trans ((g2.mono g1.size).trans (g3.mono (Nat.le_trans g1.size g2.size)))
  have hsz:(((w.alloc (.cells ⟨ce⟩ 29)).alloc (.cells ⟨[.int .i64 k,.slice NA ns.length nc,.slice A its.length c]⟩ 45)).alloc (.cells zT3.toArray 45)).heap.size= w.heap.size+3:=by simp
  have HA:=I hA
  have HB:=I hB
  have HR:=I hR
  have HBL:=I hbl
  have HSZ:=I hsz
  clear g1 g2 g3 hA hB hR hbl hsz
  generalize ((w.alloc (.cells ⟨ce⟩ 29)).alloc (.cells ⟨[.int .i64 k,.slice NA ns.length nc,.slice A its.length c]⟩ 45)).alloc (.cells zT3.toArray 45)= W at*
  obtain⟨r,hr⟩:∃ r,w.heap.size+2= r:=⟨_,rfl⟩
  have HRE:=I hr
  have HRG:Hid (w.heap.size<=r):=I (by omega)
  rw[hr] at HR
  rw[hr]
  clear hr
  have b0:W.cell? ⟨w.heap.size+1,0,none⟩= some (.int .i64 k):=HB.o.range 0 _ rfl
  have b1:W.cell? ⟨w.heap.size+1,1,none⟩= some (.slice NA ns.length nc):=HB.o.range 1 _ rfl
  by_cases h6:k= 6
  case neg=>
   have kne:(k !=6)= true:=by simpa using h6
   have HF:Hid (z0j s (.mk k ns its)= .error 6):=I (by rw[z0j,if_pos h6])
   go_wp2_with (first|((with_reducible refine ze 45 _ _ rfl rfl ?_ (r) (zT3) (zT3) HR.o ?_ ?_ ?_ ?_ ?_ ?_);(exact wA rfl);rfl;rfl;rfl;kernel_rfl;exact(zx _ _ _ _ _ _ _);intro Z hz hb;have HZZ:=I hz;have HBZ:=I hb;clear hz hb))
   (try simp only[Exit.inBlock,Exit.then])
   refine bodyPost_ret (zi rfl _ _ r (zT3) rfl (.int .i64 6) rfl HZZ.o rfl) rfl ?_
   exact⟨zT3,by rw[HF.o];rfl,by rw[HF.o];exact zJ (zf 0 (by decide +kernel)),HBL.o.trans (HBZ.o.below HBL.o.size HRG.o HRG.o)⟩
  subst h6
  have HNL:Hid (ns.length= its.length):=I (HJL.o.2.2 rfl)
  have HC1:Hid (∀ u,Below W.heap.size W u->u.cell? ⟨w.heap.size+1,1,none⟩= some (.slice NA ns.length nc)):=I fun u hu=>(hu.cell (p:=⟨w.heap.size+1,1,none⟩) HB.o.lt).trans (HB.o.range 1 _ rfl)
  have HC2:Hid (∀ u,Below W.heap.size W u->u.cell? ⟨w.heap.size+1,2,none⟩= some (.slice A its.length c)):=I fun u hu=>(hu.cell (p:=⟨w.heap.size+1,2,none⟩) HB.o.lt).trans (HB.o.range 2 _ rfl)
  have HC3:Hid (∀ u,Below W.heap.size W u->u.cell? ⟨w.heap.size,1,none⟩= some (.string s)):=I fun u hu=>(hu.cell (p:=⟨w.heap.size,1,none⟩) HA.o.lt).trans (HA.o.range 1 _ HX.o)
  go_wp2
  clear b0 b1
  go_loopg [6] ns.length (fun g i u=>∃ j:Nat,j+g= ns.length/\i= .int .i64 j/\Below W.heap.size W u/\∀ m,m < j->ns.getD m ByteArray.empty≠s)
  case atStart=>exact⟨0,by omega,rfl,Below.refl _ _,fun m hm=>absurd hm (Nat.not_lt_zero _)⟩
  case round=>
   obtain⟨j,hj,rfl,hbv,hne⟩:=hrel
   have HBV:=I hbv
   have HNE:=I hne
   clear hbv hne
   obtain⟨V,hV⟩:∃ z,z= wr:=⟨_,rfl⟩
   subst hV
   have b1:=HC1.o V HBV.o
   have HBW:Hid (Below w.heap.size w V):=I (HBL.o.trans (HBV.o.mono HBL.o.size))
   cases gk with
   |zero=>
    obtain rfl:j= ns.length:=by omega
    have hge: ¬ ((ns.length:Int) <(ns.length:Int)):=by omega
    have HF:Hid (z0j s (.mk 6 ns its)= .error 10):=I (by
     have h:=Lib.idxOfS_miss ns ns.length s HNE.o
     rw[List.take_length] at h
     rw[z0j,if_neg (by decide),if_pos h])
    have HRV:Hid (Whole 45 V r zT3):=I (HR.o.keep (HBV.o.block r HR.o.lt))
    go_wp2_with (first|((with_reducible refine ze 45 _ _ rfl rfl ?_ (r) (zT3) (zT3) HRV.o ?_ ?_ ?_ ?_ ?_ ?_);(exact wA rfl);rfl;rfl;rfl;kernel_rfl;exact(zx _ _ _ _ _ _ _);intro Z hz hb;have HZZ:=I hz;have HBZ:=I hb;clear hz hb))
    (try simp only[Exit.inBlock,Exit.then])
    refine bodyPost_ret (zi rfl _ _ r (zT3) rfl (.int .i64 10) rfl HZZ.o rfl) rfl ?_
    exact⟨zT3,by rw[HF.o];rfl,by rw[HF.o];exact zJ (zf 0 (by decide +kernel)),HBW.o.trans (HBZ.o.below HBW.o.size HRG.o HRG.o)⟩
   |succ g=>
    have hlt:(j:Int) <(ns.length:Int):=by omega
    have hltn:j < ns.length:=by omega
    obtain⟨x,hx⟩:∃ x,ns[j]?= some x:=⟨_,List.getElem?_eq_getElem hltn⟩
    obtain⟨b3,o3,rfl,hb3,hc3⟩:=HNA.o (by omega)
    have s1:V.cell? ⟨b3,o3+j,none⟩= some (.string x):=(HBW.o.cell (p:=⟨b3,o3+j,none⟩) hb3).trans (hc3 j x hx)
    have e1:=HC3.o V HBV.o
    obtain⟨bq,hbq⟩:∃ b,(x.toList ==s.toList)= b:=⟨_,rfl⟩
    have HBQ:=I hbq
    have HXX:=I hx
    clear hx hc3
    have HQ:Hid (∀ n,Below V.heap.size V (V.drewN n)):=I fun n=>⟨rfl,rfl,rfl,Nat.le_refl _,fun _ _=>rfl⟩
    go_upto_region 6 with (fail)
    have hnd:ns.getD j ByteArray.empty= x:=by rw[List.getD_eq_getElem?_getD,HXX.o];rfl
    have HND:=I hnd
    clear hnd
    cases bq with
    |true=>
     have hse:x= s:=by
      have h:=eq_of_beq HBQ.o
      obtain⟨⟨l⟩⟩:=x
      obtain⟨⟨l'⟩⟩:=s
      rw[toList_eq,toList_eq] at h
      rw[show l= l' from h]
     have HF:Hid (z0j s (.mk 6 ns its)= .ok (its.getD j (pT 0))):=I (by
      have h:=Lib.idxOfS_hit ns ns.length j s hltn (Nat.le_refl _) (HND.o.trans hse) HNE.o
      rw[List.take_length] at h
      rw[z0j,if_neg (by decide),h,if_neg (by omega)]
      rfl)
     clear hse
     have hji:j < its.length:=by have:=HNL.o;omega
     have hji2:(j:Int) <(its.length:Int):=by omega
     obtain⟨t,ht⟩:∃ t,its[j]?= some t:=⟨_,List.getElem?_eq_getElem hji⟩
     obtain⟨b4,o4,rfl,hb4,hc4⟩:=HIA.o (by omega)
     obtain⟨ks,hl,hr,hks⟩:=hc4 j t ht
     have HFT:Hid (z0j s (.mk 6 ns its)= .ok t):=I (by rw[HF.o,List.getD_eq_getElem?_getD,ht];rfl)
     clear HF ht hc4
     have HKS:=I hks
     have HLS:=I hl
     have HOS:=I (zo hks.typ).2
     have HRS:Hid (∀ z,Below V.heap.size V z->z.rangeAt b4 (o4+j*3) ks):=I fun z hz=>zc hr (HBW.o.trans (hz.mono HBW.o.size)) hb4
     clear hl hr hks
     go_quiet (fail)
     have hby:=HQ.o nq
     clear s1 e1 b1
     generalize V.drewN nq= Y at*
     have HBY:Hid (Below w.heap.size w Y):=I (HBW.o.trans (hby.mono HBW.o.size))
     have HBY2:Hid (Below W.heap.size W Y):=I (HBV.o.trans (hby.mono HBV.o.size))
     have HRY:Hid (Whole 45 Y r zT3):=I (HR.o.keep (HBY2.o.block r HR.o.lt))
     have HR2:=I (HRS.o Y hby)
     have d2:=HC2.o Y HBY2.o
     clear hby HRS
     go_wp2_with (first|((with_reducible refine za 45 _ rfl ?_ (b4) (o4+j*3) (ks) _ rfl HR2.o Tryz.underlying45 rfl ?_ ?_);(exact wA rfl);rw[HLS.o];kernel_rfl)|((with_reducible refine ze 45 _ _ rfl rfl ?_ (r) (zT3) (ks) HRY.o ?_ ?_ ?_ ?_ ?_ ?_);(exact wA rfl);rw[HLS.o];rfl;rfl;rfl;rw[HLS.o];kernel_rfl;exact HOS.o;intro Z hz hb;have HZZ:=I hz;have HBZ:=I hb;clear hz hb))
     (try simp only[Exit.inBlock,Exit.then])
     refine bodyPost_ret (zi rfl _ _ r (ks) HLS.o (.int .i64 0) rfl HZZ.o rfl) rfl ?_
     refine⟨ks,by rw[HFT.o];rfl,?_,HBY.o.trans (HBZ.o.below HBY.o.size HRG.o HRG.o)⟩
     rw[HFT.o]
     exact HKS.o.to (fun b hb hl=>⟨.inl hb,(HBZ.o.block b (Nat.lt_of_lt_of_le hl HBY.o.size) (by have:=HRE.o;omega) (by have:=HRE.o;omega)).trans (HBY.o.block b hl)⟩) (Nat.le_trans HBY.o.size HBZ.o.size)
    |false=>
     have HNS:Hid (ns.getD j ByteArray.empty≠s):=I (by
      intro e
      rw[HND.o] at e
      have:=HBQ.o
      rw[e] at this
      simp at this)
     go_quiet (fail)
     have hby:=HQ.o nq
     generalize V.drewN nq= Y at*
     go_wp2
     go_roundg g
     case measure=>omega
     case rel=>exact⟨j+1,by omega,by go_num,HBV.o.trans (hby.mono HBV.o.size),fun m hm=>by
      rcases Nat.lt_or_ge m j with h|h
      ·exact HNE.o m h
      ·obtain rfl:m= j:=by omega
       exact HNS.o⟩
end
section
open Go Go.RowKit
def lf (t:TT):Prop:=kT t= 5\/kT t= 6\/t= pT (kT t)
theorem zdG {ta tb:TT} {m:Int} (ha:lf ta) (hb:lf tb) (h1:kT ta= m) (h2:kT tb= m) (hm:m= 1\/m= 2\/m= 3\/m= 4):joinT ta tb= some (pT m):=by
 have e1:ta= pT m:=by
  rcases ha with h|h|h
  ·omega
  ·omega
  ·rw[h,h1]
 have e2:tb= pT m:=by
  rcases hb with h|h|h
  ·omega
  ·omega
  ·rw[h,h2]
 subst e1 e2
 rcases hm with rfl|rfl|rfl|rfl<;>rfl
def joinD (a b:TT):TT:=(joinT a b).getD (pT 0)
def isK (k:Int) (a b:TT):Bool:=kT a ==k && kT b ==k
theorem zdi {k:Int} {a b:TT}:isK k a b= true↔kT a= k/\kT b= k:=by unfold isK;simp
theorem zc2 {k:Int} {ta tb:TT} {n b1 b2 b4 b5 bj:Bool} (hn:(isK 2 ta tb || isK 3 ta tb)= n) (h1:isK 1 ta tb= b1) (h2:isK 2 ta tb= b2) (h4:isK 4 ta tb= b4) (h5:isK 5 ta tb= b5) (hj:(joinT ta tb).isSome= bj) (ha:lf ta) (hb:lf tb):
  pairT k ta tb= if k= 5 then(if(n || b4 ||(b5 && bj))= true then .ok (joinD ta tb) else .error 6) else if k= 6\/k= 7\/k= 8 then(if n= true then .ok (joinD ta tb) else .error 6) else if k= 9 then(if b2= true then .ok (joinD ta tb) else .error 6)
   else if k= 10 then(if bj= true then .ok (pT 1) else .error 6) else if k= 11\/k= 12 then(if(n || b4)= true then .ok (pT 1) else .error 6) else if k= 13\/k= 14 then(if b1= true then .ok (pT 1) else .error 6) else .error 6:=by
 subst hn h1 h2 h4 h5 hj
 have J:∀ m,(m= 1\/m= 2\/m= 3\/m= 4)->kT ta= m->kT tb= m->joinD ta tb= pT m/\(joinT ta tb)= some (pT m):=fun m hm h1 h2=>by
  have:=zdG ha hb h1 h2 hm
  unfold joinD
  rw[this]
  exact⟨rfl,rfl⟩
 unfold pairT
 simp only[Bool.or_eq_true,Bool.and_eq_true,zdi]
 by_cases k5:k= 5
 ·rw[if_pos k5,if_pos k5]
  cases hj:joinT ta tb with
  |some t=>
   simp only[joinD,hj,Option.isSome_some,Option.getD_some,and_true,or_assoc]
  |none=>
   have h1: ¬ (((kT ta= 2/\kT tb= 2)\/kT ta= 3/\kT tb= 3)\/kT ta= 4/\kT tb= 4):=by
    rintro((h|h)|h)
    ·have:=(J 2 (by omega) h.1 h.2).2;rw[hj] at this;cases this
    ·have:=(J 3 (by omega) h.1 h.2).2;rw[hj] at this;cases this
    ·have:=(J 4 (by omega) h.1 h.2).2;rw[hj] at this;cases this
   rw[if_neg]
   rintro(h|h)
   ·exact h1 h
   ·cases h.2
 ·rw[if_neg k5,if_neg k5]
  by_cases k6:k= 6\/k= 7\/k= 8
  ·rw[if_pos k6,if_pos k6]
   by_cases h:(kT ta= 2/\kT tb= 2)\/kT ta= 3/\kT tb= 3
   ·rw[if_pos h,if_pos h]
    rcases h with h|h
    ·rw[(J 2 (by omega) h.1 h.2).1,h.1]
    ·rw[(J 3 (by omega) h.1 h.2).1,h.1]
   ·rw[if_neg h,if_neg h]
  ·rw[if_neg k6,if_neg k6]
   by_cases k9:k= 9
   ·rw[if_pos k9,if_pos k9]
    by_cases h:kT ta= 2/\kT tb= 2
    ·rw[if_pos h,if_pos h,(J 2 (by omega) h.1 h.2).1]
    ·rw[if_neg h,if_neg h]
   ·rw[if_neg k9,if_neg k9]
theorem z9O {k : Int} {n b1 b2 b4 b5 bj : Bool} {r J P F : Except Int TT} (h : r = if k = 5 then (if (n || b4 || (b5 && bj)) = true then J else F) else if k = 6 \/ k = 7 \/ k = 8 then (if n = true then J else F) else if k = 9 then (if b2 = true then J else F)
      else if k = 10 then (if bj = true then P else F) else if k = 11 \/ k = 12 then (if (n || b4) = true then P else F) else if k = 13 \/ k = 14 then (if b1 = true then P else F) else F) :
    (r = J /\ ((k = 5 /\ n = true) \/ (k = 5 /\ n = false /\ b4 = true) \/ (k = 5 /\ n = false /\ b4 = false /\ b5 = true /\ bj = true) \/ (k = 6 /\ n = true) \/ (k = 7 /\ n = true) \/ (k = 8 /\ n = true) \/ (k = 9 /\ b2 = true))) \/ (r = P /\ ((k = 10 /\ bj = true) \/ (k = 11 /\ n = true) \/ (k = 11 /\ n = false /\ b4 = true) \/ (k = 12 /\ n = true) \/ (k = 12 /\ n = false /\ b4 = true) \/ (k = 13 /\ b1 = true) \/ (k = 14 /\ b1 = true))) \/ (r = F /\ ((k = 5 /\ n = false /\ b4 = false /\ b5 = true /\ bj = false) \/ (k = 5 /\ n = false /\ b4 = false /\ b5 = false) \/ (k = 6 /\ n = false) \/ (k = 7 /\ n = false) \/ (k = 8 /\ n = false) \/ (k = 9 /\ b2 = false) \/ (k = 10 /\ bj = false) \/ (k = 11 /\ n = false /\ b4 = false) \/ (k = 12 /\ n = false /\ b4 = false) \/ (k = 13 /\ b1 = false) \/ (k = 14 /\ b1 = false) \/ ((k == 5) = false /\ (k == 6) = false /\ (k == 7) = false /\ (k == 8) = false /\ (k == 9) = false /\ (k == 10) = false /\ (k == 11) = false /\ (k == 12) = false /\ (k == 13) = false /\ (k == 14) = false))) := by
  by_cases k5 : k = 5
  · subst k5
    cases n <;> cases b4 <;> cases b5 <;> cases bj <;> first | exact .inl ⟨h, by simp⟩ | exact .inr (.inl ⟨h, by simp⟩) | exact .inr (.inr ⟨h, by simp⟩)
  by_cases k6 : k = 6
  · subst k6
    cases n <;> first | exact .inl ⟨h, by simp⟩ | exact .inr (.inl ⟨h, by simp⟩) | exact .inr (.inr ⟨h, by simp⟩)
  by_cases k7 : k = 7
  · subst k7
    cases n <;> first | exact .inl ⟨h, by simp⟩ | exact .inr (.inl ⟨h, by simp⟩) | exact .inr (.inr ⟨h, by simp⟩)
  by_cases k8 : k = 8
  · subst k8
    cases n <;> first | exact .inl ⟨h, by simp⟩ | exact .inr (.inl ⟨h, by simp⟩) | exact .inr (.inr ⟨h, by simp⟩)
  by_cases k9 : k = 9
  · subst k9
    cases b2 <;> first | exact .inl ⟨h, by simp⟩ | exact .inr (.inl ⟨h, by simp⟩) | exact .inr (.inr ⟨h, by simp⟩)
  by_cases k10 : k = 10
  · subst k10
    cases bj <;> first | exact .inl ⟨h, by simp⟩ | exact .inr (.inl ⟨h, by simp⟩) | exact .inr (.inr ⟨h, by simp⟩)
  by_cases k11 : k = 11
  · subst k11
    cases n <;> cases b4 <;> first | exact .inl ⟨h, by simp⟩ | exact .inr (.inl ⟨h, by simp⟩) | exact .inr (.inr ⟨h, by simp⟩)
  by_cases k12 : k = 12
  · subst k12
    cases n <;> cases b4 <;> first | exact .inl ⟨h, by simp⟩ | exact .inr (.inl ⟨h, by simp⟩) | exact .inr (.inr ⟨h, by simp⟩)
  by_cases k13 : k = 13
  · subst k13
    cases b1 <;> first | exact .inl ⟨h, by simp⟩ | exact .inr (.inl ⟨h, by simp⟩) | exact .inr (.inr ⟨h, by simp⟩)
  by_cases k14 : k = 14
  · subst k14
    cases b1 <;> first | exact .inl ⟨h, by simp⟩ | exact .inr (.inl ⟨h, by simp⟩) | exact .inr (.inr ⟨h, by simp⟩)
  refine .inr (.inr ⟨?_, ?_⟩)
  · rw [h, if_neg (by omega), if_neg (by omega), if_neg (by omega), if_neg (by omega), if_neg (by omega), if_neg (by omega)]
  · have hall : (k == 5) = false /\ (k == 6) = false /\ (k == 7) = false /\ (k == 8) = false /\ (k == 9) = false /\ (k == 10) = false /\ (k == 11) = false /\ (k == 12) = false /\ (k == 13) = false /\ (k == 14) = false := by simp; omega
    simp only [hall, and_self, or_true]
theorem zb3 (p:Nat->Prop) (k:Int) (ta tb:TT) (l:List TT) (v:Value) (w:World) (hv:RowA p w v l) (h0:l[0]?= some ta) (h1:l[1]?= some tb) (hja:jok ta= true) (hjb:jok tb= true) (ha:lf ta) (hb:lf tb) (hp:∀ b,p b->b < w.heap.size):
  Calls Tryz.prog 84 #[.int .i64 k,v] w (TPost p (pairT k ta tb) w):=by
 obtain⟨n,hn⟩:∃ n,(isK 2 ta tb || isK 3 ta tb)= n:=⟨_,rfl⟩
 obtain⟨b1,hb1⟩:∃ n,isK 1 ta tb= n:=⟨_,rfl⟩
 obtain⟨b2,hb2⟩:∃ n,isK 2 ta tb= n:=⟨_,rfl⟩
 obtain⟨b4,hb4⟩:∃ n,isK 4 ta tb= n:=⟨_,rfl⟩
 obtain⟨b5,hb5⟩:∃ n,isK 5 ta tb= n:=⟨_,rfl⟩
 obtain⟨bj,hbj⟩:∃ n,(joinT ta tb).isSome= n:=⟨_,rfl⟩
 have HLAW:=I (zc2 (k:=k) hn hb1 hb2 hb4 hb5 hbj ha hb)
 have HN:=I hn
 have HBJ:=I hbj
 have HP:=I hp
 have HBA:Hid (∀ z,Below w.heap.size w z->∀ kk,Calls Tryz.prog 136 #[v,.int .i64 kk] z fun e z'=>e= .returned (.bool (isK kk ta tb))/\z'= z):=I fun z hz kk=>zbk p z v l ta tb kk (hv.next hz) h0 h1
 have hl1:=(List.getElem?_eq_some_iff.1 h1).1
 have hl0:0 < l.length:=by omega
 obtain⟨A,c,rfl,h2⟩:=hv.inv
 obtain⟨b3,o3,rfl,hbb,hc⟩:=h2 hl0
 obtain⟨c1x,hl1x,hr1x,hk1x⟩:=hc 0 ta h0
 obtain⟨c2x,hl2x,hr2x,hk2x⟩:=hc 1 tb h1
 have hr1x':w.rangeAt b3 o3 c1x:=by simpa using hr1x
 have hr2x':w.rangeAt b3 (o3+3) c2x:=by simpa using hr2x
 have HR3:=I (fun z (hz:Below w.heap.size w z)=>zc hr1x' hz hbb)
 have HR4:=I (fun z (hz:Below w.heap.size w z)=>zc hr2x' hz hbb)
 have HL3x:=I hl1x
 have HL4x:=I hl2x
 have HJC0:Hid (∀ z,Below w.heap.size w z->Calls Tryz.prog 82 #[.agg ⟨c1x⟩,.agg ⟨c2x⟩] z fun e w'=>∃ cs,e= .returned (.tuple #[.agg ⟨cs⟩,.bool bj])/\KeptT (fun b=>p b\/z.heap.size<=b) w' cs (joinD ta tb)/\Below z.heap.size z w'):=I (fun z hz=>by
  have h:=z4f ta tb hja hjb p c1x c2x z (fun b hb=>Nat.lt_of_lt_of_le (hp b hb) hz.size) (hk1x.next hz) (hk2x.next hz)
  unfold z2E at h
  rw[hbj] at h
  exact h)
 obtain⟨jt,hi,hy0,hy1,hy2⟩:=zT z2G
 have HT0:=I hi
 have HT1:=I hy0
 clear hi hy0 hy1 hy2 hr1x hr2x hr1x' hr2x' hk1x hk2x hl1x hl2x hc h2 hv h0 h1 hja hjb ha hb hp hn hbj hbb
 go_enter Tryz.func84,Tryz.ntmps84
 go_upto_region 1 with (fail)
 have hz3:(#[Value.int IntKind.i64 0,Value.slice none 0 0,Value.slice none 0 0]:Array Value)= zT3.toArray:=rfl
 rw[hz3]
 clear hz3
 have HR:=I (Whole.new w zT3 45)
 have HBL:=I (zd w (.cells zT3.toArray 45))
 generalize w.alloc (.cells zT3.toArray 45)= W at*
 obtain⟨r,hr⟩:∃ r,w.heap.size= r:=⟨_,rfl⟩
 have HRE:=I hr
 have HRG:Hid (w.heap.size<=r):=I (by omega)
 rw[hr] at HR
 rw[hr]
 clear hr
 go_cut [6] (fun v z=>v= .bool n/\z= W)
 case first=>
  cases b2 with
  |true=>
   go_wp2_with (first|(go_at_call 136;refine(HBA.o _ (HBL.o) _).mono ?_;rintro e z ⟨rfl,hzw⟩;rw[hzw];clear hzw z))
   go_meet
   case rel=>exact⟨by rw[← HN.o,hb2];rfl,rfl⟩
  |false=>
   go_wp2_with (first|(go_at_call 136;refine(HBA.o _ (HBL.o) _).mono ?_;rintro e z ⟨rfl,hzw⟩;rw[hzw];clear hzw z))
   go_meet
   case rel=>exact⟨by rw[← HN.o,hb2,Bool.false_or],rfl⟩
 case rest=>
 obtain⟨rfl,hwc⟩:=hcut
 subst hwc
 obtain⟨V,hV⟩:∃ z,z= wc:=⟨_,rfl⟩
 subst hV
 have HVG:Hid (w.heap.size<=V.heap.size):=I HBL.o.size
 have HR3:=I (fun z (hz:Below V.heap.size V z)=>HR3.o z (HBL.o.trans (hz.mono HBL.o.size)))
 have HR4:=I (fun z (hz:Below V.heap.size V z)=>HR4.o z (HBL.o.trans (hz.mono HBL.o.size)))
 go_upto_region 2 with (fail)
 have HJC:=I (fun z (hz:Below V.heap.size V z)=>HJC0.o z (HBL.o.trans (hz.mono HBL.o.size)))
 have hs:Below V.heap.size V V.drew:=(Below.refl _ _).drew
 go_cut [7,8] (fun v n z=>∃ q c,v= .pointer (some ⟨q,0,none⟩)/\n= .bool bj/\Whole 45 z q c/\c.length= 3/\(∀ u∈c,u.oneCell'= true)/\KeptT (fun b=>(p) b\/V.heap.size<=b) z c (joinD ta tb)/\Below V.heap.size V z)
 case first=>
  refine z0S (.take 0 (.take 1 (.take 2 (.take 3 (.take 4 (.take 5 (.two 6 10 (.take 7 (.take 8 (.take 9 (.act 10 (.act 11 (.take 12 .done)))))) (.act 6 (.take 7 (.take 8 (.take 9 (.act 11 (.take 12 .done))))))))))))) (fun z=>Below V.heap.size V z) (by kernel_rfl) (by kernel_rfl) (by kernel_rfl) rfl (by intro c a d v w h;cases d<;>exact h) ?_
  refine z02 (some 16) (.slice (some ⟨b3,o3,none⟩) l.length c) _ _ rfl rfl rfl (by exact wA rfl) hs rfl ?_
  go_frame
  refine zq (some 17) (.pointer (some ⟨b3,o3,none⟩)) _ rfl rfl (by exact wA rfl) hs (fun z hz=>by go_simp) ?_
  go_frame
  refine zq (some 18) (.agg ⟨c1x⟩) _ rfl rfl (by exact wA rfl) hs (fun z hz=>zt 45 rfl (b3) (o3) (c1x) _ rfl (HR3.o z hz) Tryz.underlying45 rfl (by rw[HL3x.o];kernel_rfl)) ?_
  go_frame
  refine z02 (some 19) (.slice (some ⟨b3,o3,none⟩) l.length c) _ _ rfl rfl rfl (by exact wA rfl) hs rfl ?_
  go_frame
  refine zq (some 20) (.pointer (some ⟨b3,o3+3,none⟩)) _ rfl rfl (by exact wA rfl) hs (fun z hz=>by go_simp;intro hh;omega) ?_
  go_frame
  refine zq (some 21) (.agg ⟨c2x⟩) _ rfl rfl (by exact wA rfl) hs (fun z hz=>zt 45 rfl (b3) (o3+3) (c2x) _ rfl (HR4.o z hz) Tryz.underlying45 rfl (by rw[HL4x.o];kernel_rfl)) ?_
  go_frame
  refine z2o ?_ ?_
  ·have h0c1:Below V.heap.size V V.drew:=hs
   refine z1m (some 22) 82 Tryz.func82 (by kernel_rfl) (by kernel_rfl) [.agg ⟨c1x⟩,.agg ⟨c2x⟩] _ _ _ rfl rfl rfl (by exact wA rfl) rfl ?_
   refine(HJC.o V.drew hs).mono ?_
   rintro e w1 ⟨c1,rfl,hkc1,hbc1⟩
   have hlc1:=(zo hkc1.typ).1
   have hoc1:=(zo hkc1.typ).2
   have hs:Below V.heap.size V w1:=hs.trans (hbc1.mono hs.size)
   refine⟨_,rfl,hs,?_⟩
   go_frame
   refine z02 (some 15) (.tuple #[.agg ⟨c1⟩,.bool bj]) _ _ rfl rfl rfl (by exact wA rfl) hs rfl ?_
   go_frame
   refine zq (some 23) (.agg ⟨c1⟩) _ rfl rfl (by exact wA rfl) hs (fun z hz=>by go_simp) ?_
   go_frame
   refine zq (some 24) (.bool bj) _ rfl rfl (by exact wA rfl) hs (fun z hz=>by go_simp) ?_
   go_frame
   refine z0P (some 7) (.pointer (some ⟨w1.heap.size,0,none⟩)) (w1.alloc (.cells zT3.toArray 45)) _ rfl rfl (by exact wA rfl) (z0f 45 rfl _ _ HT0.o HT1.o) (hs.trans ((zd w1 _).mono hs.size)) ?_
   go_frame
   have hbw2:=zd w1 (.cells zT3.toArray 45)
   have hww2:Whole 45 (w1.alloc (.cells zT3.toArray 45)) w1.heap.size zT3:=Whole.new w1 zT3 45
   have hgw2:V.heap.size<=w1.heap.size:=hs.size
   have hs:Below V.heap.size V (w1.alloc (.cells zT3.toArray 45)):=hs.trans (hbw2.mono hs.size)
   have hzw2:w1.heap.size <(w1.alloc (.cells zT3.toArray 45)).heap.size:=hww2.lt
   generalize w1.alloc (.cells zT3.toArray 45)= w2 at*
   refine z0g none 45 _ _ _ rfl rfl rfl (by exact wA rfl) (w1.heap.size) zT3 c1 hww2 (by rw[hlc1];rfl) rfl rfl (by rw[hlc1];kernel_rfl) hoc1 ?_
   intro wf hwf hbf
   have hsf:Below V.heap.size V wf:=hs.trans (hbf.below hs.size hgw2 hgw2)
   refine⟨hsf,?_⟩
   go_frame
   refine z0s (some 8) (.bool bj) _ _ rfl rfl rfl (by exact wA rfl) hsf rfl ?_
   go_frame
   refine z12 ?_
   go_wp2
   go_meet
   case rel=>exact⟨_,c1,rfl,rfl,hwf,hlc1,hoc1,hkc1.to (fun b h1 h2=>⟨h1.imp id fun h=>Nat.le_trans h0c1.size h,(hbf.block b (Nat.lt_trans h2 hzw2) (Nat.ne_of_lt h2) (Nat.ne_of_lt h2)).trans (hbw2.block b h2)⟩) (Nat.le_trans hbw2.size hbf.size),hsf⟩
  ·refine z0P (some 7) (.pointer (some ⟨V.drew.heap.size,0,none⟩)) (V.drew.alloc (.cells zT3.toArray 45)) _ rfl rfl (by exact wA rfl) (z0f 45 rfl _ _ HT0.o HT1.o) (hs.trans ((zd V.drew _).mono hs.size)) ?_
   go_frame
   have hbw1:=zd V.drew (.cells zT3.toArray 45)
   have hww1:Whole 45 (V.drew.alloc (.cells zT3.toArray 45)) V.drew.heap.size zT3:=Whole.new V.drew zT3 45
   have hgw1:V.heap.size<=V.drew.heap.size:=hs.size
   have hs:Below V.heap.size V (V.drew.alloc (.cells zT3.toArray 45)):=hs.trans (hbw1.mono hs.size)
   have hzw1:V.drew.heap.size <(V.drew.alloc (.cells zT3.toArray 45)).heap.size:=hww1.lt
   generalize V.drew.alloc (.cells zT3.toArray 45)= w1 at*
   have hneP:∀ b,((p) b\/w1.heap.size<=b)->b≠V.drew.heap.size:=fun b h1 e=>by
    rcases h1 with h|h
    ·have:=Nat.lt_of_lt_of_le (HP.o b h) HVG.o
     have:=hgw1
     omega
    ·omega
   have h0c2:Below V.heap.size V w1:=hs
   refine z1m (some 22) 82 Tryz.func82 (by kernel_rfl) (by kernel_rfl) [.agg ⟨c1x⟩,.agg ⟨c2x⟩] _ _ _ rfl rfl rfl (by exact wA rfl) rfl ?_
   refine(HJC.o w1 hs).mono ?_
   rintro e w2 ⟨c2,rfl,hkc2,hbc2⟩
   have hlc2:=(zo hkc2.typ).1
   have hoc2:=(zo hkc2.typ).2
   have hs:Below V.heap.size V w2:=hs.trans (hbc2.mono hs.size)
   refine⟨_,rfl,hs,?_⟩
   go_frame
   have hww2:=hww1.keep (hbc2.block _ hww1.lt)
   refine z02 (some 15) (.tuple #[.agg ⟨c2⟩,.bool bj]) _ _ rfl rfl rfl (by exact wA rfl) hs rfl ?_
   go_frame
   refine zq (some 23) (.agg ⟨c2⟩) _ rfl rfl (by exact wA rfl) hs (fun z hz=>by go_simp) ?_
   go_frame
   refine zq (some 24) (.bool bj) _ rfl rfl (by exact wA rfl) hs (fun z hz=>by go_simp) ?_
   go_frame
   refine z0g none 45 _ _ _ rfl rfl rfl (by exact wA rfl) (V.drew.heap.size) zT3 c2 hww2 (by rw[hlc2];rfl) rfl rfl (by rw[hlc2];kernel_rfl) hoc2 ?_
   intro wf hwf hbf
   have hsf:Below V.heap.size V wf:=hs.trans (hbf.below hs.size hgw1 hgw1)
   refine⟨hsf,?_⟩
   go_frame
   refine z0s (some 8) (.bool bj) _ _ rfl rfl rfl (by exact wA rfl) hsf rfl ?_
   go_frame
   refine z12 ?_
   go_wp2
   go_meet
   case rel=>exact⟨_,c2,rfl,rfl,hwf,hlc2,hoc2,hkc2.to (fun b h1 h2=>⟨h1.imp id fun h=>Nat.le_trans h0c2.size h,hbf.block b h2 (hneP b h1) (hneP b h1)⟩) hbf.size,hsf⟩
 case rest=>
 obtain⟨q5,c5,rfl,rfl,hw5,hl5,ho5,hk5,hs5⟩:=hcut
 obtain⟨V2,hV2⟩:∃ z,z= wc:=⟨_,rfl⟩
 subst hV2
 have HC5:=I hl5
 have HO5:=I ho5
 have HK5:=I hk5
 have HW5:=I hw5
 have HBW:=I (HBL.o.trans (hs5.mono HBL.o.size))
 have HRV:=I (HR.o.keep (hs5.block r HR.o.lt))
 have HNE:Hid (∀ b,(p b\/V.heap.size<=b)->b≠r):=I fun b hb e=>by
  have h1:=HR.o.lt
  have h2:=HRE.o
  rcases hb with hb|hb
  ·have:=HP.o b hb;omega
  ·omega
 clear hw5 hl5 ho5 hk5 hs5
 have hsp:=z9O HLAW.o
 clear HLAW
 rcases hsp with ⟨hf,h⟩|⟨hf,h⟩|⟨hf,h⟩
 ·have HF:=I hf
  rcases h with ⟨rfl,rfl⟩|⟨rfl,rfl,rfl⟩|⟨rfl,rfl,rfl,rfl,rfl⟩|⟨rfl,rfl⟩|⟨rfl,rfl⟩|⟨rfl,rfl⟩|⟨rfl,rfl⟩<;>(
   go_wp2_with (first|(go_at_call 136;refine(HBA.o _ (HBW.o) _).mono ?_;rintro e z ⟨rfl,hzw⟩;rw[hzw];clear hzw z)|((with_reducible refine za 45 _ rfl ?_ (q5) (0) (c5) _ rfl HW5.o.range Tryz.underlying45 rfl ?_ ?_);(exact wA rfl);rw[HC5.o];kernel_rfl)|((with_reducible refine ze 45 _ _ rfl rfl ?_ (r) (zT3) (c5) HRV.o ?_ ?_ ?_ ?_ ?_ ?_);(exact wA rfl);rw[HC5.o];rfl;rfl;rfl;rw[HC5.o];kernel_rfl;exact HO5.o;intro Z hz hb;have HZZ:=I hz;have HBZ:=I hb;clear hz hb))
   (try simp only[Exit.inBlock,Exit.then])
   refine bodyPost_ret (zi rfl _ _ r (c5) HC5.o (.int .i64 0) rfl HZZ.o rfl) rfl ?_
   exact⟨c5,by rw[HF.o];rfl,by rw[HF.o];exact HK5.o.to (fun b hb hl=>⟨hb.imp id fun h=>Nat.le_trans HVG.o h,HBZ.o.block b hl (HNE.o b hb) (HNE.o b hb)⟩) HBZ.o.size,HBW.o.trans (HBZ.o.below HBW.o.size HRG.o HRG.o)⟩)
 ·have HF:=I hf
  rcases h with ⟨rfl,rfl⟩|⟨rfl,rfl⟩|⟨rfl,rfl,rfl⟩|⟨rfl,rfl⟩|⟨rfl,rfl,rfl⟩|⟨rfl,rfl⟩|⟨rfl,rfl⟩<;>(
   go_wp2_with (first|(go_at_call 136;refine(HBA.o _ (HBW.o) _).mono ?_;rintro e z ⟨rfl,hzw⟩;rw[hzw];clear hzw z)|(go_at_call 81;refine(z0L 1 (zf 1 (by decide +kernel)) _).mono ?_;rintro e z ⟨rfl,hb⟩;have HPB:=I hb;have HRP:=I (HRV.o.keep (hb.block r HRV.o.lt));have HBP:=I (HBW.o.trans (hb.mono HBW.o.size));clear hb)|((with_reducible refine ze 45 _ _ rfl rfl ?_ (r) (zT3) (tyC 1 (.slice none 0 0) (.slice none 0 0)) HRP.o ?_ ?_ ?_ ?_ ?_ ?_);(exact wA rfl);rfl;rfl;rfl;kernel_rfl;exact(zx _ _ _ _ _ _ _);intro Z hz hb;have HZZ:=I hz;have HBZ:=I hb;clear hz hb))
   (try simp only[Exit.inBlock,Exit.then])
   refine bodyPost_ret (zi rfl _ _ r (tyC 1 (.slice none 0 0) (.slice none 0 0)) rfl (.int .i64 0) rfl HZZ.o rfl) rfl ?_
   exact⟨tyC 1 (.slice none 0 0) (.slice none 0 0),by rw[HF.o];rfl,by rw[HF.o];exact zJ (zf 1 (by decide +kernel)),HBP.o.trans (HBZ.o.below HBP.o.size HRG.o HRG.o)⟩)
 ·have HF:=I hf
  rcases h with ⟨rfl,rfl,rfl,rfl,rfl⟩|⟨rfl,rfl,rfl,rfl⟩|⟨rfl,rfl⟩|⟨rfl,rfl⟩|⟨rfl,rfl⟩|⟨rfl,rfl⟩|⟨rfl,rfl⟩|⟨rfl,rfl,rfl⟩|⟨rfl,rfl,rfl⟩|⟨rfl,rfl⟩|⟨rfl,rfl⟩|⟨e5,e6,e7,e8,e9,e10,e11,e12,e13,e14⟩<;>(
   go_wp2_with (first|(go_at_call 136;refine(HBA.o _ (HBW.o) _).mono ?_;rintro e z ⟨rfl,hzw⟩;rw[hzw];clear hzw z)|((with_reducible refine ze 45 _ _ rfl rfl ?_ (r) (zT3) (zT3) HRV.o ?_ ?_ ?_ ?_ ?_ ?_);(exact wA rfl);rfl;rfl;rfl;kernel_rfl;exact(zx _ _ _ _ _ _ _);intro Z hz hb;have HZZ:=I hz;have HBZ:=I hb;clear hz hb))
   (try simp only[Exit.inBlock,Exit.then])
   refine bodyPost_ret (zi rfl _ _ r (zT3) rfl (.int .i64 6) rfl HZZ.o rfl) rfl ?_
   exact⟨zT3,by rw[HF.o];rfl,by rw[HF.o];exact zJ (zf 0 (by decide +kernel)),HBW.o.trans (HBZ.o.below HBW.o.size HRG.o HRG.o)⟩)
end
section
open Go Go.RowKit
theorem zd1 (E:List VarT) (s:ByteArray) (v:Value) (w:World) (hv:SlAt w w.heap.size 11 (VarAt w w.heap.size) v E) (hE:E.length<=10000):
  Calls Tryz.prog 71 #[v,.string s] w fun e w'=>e= .returned (.int .i64 (findV E s))/\w'= w:=by
 obtain⟨hel,EA,ec,rfl,hea⟩:=hv
 have HEB:=I hea
 have hle2:(E.length:Int)<=10000:=by omega
 clear hea hel
 go_enter Tryz.func71,Tryz.ntmps71
 go_wp2
 go_loopg [5] E.length (fun q x u=>∃ j:Nat,j+q= E.length/\x= .int .i64 j/\u= w/\∀ k,k < j->∀ e,E[k]?= some e->z2g s e= false)
 case atStart=>exact⟨0,by omega,rfl,rfl,fun k hk=>absurd hk (Nat.not_lt_zero k)⟩
 case round=>
  obtain⟨jj,hj,rfl,rfl,hno⟩:=hrel
  have HNO:=I hno
  clear hno
  cases gk with
  |zero=>
   obtain rfl:jj= E.length:=by omega
   have hge: ¬ ((E.length:Int) <(E.length:Int)):=by omega
   have HR:Hid (findV E s= -1):=I (z4V fun k e he=>HNO.o k (List.getElem?_eq_some_iff.1 he).1 e he)
   go_wp2
   go_ret
   exact⟨by rw[HR.o];try rfl,rfl⟩
  |succ q=>
   have hlt2:(jj:Int) <(E.length:Int):=by omega
   obtain⟨x,he⟩:∃ e,E[jj]?= some e:=⟨_,List.getElem?_eq_getElem (by omega)⟩
   obtain⟨bb,o,rfl,hbl,hc⟩:=HEB.o (by omega)
   obtain⟨ks,hkl,hks,hva⟩:=hc jj x he
   obtain⟨a,b,c,d,e,f,g,i,j,rfl⟩:=z7a hva
   have hcell:wr.cell? ⟨bb,o+jj*11,none⟩= some (.string x.name):=hks 0 _ rfl
   have HE:=I he
   clear hc he hks hva hkl
   cases ho:(x.name.toList ==s.toList) with
   |true=>
    have HR:Hid (findV E s= jj):=I (z3E jj x HE.o ho fun k hk e' he'=>HNO.o k hk e' he')
    go_wp2
    go_ret
    exact⟨by rw[HR.o];try rfl,rfl⟩
   |false=>
    have HNX:Hid (∀ k,k < jj+1->∀ e,E[k]?= some e->z2g s e= false):=I fun k hk e' he'=>by
     by_cases ek:k= jj
     ·subst ek
      have:=HE.o
      rw[he'] at this
      injection this with this
      rw[this];exact ho
     ·exact HNO.o k (by omega) e' he'
    go_wp2
    go_roundg q
    case measure=>omega
    case rel=>exact⟨jj+1,by omega,by go_num,rfl,HNX.o⟩
end
section
open Go Go.RowKit
def itT:TT->List TT
 | .mk _ _ its=>its
def tok (t:TT):Prop:=jok t= true/\lf t/\(kT t= 5->∃ a,itT t=[a])
structure OwnArgs (p:Nat->Prop) (w:World) (ce:List Value) (vr va:Value) (E:List VarT) (k:Int) (s:ByteArray) (v:VT) (ns:List ByteArray) (l:List TT):Prop where
 ex:∃ its,KeptP p w ce (.mk k s v ns its)
 row:RowA p w vr l
 vars:SlAt (only w p) w.heap.size 11 (VarAt (only w p) w.heap.size) va E
 elen:E.length<=10000
 llen:l.length<=1000
 lo:∀ b,p b->b < w.heap.size
 oks:∀ t∈l,tok t
theorem OwnArgs.cells {p:Nat->Prop} {w:World} {ce:List Value} {vr va:Value} {E:List VarT} {k:Int} {s:ByteArray} {v:VT} {ns:List ByteArray} {l:List TT} (h:OwnArgs p w ce vr va E k s v ns l):
  ce[0]?= some (.int .i64 k)/\ce[1]?= some (.string s)/\ce[2]?= some (.int .i64 (kV v))/\wfI (kV v)/\ce.length= 10/\∃ vn,ce[8]?= some vn/\SlAt (only w p) w.heap.size 1 StrR vn ns:=by
 obtain⟨its,hx⟩:=h.ex
 obtain⟨c0,c1,c2,c3,c4,c5,vn,vi,rfl,hk,hs,hv,hns,_,_⟩:=ExpAt.inv hx
 cases v with
 |mk kv n f sv nsv itv=>
  obtain⟨vn2,vi2,e,hkv,_⟩:=ValAt.inv hv
  injection e with e _
  subst e
  exact⟨rfl,rfl,rfl,hkv,rfl,vn,rfl,hns⟩
structure OwnAt (w:World) (ce:List Value) (U:World):Prop where
 exp:Whole 29 U w.heap.size ce
 res:Whole 45 U (w.heap.size+1) zT3
 zer:Whole 45 U (w.heap.size+2) zT3
 bel:Below w.heap.size w U
theorem OwnAt.next {w U V:World} {ce:List Value} (h:OwnAt w ce U) (hb:Below U.heap.size U V):OwnAt w ce V:=⟨h.exp.keep (hb.block _ h.exp.lt),h.res.keep (hb.block _ h.res.lt),h.zer.keep (hb.block _ h.zer.lt),h.bel.trans (hb.mono h.bel.size)⟩
theorem VarAt.cells {w w':World} {B:Nat} {cs:List Value} {x:VarT} (h:VarAt w B cs x) (hb:∀ a v,w.cell? a= some v->w'.cell? a= some v):VarAt w' B cs x:=by
 obtain⟨⟨ct,ci,e,h1,h2,h3,h4⟩,h5,h6⟩:=h
 exact⟨⟨ct,ci,e,h1,h2,TypAt.cells h3 hb,ValAt.cells h4 hb⟩,h5,h6⟩
theorem z3N {p:Nat->Prop} {w u:World} {v:Value} {E:List VarT} (h:SlAt (only w p) w.heap.size 11 (VarAt (only w p) w.heap.size) v E) (hb:Below w.heap.size w u):SlAt (only u p) u.heap.size 11 (VarAt (only u p) u.heap.size) v E:=by
 have hc:∀ a v,(only w p).cell? a= some v->(only u p).cell? a= some v:=z3w fun b hp hl=>⟨hp,hb.block b hl⟩
 obtain⟨h0,A,c,rfl,h1⟩:=h
 refine⟨h0,A,c,rfl,fun hp=> ?_⟩
 obtain⟨b,o,rfl,hlt,h2⟩:=h1 hp
 refine⟨b,o,rfl,Nat.lt_of_lt_of_le hlt hb.size,fun i x hx=> ?_⟩
 obtain⟨cs,h3,h4,h5⟩:=h2 i x hx
 exact⟨cs,h3,fun j v hv=>hc _ _ (h4 j v hv),(h5.cells hc).more hb.size⟩
theorem zcV {p:Nat->Prop} {w:World} {v:Value} {E:List VarT} (h:SlAt (only w p) w.heap.size 11 (VarAt (only w p) w.heap.size) v E):SlAt w w.heap.size 11 (VarAt w w.heap.size) v E:=by
 have hc:∀ a v,(only w p).cell? a= some v->w.cell? a= some v:=fun a v hv=>(zu.1 hv).2
 obtain⟨h0,A,c,rfl,h1⟩:=h
 refine⟨h0,A,c,rfl,fun hp=> ?_⟩
 obtain⟨b,o,rfl,hlt,h2⟩:=h1 hp
 refine⟨b,o,rfl,hlt,fun i x hx=> ?_⟩
 obtain⟨cs,h3,h4,h5⟩:=h2 i x hx
 exact⟨cs,h3,fun j v hv=>hc _ _ (h4 j v hv),h5.cells hc⟩
theorem zdt {E:List VarT} {k:Int} {s:ByteArray} {v:VT} {ns:List ByteArray} {ta tb:TT} (h:5<=k/\k<=14):ownT E k s v ns [ta,tb]= pairT k ta tb:=by
 unfold ownT
 rw[if_neg (by omega),if_neg (by omega),if_neg (by omega),if_neg (by omega),if_neg (by omega),if_neg (by omega),if_neg (by omega),if_neg (by omega),if_neg (by omega),if_neg (by omega),if_neg (by omega),if_neg (by omega),if_neg (by omega)]
 rfl
theorem z3A:∀ {l:List TT} {t u:TT} {j:Nat} {x:TT},foldT t (l.take j)= some u->l[j]?= some x->foldT t (l.take (j+1))= joinT u x
 |[],_,_,_,_,_,hx=>by cases hx
 |a::l,t,u,0,x,h,hx=>by
  simp only[List.getElem?_cons_zero,Option.some.injEq] at hx
  subst hx
  simp only[List.take_zero,foldT,Option.some.injEq] at h
  subst h
  rw[List.take_succ_cons,List.take_zero,foldT]
  cases joinT t a<;>rfl
 |a::l,t,u,j+1,x,h,hx=>by
  simp only[List.getElem?_cons_succ] at hx
  rw[List.take_succ_cons,foldT] at h
  rw[List.take_succ_cons,foldT]
  cases hj:joinT t a with
  |none=>rw[hj] at h;cases h
  |some y=>
   rw[hj] at h
   exact z3A h hx
theorem z5o:∀ {l:List TT} {t:TT} {j:Nat},foldT t (l.take j)= none->foldT t l= none
 |[],t,j,h=>by rw[List.take_nil] at h;exact h
 |a::l,t,0,h=>by simp[foldT] at h
 |a::l,t,j+1,h=>by
  rw[List.take_succ_cons,foldT] at h
  rw[foldT]
  cases hj:joinT t a with
  |none=>rfl
  |some y=>rw[hj] at h;exact z5o h
theorem z6s:∀ {l:List TT} {t u:TT},jok t= true->(∀ x∈l,jok x= true)->foldT t l= some u->jok u= true
 |[],t,u,ht,_,h=>by rw[foldT] at h;injection h with h;subst h;exact ht
 |a::l,t,u,ht,hl,h=>by
  rw[foldT] at h
  cases hj:joinT t a with
  |none=>rw[hj] at h;cases h
  |some y=>rw[hj] at h;exact z6s (zct t a y ht (hl a (by simp)) hj) (fun x hx=>hl x (List.mem_cons_of_mem _ hx)) h
theorem zbl {q:Nat->Prop} {u:World} {cs:List Value} {t:TT} {g:Nat} (h:KeptT q u cs t) (hg:Whole 45 u g cs) (hq:q g):KeptT q u (tyC 5 (.slice none 0 0) (.slice (some ⟨g,0,none⟩) 1 1)) (.mk 5 [] [t]):=by
 refine z5e (zf 5 (by decide +kernel)) (SlAt.nil _ _ _ _) (show 1<=maxLen by unfold maxLen;omega) ?_
 refine⟨by simp,some ⟨g,0,none⟩,1,rfl,fun _=>⟨g,0,rfl,hg.lt,fun i x hx=> ?_⟩⟩
 cases i with
 |zero=>
  injection hx with hx
  subst hx
  exact⟨cs,(zo h.typ).1,fun j v hv=>zu.2 ⟨hq,by have:=hg.range j v hv;simpa using this⟩,h⟩
 |succ i=>cases hx
theorem zcI {p:Nat->Prop} {w:World} {ce:List Value} {vr va:Value} {E:List VarT} {s:ByteArray} {v:VT} {ns:List ByteArray} {k:Int} {l:List TT} (h:OwnArgs p w ce vr va E k s v ns l) (hk:kidsB (z0l k) l.length= true):Calls Tryz.prog 45 #[.agg ⟨ce⟩,vr,va] w (TPost p (ownT E k s v ns l) w):=by
 have HC:=I h.cells
 have HAR:=I h
 have hkk:=z75 hk
 clear h hk
 go_enter Tryz.func45,Tryz.ntmps45
 go_upto_region 1 with (fail)
 have hz3:(#[Value.int IntKind.i64 0,Value.slice none 0 0,Value.slice none 0 0]:Array Value)= zT3.toArray:=rfl
 rw[hz3]
 clear hz3
 have g1:=zd w (.cells ⟨ce⟩ 29)
 have g2:=zd (w.alloc (.cells ⟨ce⟩ 29)) (.cells zT3.toArray 45)
 have hA:=(Whole.new w ce 29).keep (g2.block _ (by simp))
 have hR:=Whole.new (w.alloc (.cells ⟨ce⟩ 29)) zT3 45
 rw[show(w.alloc (.cells ⟨ce⟩ 29)).heap.size= w.heap.size+1 by simp] at hR
 have hsz:((w.alloc (.cells ⟨ce⟩ 29)).alloc (.cells zT3.toArray 45)).heap.size= w.heap.size+2:=by simp
 have HA:=I hA
 have HR:=I hR
 have HBL:=I (g1.trans (g2.mono g1.size))
 have HSZ:=I hsz
 clear g1 g2 hA hR hsz
 generalize (w.alloc (.cells ⟨ce⟩ 29)).alloc (.cells zT3.toArray 45)= W at*
 go_upto_region 2 with (first|((with_reducible refine ze 45 _ _ rfl rfl ?_ (W.heap.size) zT3 (tyC 0 (.slice none 0 0) (.slice none 0 0)) ?_ ?_ ?_ ?_ ?_ ?_ ?_);(exact wA rfl);exact Whole.new W zT3 45;rfl;rfl;rfl;kernel_rfl;exact zx _ _ _ _ _ _ _;intro U hz hb;have HWB:=I hz;have HXB:=I hb;clear hz hb))
 have HXU:Hid (Below W.heap.size W U):=I ((zd W (.cells zT3.toArray 45)).trans (HXB.o.below (zd W (.cells zT3.toArray 45)).size (Nat.le_refl _) (Nat.le_refl _)))
 have HOA:Hid (OwnAt w ce U):=I ⟨HA.o.keep (HXU.o.block _ HA.o.lt),HR.o.keep (HXU.o.block _ HR.o.lt),by rw[← HSZ.o];exact HWB.o,HBL.o.trans (HXU.o.mono HBL.o.size)⟩
 have HRV:Hid (Whole 45 U (w.heap.size+1) zT3):=I HOA.o.res
 have HZV:Hid (Whole 45 U (w.heap.size+2) zT3):=I HOA.o.zer
 have HBW:Hid (Below w.heap.size w U):=I HOA.o.bel
 have HRG:Hid (w.heap.size<=w.heap.size+1):=I (Nat.le_add_right _ _)
 have HLZ:Hid (zT3.length= 3):=I rfl
 rw[HSZ.o]
 have e0:U.cell? ⟨w.heap.size,0,none⟩= some (.int .i64 k):=HOA.o.exp.range 0 _ HC.o.1
 clear HA HR HBL HXU HWB HXB HSZ
 rcases hkk with ⟨hk,_⟩|⟨hk,hn⟩|⟨hk,hn⟩|⟨rfl,hn⟩|hk
 ·rcases hk with rfl|rfl
  ·have hkv:=HAR.o.cells.2.2.2.1
   have e2:U.cell? ⟨w.heap.size,2,none⟩= some (.int .i64 (kV v)):=HOA.o.exp.range 2 _ HC.o.2.2.1
   have HF:Hid (ownT E 1 s v ns l= .ok (pT (kV v))):=I rfl
   go_wp2_with (first|(go_at_call 81;refine(z0L (kV v) hkv _).mono ?_;rintro e z ⟨rfl,hb⟩;have HRP:=I (HRV.o.keep (hb.block _ HRV.o.lt));have HBP:=I (HBW.o.trans (hb.mono HBW.o.size));clear hb)|((with_reducible refine ze 45 _ _ rfl rfl ?_ ((w.heap.size+1)) (zT3) (tyC (kV v) (.slice none 0 0) (.slice none 0 0)) HRP.o ?_ ?_ ?_ ?_ ?_ ?_);(exact wA rfl);rfl;rfl;rfl;kernel_rfl;exact(zx _ _ _ _ _ _ _);intro Z hz hb;have HZZ:=I hz;have HBZ:=I hb;clear hz hb))
   (try simp only[Exit.inBlock,Exit.then])
   refine bodyPost_ret (zi rfl _ _ (w.heap.size+1) (tyC (kV v) (.slice none 0 0) (.slice none 0 0)) rfl (.int .i64 0) rfl HZZ.o rfl) rfl ?_
   exact⟨tyC (kV v) (.slice none 0 0) (.slice none 0 0),by rw[HF.o];rfl,by rw[HF.o];exact zJ hkv,HBP.o.trans (HBZ.o.below HBP.o.size HRG.o HRG.o)⟩
  ·have e1:U.cell? ⟨w.heap.size,1,none⟩= some (.string s):=HOA.o.exp.range 1 _ HC.o.2.1
   have HVU:=I (z3N HAR.o.vars HBW.o)
   have HFD0:=I (zd1 E s va U (zcV HVU.o) HAR.o.elen)
   have hcs:=zcQ E s
   obtain⟨ix,hix⟩:∃ ix,findV E s= ix:=⟨_,rfl⟩
   have HFD:Hid (Calls Tryz.prog 71 #[va,.string s] U fun e w'=>e= .returned (.int .i64 ix)/\w'= U):=I (hix▸HFD0.o)
   clear HFD0
   have HIX:=I hix
   rw[hix] at hcs
   clear hix
   rcases hcs with rfl|⟨hi0,hi1⟩
   ·have HF:Hid (ownT E 2 s v ns l= .error 11):=I (by show(if findV E s= -1 then(Except.error 11:Except Int TT) else _)= _;rw[if_pos HIX.o])
    go_wp2_with (first|(go_at_call 71;refine HFD.o.mono ?_;rintro e z ⟨rfl,hzw⟩;rw[hzw];clear hzw z)|((with_reducible refine za 45 _ rfl ?_ ((w.heap.size+2)) (0) (zT3) _ rfl HZV.o.range Tryz.underlying45 rfl ?_ ?_);(exact wA rfl);rw[HLZ.o];kernel_rfl)|((with_reducible refine ze 45 _ _ rfl rfl ?_ ((w.heap.size+1)) (zT3) (zT3) HRV.o ?_ ?_ ?_ ?_ ?_ ?_);(exact wA rfl);rfl;rfl;rfl;kernel_rfl;exact(zx _ _ _ _ _ _ _);intro Z hz hb;have HZZ:=I hz;have HBZ:=I hb;clear hz hb))
    (try simp only[Exit.inBlock,Exit.then])
    refine bodyPost_ret (zi rfl _ _ (w.heap.size+1) (zT3) rfl (.int .i64 11) rfl HZZ.o rfl) rfl ?_
    exact⟨zT3,by rw[HF.o];rfl,by rw[HF.o];exact zJ (zf 0 (by decide +kernel)),HBW.o.trans (HBZ.o.below HBW.o.size HRG.o HRG.o)⟩
   ·obtain⟨j,rfl⟩:∃ j:Nat,ix=(j:Int):=⟨ix.toNat,by omega⟩
    have hj:j < E.length:=by omega
    obtain⟨x,hx⟩:∃ x,E[j]?= some x:=⟨_,List.getElem?_eq_getElem hj⟩
    have HF:Hid (ownT E 2 s v ns l= .ok x.type):=I (by
     show(if findV E s= -1 then(Except.error 11:Except Int TT) else _)= _
     rw[if_neg (by rw[HIX.o];omega)]
     have:(findV E s).toNat= j:=by rw[HIX.o];rfl
     rw[this,hx])
    obtain⟨h0,VA,vc,rfl,h1⟩:=HVU.o
    obtain⟨vb,vo,rfl,hvb,hc⟩:=h1 (by omega)
    obtain⟨ks,hkl,hks,hva⟩:=hc j x hx
    obtain⟨⟨ct,ci,rfl,hct,hci,hty,_⟩,_,_⟩:=hva
    have HCT:Hid (U.rangeAt vb (vo+j*11+2) ct):=I (fun i u hu=>by
     have:=hks (2+i) u (by rw[List.append_assoc];show([Value.string x.name,Value.int .i64 x.label] ++ (ct ++ ci))[2+i]?= _;rw[List.getElem?_append_right (by simp)];simp only[List.length_cons,List.length_nil];rw[show 2+i - (0+1+1)= i by omega,List.getElem?_append_left (List.getElem?_eq_some_iff.1 hu).1];exact hu)
     have h2:=(zu.1 this).2
     rwa [show vo+j*11+ (2+i)= vo+j*11+2+i by omega] at h2)
    have HLT:=I hct
    have HKT:Hid (KeptT p U ct x.type):=I hty
    have HOT:=I (zo hty).2
    have hjl:(j:Int) <(E.length:Int):=by omega
    have hjn: ¬ (j:Int) < 0:=by omega
    clear hc hks hct hci hty h1 h0 hkl hx hvb hi1
    go_wp2_with (first|(go_at_call 71;refine HFD.o.mono ?_;rintro e z ⟨rfl,hzw⟩;rw[hzw];clear hzw z)|((with_reducible refine za 45 _ rfl ?_ (vb) (vo+j*11+2) (ct) _ rfl HCT.o Tryz.underlying45 rfl ?_ ?_);(exact wA rfl);rw[HLT.o];kernel_rfl)|((with_reducible refine ze 45 _ _ rfl rfl ?_ ((w.heap.size+1)) (zT3) (ct) HRV.o ?_ ?_ ?_ ?_ ?_ ?_);(exact wA rfl);rw[HLT.o];rfl;rfl;rfl;rw[HLT.o];kernel_rfl;exact HOT.o;intro Z hz hb;have HZZ:=I hz;have HBZ:=I hb;clear hz hb))
    (try simp only[Exit.inBlock,Exit.then])
    refine bodyPost_ret (zi rfl _ _ (w.heap.size+1) (ct) HLT.o (.int .i64 0) rfl HZZ.o rfl) rfl ?_
    exact⟨ct,by rw[HF.o];rfl,by rw[HF.o];exact HKT.o.to (fun b hb hl=>⟨.inl hb,HBZ.o.block b hl (by have:=HAR.o.lo b hb;omega) (by have:=HAR.o.lo b hb;omega)⟩) HBZ.o.size,HBW.o.trans (HBZ.o.below HBW.o.size HRG.o HRG.o)⟩
 ·obtain⟨ta,rfl⟩:=len1 hn
  clear hn
  rcases hk with rfl|rfl|rfl|hk
  ·obtain⟨A,c,rfl,h2⟩:=HAR.o.row.inv
   obtain⟨b3,o3,rfl,hbb,hc⟩:=h2 (by simp)
   obtain⟨c0x,hl0x,hr0x,hk0x⟩:=hc 0 ta rfl
   have hr0y:w.rangeAt b3 (o3+0) c0x:=by simpa using hr0x
   have HL0:=I hl0x
   have HK0:=I hk0x
   have HO0:=I (zo hk0x.typ).2
   have HR0:=I (fun z (hz:Below w.heap.size w z)=>zc hr0y hz hbb)
   clear hl0x hr0x hk0x hr0y
   clear hc h2 hbb
   have HU0:Hid (U.rangeAt b3 (o3) c0x):=I (HR0.o U HBW.o)
   have d0:U.cell? ⟨b3,o3,none⟩= some (.int .i64 (kT ta)):=by have:=HU0.o 0 _ HK0.o.kind.1;simpa using this
   obtain⟨x0,hx0⟩:∃ x,kT ta= x:=⟨_,rfl⟩
   rw[hx0] at d0
   by_cases k2:x0= 2
   ·subst k2
    have HF:Hid (ownT E 3 s v ns [ta]= .ok (ta)):=I (by show(if kT ta= 2\/kT ta= 3 then(Except.ok (ta):Except Int TT) else Except.error 6)= _;rw[if_pos (by omega)])
    go_wp2_with (first|((with_reducible refine za 45 _ rfl ?_ (b3) (o3) (c0x) _ rfl HU0.o Tryz.underlying45 rfl ?_ ?_);(exact wA rfl);rw[HL0.o];kernel_rfl)|((with_reducible refine ze 45 _ _ rfl rfl ?_ ((w.heap.size+1)) (zT3) (c0x) HRV.o ?_ ?_ ?_ ?_ ?_ ?_);(exact wA rfl);rw[HL0.o];rfl;rfl;rfl;rw[HL0.o];kernel_rfl;exact HO0.o;intro Z hz hb;have HZZ:=I hz;have HBZ:=I hb;clear hz hb))
    (try simp only[Exit.inBlock,Exit.then])
    refine bodyPost_ret (zi rfl _ _ (w.heap.size+1) (c0x) HL0.o (.int .i64 0) rfl HZZ.o rfl) rfl ?_
    exact⟨c0x,by rw[HF.o];rfl,by rw[HF.o];exact HK0.o.to (fun b hb hl=>⟨.inl hb,(HBZ.o.block b (Nat.lt_of_lt_of_le hl HBW.o.size) (by omega) (by omega)).trans (HBW.o.block b hl)⟩) (Nat.le_trans HBW.o.size HBZ.o.size),HBW.o.trans (HBZ.o.below HBW.o.size HRG.o HRG.o)⟩
   have e2:(x0 ==2)= false:=by rw[beq_eq_false_iff_ne];exact k2
   by_cases k3:x0= 3
   ·subst k3
    have HF:Hid (ownT E 3 s v ns [ta]= .ok (ta)):=I (by show(if kT ta= 2\/kT ta= 3 then(Except.ok (ta):Except Int TT) else Except.error 6)= _;rw[if_pos (by omega)])
    go_wp2_with (first|((with_reducible refine za 45 _ rfl ?_ (b3) (o3) (c0x) _ rfl HU0.o Tryz.underlying45 rfl ?_ ?_);(exact wA rfl);rw[HL0.o];kernel_rfl)|((with_reducible refine ze 45 _ _ rfl rfl ?_ ((w.heap.size+1)) (zT3) (c0x) HRV.o ?_ ?_ ?_ ?_ ?_ ?_);(exact wA rfl);rw[HL0.o];rfl;rfl;rfl;rw[HL0.o];kernel_rfl;exact HO0.o;intro Z hz hb;have HZZ:=I hz;have HBZ:=I hb;clear hz hb))
    (try simp only[Exit.inBlock,Exit.then])
    refine bodyPost_ret (zi rfl _ _ (w.heap.size+1) (c0x) HL0.o (.int .i64 0) rfl HZZ.o rfl) rfl ?_
    exact⟨c0x,by rw[HF.o];rfl,by rw[HF.o];exact HK0.o.to (fun b hb hl=>⟨.inl hb,(HBZ.o.block b (Nat.lt_of_lt_of_le hl HBW.o.size) (by omega) (by omega)).trans (HBW.o.block b hl)⟩) (Nat.le_trans HBW.o.size HBZ.o.size),HBW.o.trans (HBZ.o.below HBW.o.size HRG.o HRG.o)⟩
   have e3:(x0 ==3)= false:=by rw[beq_eq_false_iff_ne];exact k3
   have HF:Hid (ownT E 3 s v ns [ta]= .error 6):=I (by show(if kT ta= 2\/kT ta= 3 then(Except.ok (ta):Except Int TT) else Except.error 6)= _;rw[if_neg (by omega)])
   go_wp2_with (first|((with_reducible refine za 45 _ rfl ?_ ((w.heap.size+2)) (0) (zT3) _ rfl HZV.o.range Tryz.underlying45 rfl ?_ ?_);(exact wA rfl);rw[HLZ.o];kernel_rfl)|((with_reducible refine ze 45 _ _ rfl rfl ?_ ((w.heap.size+1)) (zT3) (zT3) HRV.o ?_ ?_ ?_ ?_ ?_ ?_);(exact wA rfl);rfl;rfl;rfl;kernel_rfl;exact(zx _ _ _ _ _ _ _);intro Z hz hb;have HZZ:=I hz;have HBZ:=I hb;clear hz hb))
   (try simp only[Exit.inBlock,Exit.then])
   refine bodyPost_ret (zi rfl _ _ (w.heap.size+1) (zT3) rfl (.int .i64 6) rfl HZZ.o rfl) rfl ?_
   exact⟨zT3,by rw[HF.o];rfl,by rw[HF.o];exact zJ (zf 0 (by decide +kernel)),HBW.o.trans (HBZ.o.below HBW.o.size HRG.o HRG.o)⟩
  ·obtain⟨A,c,rfl,h2⟩:=HAR.o.row.inv
   obtain⟨b3,o3,rfl,hbb,hc⟩:=h2 (by simp)
   obtain⟨c0x,hl0x,hr0x,hk0x⟩:=hc 0 ta rfl
   have hr0y:w.rangeAt b3 (o3+0) c0x:=by simpa using hr0x
   have HL0:=I hl0x
   have HK0:=I hk0x
   have HO0:=I (zo hk0x.typ).2
   have HR0:=I (fun z (hz:Below w.heap.size w z)=>zc hr0y hz hbb)
   clear hl0x hr0x hk0x hr0y
   clear hc h2 hbb
   have HU0:Hid (U.rangeAt b3 (o3) c0x):=I (HR0.o U HBW.o)
   have d0:U.cell? ⟨b3,o3,none⟩= some (.int .i64 (kT ta)):=by have:=HU0.o 0 _ HK0.o.kind.1;simpa using this
   obtain⟨x0,hx0⟩:∃ x,kT ta= x:=⟨_,rfl⟩
   rw[hx0] at d0
   by_cases k1:x0= 1
   ·subst k1
    have HF:Hid (ownT E 4 s v ns [ta]= .ok (ta)):=I (by show(if kT ta= 1 then(Except.ok (ta):Except Int TT) else Except.error 6)= _;rw[if_pos (by omega)])
    go_wp2_with (first|((with_reducible refine za 45 _ rfl ?_ (b3) (o3) (c0x) _ rfl HU0.o Tryz.underlying45 rfl ?_ ?_);(exact wA rfl);rw[HL0.o];kernel_rfl)|((with_reducible refine ze 45 _ _ rfl rfl ?_ ((w.heap.size+1)) (zT3) (c0x) HRV.o ?_ ?_ ?_ ?_ ?_ ?_);(exact wA rfl);rw[HL0.o];rfl;rfl;rfl;rw[HL0.o];kernel_rfl;exact HO0.o;intro Z hz hb;have HZZ:=I hz;have HBZ:=I hb;clear hz hb))
    (try simp only[Exit.inBlock,Exit.then])
    refine bodyPost_ret (zi rfl _ _ (w.heap.size+1) (c0x) HL0.o (.int .i64 0) rfl HZZ.o rfl) rfl ?_
    exact⟨c0x,by rw[HF.o];rfl,by rw[HF.o];exact HK0.o.to (fun b hb hl=>⟨.inl hb,(HBZ.o.block b (Nat.lt_of_lt_of_le hl HBW.o.size) (by omega) (by omega)).trans (HBW.o.block b hl)⟩) (Nat.le_trans HBW.o.size HBZ.o.size),HBW.o.trans (HBZ.o.below HBW.o.size HRG.o HRG.o)⟩
   have e1:(x0 ==1)= false:=by rw[beq_eq_false_iff_ne];exact k1
   have HF:Hid (ownT E 4 s v ns [ta]= .error 6):=I (by show(if kT ta= 1 then(Except.ok (ta):Except Int TT) else Except.error 6)= _;rw[if_neg (by omega)])
   go_wp2_with (first|((with_reducible refine za 45 _ rfl ?_ ((w.heap.size+2)) (0) (zT3) _ rfl HZV.o.range Tryz.underlying45 rfl ?_ ?_);(exact wA rfl);rw[HLZ.o];kernel_rfl)|((with_reducible refine ze 45 _ _ rfl rfl ?_ ((w.heap.size+1)) (zT3) (zT3) HRV.o ?_ ?_ ?_ ?_ ?_ ?_);(exact wA rfl);rfl;rfl;rfl;kernel_rfl;exact(zx _ _ _ _ _ _ _);intro Z hz hb;have HZZ:=I hz;have HBZ:=I hb;clear hz hb))
   (try simp only[Exit.inBlock,Exit.then])
   refine bodyPost_ret (zi rfl _ _ (w.heap.size+1) (zT3) rfl (.int .i64 6) rfl HZZ.o rfl) rfl ?_
   exact⟨zT3,by rw[HF.o];rfl,by rw[HF.o];exact zJ (zf 0 (by decide +kernel)),HBW.o.trans (HBZ.o.below HBW.o.size HRG.o HRG.o)⟩
  ·obtain⟨A,c,rfl,h2⟩:=HAR.o.row.inv
   obtain⟨b3,o3,rfl,hbb,hc⟩:=h2 (by simp)
   obtain⟨c0x,hl0x,hr0x,hk0x⟩:=hc 0 ta rfl
   have hr0y:w.rangeAt b3 (o3+0) c0x:=by simpa using hr0x
   have HL0:=I hl0x
   have HK0:=I hk0x
   have HO0:=I (zo hk0x.typ).2
   have HR0:=I (fun z (hz:Below w.heap.size w z)=>zc hr0y hz hbb)
   clear hl0x hr0x hk0x hr0y
   clear hc h2 hbb
   have HU0:Hid (U.rangeAt b3 (o3) c0x):=I (HR0.o U HBW.o)
   have d0:U.cell? ⟨b3,o3,none⟩= some (.int .i64 (kT ta)):=by have:=HU0.o 0 _ HK0.o.kind.1;simpa using this
   obtain⟨x0,hx0⟩:∃ x,kT ta= x:=⟨_,rfl⟩
   rw[hx0] at d0
   have HF:Hid (ownT E 18 s v ns [ta]= z0j s ta):=I rfl
   have HRS:Hid (∀ z,Below w.heap.size w z->z.rangeAt b3 o3 c0x):=I fun z hz=>by have:=HR0.o z hz;simpa using this
   have HXS:Hid (∀ z,Below U.heap.size U z->z.rangeAt w.heap.size 0 ce):=I fun z hz=>(HOA.o.exp.keep (hz.block _ HOA.o.exp.lt)).range
   have HCL:=I HC.o.2.2.2.2.1
   have HFC:Hid (∀ z,Below U.heap.size U z->Calls Tryz.prog 83 #[.agg ⟨ce⟩,.agg ⟨c0x⟩] z (TPost p (z0j s ta) z)):=I fun z hz=>z8t p s ta ce c0x z HC.o.2.1 (HAR.o.oks ta (by simp)).1 (HK0.o.next (HBW.o.trans (hz.mono HBW.o.size))) (fun b hb=>Nat.lt_of_lt_of_le (HAR.o.lo b hb) (Nat.le_trans HBW.o.size hz.size))
   go_upto_region 34 with (fail)
   clear e0 d0
   have h0c:Below U.heap.size U U.drew:=(Below.refl _ _).drew
   have hs:Below w.heap.size w U.drew/\U.drew.rangeAt w.heap.size 0 ce:=⟨HBW.o.trans (h0c.mono HBW.o.size),HXS.o _ h0c⟩
   refine z0S (.take 0 (.take 1 (.take 2 (.take 3 (.act 4 (.take 5 (.take 6 (.act 7 (.take 8 .done))))))))) (fun z=>Below w.heap.size w z/\z.rangeAt w.heap.size 0 ce) (by kernel_rfl) (by kernel_rfl) (by kernel_rfl) rfl (by intro c a d v w h;cases d<;>exact h) ?_
   refine zq (some 126) (.agg ⟨ce⟩) _ rfl rfl (by exact wA rfl) hs (fun z hz=>zt 29 rfl (w.heap.size) (0) (ce) _ rfl hz.2 Tryz.underlying29 rfl (by rw[HCL.o];kernel_rfl)) ?_
   go_frame
   refine z02 (some 127) (.slice (some ⟨b3,o3,none⟩) [ta].length c) _ _ rfl rfl rfl (by exact wA rfl) hs rfl ?_
   go_frame
   refine zq (some 128) (.pointer (some ⟨b3,o3,none⟩)) _ rfl rfl (by exact wA rfl) hs (fun z hz=>by go_simp) ?_
   go_frame
   refine zq (some 129) (.agg ⟨c0x⟩) _ rfl rfl (by exact wA rfl) hs (fun z hz=>zt 45 rfl (b3) (o3) (c0x) _ rfl (HRS.o z hz.1) Tryz.underlying45 rfl (by rw[HL0.o];kernel_rfl)) ?_
   go_frame
   refine z1m (some 130) 83 Tryz.func83 (by kernel_rfl) (by kernel_rfl) [.agg ⟨ce⟩,.agg ⟨c0x⟩] _ _ _ rfl rfl rfl (by exact wA rfl) rfl ?_
   refine(HFC.o _ h0c).mono ?_
   rintro e w1 ⟨c1,rfl,hk1,hb1⟩
   have hl1:=(zo hk1.typ).1
   have ho1:=(zo hk1.typ).2
   have hq1:Below U.heap.size U w1:=h0c.trans (hb1.mono h0c.size)
   have hs:Below w.heap.size w w1/\w1.rangeAt w.heap.size 0 ce:=⟨HBW.o.trans (hq1.mono HBW.o.size),HXS.o _ hq1⟩
   refine⟨_,rfl,hs,?_⟩
   go_frame
   refine zq (some 131) (.agg ⟨c1⟩) _ rfl rfl (by exact wA rfl) hs (fun z hz=>by go_simp) ?_
   go_frame
   refine zq (some 132) (.int .i64 (codeT (z0j s ta))) _ rfl rfl (by exact wA rfl) hs (fun z hz=>by go_simp) ?_
   go_frame
   refine z0g none 45 _ _ _ rfl rfl rfl (by exact wA rfl) (w.heap.size+1) zT3 c1 (HRV.o.keep (hq1.block _ HRV.o.lt)) (by rw[hl1];rfl) rfl rfl (by rw[hl1];kernel_rfl) ho1 ?_
   intro wf hwf hbf
   have hbl:Below w.heap.size w wf:=hs.1.trans (hbf.below hs.1.size HRG.o HRG.o)
   have hsf:Below w.heap.size w wf/\wf.rangeAt w.heap.size 0 ce:=⟨hbl,((HOA.o.exp.keep (hq1.block _ HOA.o.exp.lt)).keep (hbf.block _ (Nat.lt_of_lt_of_le HOA.o.exp.lt hq1.size) (by omega) (by omega))).range⟩
   have hkf:KeptT (fun b=>p b\/w.heap.size<=b) wf c1 (okT (z0j s ta)):=hk1.to (fun b h1 h2=>⟨h1.imp id fun h=>Nat.le_trans (Nat.le_trans HBW.o.size h0c.size) h,hbf.block b h2 (fun e=>by
    rcases h1 with h|h
    ·have:=HAR.o.lo b h;omega
    ·have:=h0c.size;have:=HRV.o.lt;omega) (fun e=>by
    rcases h1 with h|h
    ·have:=HAR.o.lo b h;omega
    ·have:=h0c.size;have:=HRV.o.lt;omega)⟩) hbf.size
   have HBF:=I hbl
   have HKF:=I hkf
   have HZZ:=I hwf
   have HL1:=I hl1
   refine⟨hsf,?_⟩
   go_frame
   refine z0s (some 7) (.int .i64 (codeT (z0j s ta))) _ _ rfl rfl rfl (by exact wA rfl) hsf rfl ?_
   go_frame
   refine z12 ?_
   go_wp2
   (try simp only[Exit.inBlock,Exit.then])
   refine bodyPost_ret (zi rfl _ _ (w.heap.size+1) (c1) HL1.o (.int .i64 (codeT (z0j s ta))) rfl HZZ.o rfl) rfl ?_
   exact⟨c1,by rw[HF.o],by rw[HF.o];exact HKF.o,HBF.o⟩
  ·have hk:k= 20\/k= 21\/k= 22\/k= 23:=by omega
   obtain⟨A,c,rfl,h2⟩:=HAR.o.row.inv
   obtain⟨b3,o3,rfl,hbb,hc⟩:=h2 (by simp)
   obtain⟨c0x,hl0x,hr0x,hk0x⟩:=hc 0 ta rfl
   have hr0y:w.rangeAt b3 (o3+0) c0x:=by simpa using hr0x
   have HL0:=I hl0x
   have HK0:=I hk0x
   have HO0:=I (zo hk0x.typ).2
   have HR0:=I (fun z (hz:Below w.heap.size w z)=>zc hr0y hz hbb)
   clear hl0x hr0x hk0x hr0y
   clear hc h2 hbb
   rcases hk with rfl|rfl|rfl|rfl
   ·have HU0:Hid (U.rangeAt b3 (o3) c0x):=I (HR0.o U HBW.o)
    have d0:U.cell? ⟨b3,o3,none⟩= some (.int .i64 (kT ta)):=by have:=HU0.o 0 _ HK0.o.kind.1;simpa using this
    obtain⟨x0,hx0⟩:∃ x,kT ta= x:=⟨_,rfl⟩
    rw[hx0] at d0
    by_cases k5:x0= 5
    ·subst k5
     have HF:Hid (ownT E 20 s v ns [ta]= .ok (pT 2)):=I (by show(if kT ta= 5\/kT ta= 4 then(Except.ok (pT 2):Except Int TT) else Except.error 6)= _;rw[if_pos (by omega)])
     go_wp2_with (first|(go_at_call 81;refine(z0L 2 (zf 2 (by decide +kernel)) _).mono ?_;rintro e z ⟨rfl,hb⟩;have HRP:=I (HRV.o.keep (hb.block _ HRV.o.lt));have HBP:=I (HBW.o.trans (hb.mono HBW.o.size));clear hb)|((with_reducible refine ze 45 _ _ rfl rfl ?_ ((w.heap.size+1)) (zT3) (tyC 2 (.slice none 0 0) (.slice none 0 0)) HRP.o ?_ ?_ ?_ ?_ ?_ ?_);(exact wA rfl);rfl;rfl;rfl;kernel_rfl;exact(zx _ _ _ _ _ _ _);intro Z hz hb;have HZZ:=I hz;have HBZ:=I hb;clear hz hb))
     (try simp only[Exit.inBlock,Exit.then])
     refine bodyPost_ret (zi rfl _ _ (w.heap.size+1) (tyC 2 (.slice none 0 0) (.slice none 0 0)) rfl (.int .i64 0) rfl HZZ.o rfl) rfl ?_
     exact⟨tyC 2 (.slice none 0 0) (.slice none 0 0),by rw[HF.o];rfl,by rw[HF.o];exact zJ (zf 2 (by decide +kernel)),HBP.o.trans (HBZ.o.below HBP.o.size HRG.o HRG.o)⟩
    have e5:(x0 ==5)= false:=by rw[beq_eq_false_iff_ne];exact k5
    by_cases k4:x0= 4
    ·subst k4
     have HF:Hid (ownT E 20 s v ns [ta]= .ok (pT 2)):=I (by show(if kT ta= 5\/kT ta= 4 then(Except.ok (pT 2):Except Int TT) else Except.error 6)= _;rw[if_pos (by omega)])
     go_wp2_with (first|(go_at_call 81;refine(z0L 2 (zf 2 (by decide +kernel)) _).mono ?_;rintro e z ⟨rfl,hb⟩;have HRP:=I (HRV.o.keep (hb.block _ HRV.o.lt));have HBP:=I (HBW.o.trans (hb.mono HBW.o.size));clear hb)|((with_reducible refine ze 45 _ _ rfl rfl ?_ ((w.heap.size+1)) (zT3) (tyC 2 (.slice none 0 0) (.slice none 0 0)) HRP.o ?_ ?_ ?_ ?_ ?_ ?_);(exact wA rfl);rfl;rfl;rfl;kernel_rfl;exact(zx _ _ _ _ _ _ _);intro Z hz hb;have HZZ:=I hz;have HBZ:=I hb;clear hz hb))
     (try simp only[Exit.inBlock,Exit.then])
     refine bodyPost_ret (zi rfl _ _ (w.heap.size+1) (tyC 2 (.slice none 0 0) (.slice none 0 0)) rfl (.int .i64 0) rfl HZZ.o rfl) rfl ?_
     exact⟨tyC 2 (.slice none 0 0) (.slice none 0 0),by rw[HF.o];rfl,by rw[HF.o];exact zJ (zf 2 (by decide +kernel)),HBP.o.trans (HBZ.o.below HBP.o.size HRG.o HRG.o)⟩
    have e4:(x0 ==4)= false:=by rw[beq_eq_false_iff_ne];exact k4
    have HF:Hid (ownT E 20 s v ns [ta]= .error 6):=I (by show(if kT ta= 5\/kT ta= 4 then(Except.ok (pT 2):Except Int TT) else Except.error 6)= _;rw[if_neg (by omega)])
    go_wp2_with (first|((with_reducible refine za 45 _ rfl ?_ ((w.heap.size+2)) (0) (zT3) _ rfl HZV.o.range Tryz.underlying45 rfl ?_ ?_);(exact wA rfl);rw[HLZ.o];kernel_rfl)|((with_reducible refine ze 45 _ _ rfl rfl ?_ ((w.heap.size+1)) (zT3) (zT3) HRV.o ?_ ?_ ?_ ?_ ?_ ?_);(exact wA rfl);rfl;rfl;rfl;kernel_rfl;exact(zx _ _ _ _ _ _ _);intro Z hz hb;have HZZ:=I hz;have HBZ:=I hb;clear hz hb))
    (try simp only[Exit.inBlock,Exit.then])
    refine bodyPost_ret (zi rfl _ _ (w.heap.size+1) (zT3) rfl (.int .i64 6) rfl HZZ.o rfl) rfl ?_
    exact⟨zT3,by rw[HF.o];rfl,by rw[HF.o];exact zJ (zf 0 (by decide +kernel)),HBW.o.trans (HBZ.o.below HBW.o.size HRG.o HRG.o)⟩
   ·have HU0:Hid (U.rangeAt b3 (o3) c0x):=I (HR0.o U HBW.o)
    have d0:U.cell? ⟨b3,o3,none⟩= some (.int .i64 (kT ta)):=by have:=HU0.o 0 _ HK0.o.kind.1;simpa using this
    obtain⟨x0,hx0⟩:∃ x,kT ta= x:=⟨_,rfl⟩
    rw[hx0] at d0
    by_cases k2:x0= 2
    ·subst k2
     have HF:Hid (ownT E 21 s v ns [ta]= .ok (pT 3)):=I (by show(if kT ta= 2 then(Except.ok (pT 3):Except Int TT) else Except.error 6)= _;rw[if_pos (by omega)])
     go_wp2_with (first|(go_at_call 81;refine(z0L 3 (zf 3 (by decide +kernel)) _).mono ?_;rintro e z ⟨rfl,hb⟩;have HRP:=I (HRV.o.keep (hb.block _ HRV.o.lt));have HBP:=I (HBW.o.trans (hb.mono HBW.o.size));clear hb)|((with_reducible refine ze 45 _ _ rfl rfl ?_ ((w.heap.size+1)) (zT3) (tyC 3 (.slice none 0 0) (.slice none 0 0)) HRP.o ?_ ?_ ?_ ?_ ?_ ?_);(exact wA rfl);rfl;rfl;rfl;kernel_rfl;exact(zx _ _ _ _ _ _ _);intro Z hz hb;have HZZ:=I hz;have HBZ:=I hb;clear hz hb))
     (try simp only[Exit.inBlock,Exit.then])
     refine bodyPost_ret (zi rfl _ _ (w.heap.size+1) (tyC 3 (.slice none 0 0) (.slice none 0 0)) rfl (.int .i64 0) rfl HZZ.o rfl) rfl ?_
     exact⟨tyC 3 (.slice none 0 0) (.slice none 0 0),by rw[HF.o];rfl,by rw[HF.o];exact zJ (zf 3 (by decide +kernel)),HBP.o.trans (HBZ.o.below HBP.o.size HRG.o HRG.o)⟩
    have e2:(x0 ==2)= false:=by rw[beq_eq_false_iff_ne];exact k2
    have HF:Hid (ownT E 21 s v ns [ta]= .error 6):=I (by show(if kT ta= 2 then(Except.ok (pT 3):Except Int TT) else Except.error 6)= _;rw[if_neg (by omega)])
    go_wp2_with (first|((with_reducible refine za 45 _ rfl ?_ ((w.heap.size+2)) (0) (zT3) _ rfl HZV.o.range Tryz.underlying45 rfl ?_ ?_);(exact wA rfl);rw[HLZ.o];kernel_rfl)|((with_reducible refine ze 45 _ _ rfl rfl ?_ ((w.heap.size+1)) (zT3) (zT3) HRV.o ?_ ?_ ?_ ?_ ?_ ?_);(exact wA rfl);rfl;rfl;rfl;kernel_rfl;exact(zx _ _ _ _ _ _ _);intro Z hz hb;have HZZ:=I hz;have HBZ:=I hb;clear hz hb))
    (try simp only[Exit.inBlock,Exit.then])
    refine bodyPost_ret (zi rfl _ _ (w.heap.size+1) (zT3) rfl (.int .i64 6) rfl HZZ.o rfl) rfl ?_
    exact⟨zT3,by rw[HF.o];rfl,by rw[HF.o];exact zJ (zf 0 (by decide +kernel)),HBW.o.trans (HBZ.o.below HBW.o.size HRG.o HRG.o)⟩
   ·have HU0:Hid (U.rangeAt b3 (o3) c0x):=I (HR0.o U HBW.o)
    have d0:U.cell? ⟨b3,o3,none⟩= some (.int .i64 (kT ta)):=by have:=HU0.o 0 _ HK0.o.kind.1;simpa using this
    obtain⟨x0,hx0⟩:∃ x,kT ta= x:=⟨_,rfl⟩
    rw[hx0] at d0
    by_cases k3:x0= 3
    ·subst k3
     have HF:Hid (ownT E 22 s v ns [ta]= .ok (pT 2)):=I (by show(if kT ta= 3 then(Except.ok (pT 2):Except Int TT) else Except.error 6)= _;rw[if_pos (by omega)])
     go_wp2_with (first|(go_at_call 81;refine(z0L 2 (zf 2 (by decide +kernel)) _).mono ?_;rintro e z ⟨rfl,hb⟩;have HRP:=I (HRV.o.keep (hb.block _ HRV.o.lt));have HBP:=I (HBW.o.trans (hb.mono HBW.o.size));clear hb)|((with_reducible refine ze 45 _ _ rfl rfl ?_ ((w.heap.size+1)) (zT3) (tyC 2 (.slice none 0 0) (.slice none 0 0)) HRP.o ?_ ?_ ?_ ?_ ?_ ?_);(exact wA rfl);rfl;rfl;rfl;kernel_rfl;exact(zx _ _ _ _ _ _ _);intro Z hz hb;have HZZ:=I hz;have HBZ:=I hb;clear hz hb))
     (try simp only[Exit.inBlock,Exit.then])
     refine bodyPost_ret (zi rfl _ _ (w.heap.size+1) (tyC 2 (.slice none 0 0) (.slice none 0 0)) rfl (.int .i64 0) rfl HZZ.o rfl) rfl ?_
     exact⟨tyC 2 (.slice none 0 0) (.slice none 0 0),by rw[HF.o];rfl,by rw[HF.o];exact zJ (zf 2 (by decide +kernel)),HBP.o.trans (HBZ.o.below HBP.o.size HRG.o HRG.o)⟩
    have e3:(x0 ==3)= false:=by rw[beq_eq_false_iff_ne];exact k3
    have HF:Hid (ownT E 22 s v ns [ta]= .error 6):=I (by show(if kT ta= 3 then(Except.ok (pT 2):Except Int TT) else Except.error 6)= _;rw[if_neg (by omega)])
    go_wp2_with (first|((with_reducible refine za 45 _ rfl ?_ ((w.heap.size+2)) (0) (zT3) _ rfl HZV.o.range Tryz.underlying45 rfl ?_ ?_);(exact wA rfl);rw[HLZ.o];kernel_rfl)|((with_reducible refine ze 45 _ _ rfl rfl ?_ ((w.heap.size+1)) (zT3) (zT3) HRV.o ?_ ?_ ?_ ?_ ?_ ?_);(exact wA rfl);rfl;rfl;rfl;kernel_rfl;exact(zx _ _ _ _ _ _ _);intro Z hz hb;have HZZ:=I hz;have HBZ:=I hb;clear hz hb))
    (try simp only[Exit.inBlock,Exit.then])
    refine bodyPost_ret (zi rfl _ _ (w.heap.size+1) (zT3) rfl (.int .i64 6) rfl HZZ.o rfl) rfl ?_
    exact⟨zT3,by rw[HF.o];rfl,by rw[HF.o];exact zJ (zf 0 (by decide +kernel)),HBW.o.trans (HBZ.o.below HBW.o.size HRG.o HRG.o)⟩
   ·have HU0:Hid (U.rangeAt b3 (o3) c0x):=I (HR0.o U HBW.o)
    have d0:U.cell? ⟨b3,o3,none⟩= some (.int .i64 (kT ta)):=by have:=HU0.o 0 _ HK0.o.kind.1;simpa using this
    obtain⟨x0,hx0⟩:∃ x,kT ta= x:=⟨_,rfl⟩
    rw[hx0] at d0
    by_cases k1:1<=x0
    ·by_cases k4:x0<=4
     ·have HF:Hid (ownT E 23 s v ns [ta]= .ok (pT 4)):=I (by show(if kT ta= 1\/kT ta= 2\/kT ta= 3\/kT ta= 4 then(Except.ok (pT 4):Except Int TT) else Except.error 6)= _;rw[if_pos (by omega)])
      go_wp2_with (first|(go_at_call 81;refine(z0L 4 (zf 4 (by decide +kernel)) _).mono ?_;rintro e z ⟨rfl,hb⟩;have HRP:=I (HRV.o.keep (hb.block _ HRV.o.lt));have HBP:=I (HBW.o.trans (hb.mono HBW.o.size));clear hb)|((with_reducible refine ze 45 _ _ rfl rfl ?_ ((w.heap.size+1)) (zT3) (tyC 4 (.slice none 0 0) (.slice none 0 0)) HRP.o ?_ ?_ ?_ ?_ ?_ ?_);(exact wA rfl);rfl;rfl;rfl;kernel_rfl;exact(zx _ _ _ _ _ _ _);intro Z hz hb;have HZZ:=I hz;have HBZ:=I hb;clear hz hb))
      (try simp only[Exit.inBlock,Exit.then])
      refine bodyPost_ret (zi rfl _ _ (w.heap.size+1) (tyC 4 (.slice none 0 0) (.slice none 0 0)) rfl (.int .i64 0) rfl HZZ.o rfl) rfl ?_
      exact⟨tyC 4 (.slice none 0 0) (.slice none 0 0),by rw[HF.o];rfl,by rw[HF.o];exact zJ (zf 4 (by decide +kernel)),HBP.o.trans (HBZ.o.below HBP.o.size HRG.o HRG.o)⟩
     ·have HF:Hid (ownT E 23 s v ns [ta]= .error 6):=I (by show(if kT ta= 1\/kT ta= 2\/kT ta= 3\/kT ta= 4 then(Except.ok (pT 4):Except Int TT) else Except.error 6)= _;rw[if_neg (by omega)])
      go_wp2_with (first|((with_reducible refine za 45 _ rfl ?_ ((w.heap.size+2)) (0) (zT3) _ rfl HZV.o.range Tryz.underlying45 rfl ?_ ?_);(exact wA rfl);rw[HLZ.o];kernel_rfl)|((with_reducible refine ze 45 _ _ rfl rfl ?_ ((w.heap.size+1)) (zT3) (zT3) HRV.o ?_ ?_ ?_ ?_ ?_ ?_);(exact wA rfl);rfl;rfl;rfl;kernel_rfl;exact(zx _ _ _ _ _ _ _);intro Z hz hb;have HZZ:=I hz;have HBZ:=I hb;clear hz hb))
      (try simp only[Exit.inBlock,Exit.then])
      refine bodyPost_ret (zi rfl _ _ (w.heap.size+1) (zT3) rfl (.int .i64 6) rfl HZZ.o rfl) rfl ?_
      exact⟨zT3,by rw[HF.o];rfl,by rw[HF.o];exact zJ (zf 0 (by decide +kernel)),HBW.o.trans (HBZ.o.below HBW.o.size HRG.o HRG.o)⟩
    ·have HF:Hid (ownT E 23 s v ns [ta]= .error 6):=I (by show(if kT ta= 1\/kT ta= 2\/kT ta= 3\/kT ta= 4 then(Except.ok (pT 4):Except Int TT) else Except.error 6)= _;rw[if_neg (by omega)])
     go_wp2_with (first|((with_reducible refine za 45 _ rfl ?_ ((w.heap.size+2)) (0) (zT3) _ rfl HZV.o.range Tryz.underlying45 rfl ?_ ?_);(exact wA rfl);rw[HLZ.o];kernel_rfl)|((with_reducible refine ze 45 _ _ rfl rfl ?_ ((w.heap.size+1)) (zT3) (zT3) HRV.o ?_ ?_ ?_ ?_ ?_ ?_);(exact wA rfl);rfl;rfl;rfl;kernel_rfl;exact(zx _ _ _ _ _ _ _);intro Z hz hb;have HZZ:=I hz;have HBZ:=I hb;clear hz hb))
     (try simp only[Exit.inBlock,Exit.then])
     refine bodyPost_ret (zi rfl _ _ (w.heap.size+1) (zT3) rfl (.int .i64 6) rfl HZZ.o rfl) rfl ?_
     exact⟨zT3,by rw[HF.o];rfl,by rw[HF.o];exact zJ (zf 0 (by decide +kernel)),HBW.o.trans (HBZ.o.below HBW.o.size HRG.o HRG.o)⟩
 ·obtain⟨ta,tb,rfl⟩:=len2 hn
  clear hn
  rcases hk with hk|rfl
  ·have e1k:(k ==1)= false:=by rw[beq_eq_false_iff_ne];omega
   have e2k:(k ==2)= false:=by rw[beq_eq_false_iff_ne];omega
   have e3k:(k ==3)= false:=by rw[beq_eq_false_iff_ne];omega
   have e4k:(k ==4)= false:=by rw[beq_eq_false_iff_ne];omega
   have e15k:(k ==15)= false:=by rw[beq_eq_false_iff_ne];omega
   have e16k:(k ==16)= false:=by rw[beq_eq_false_iff_ne];omega
   have e17k:(k ==17)= false:=by rw[beq_eq_false_iff_ne];omega
   have e18k:(k ==18)= false:=by rw[beq_eq_false_iff_ne];omega
   have e19k:(k ==19)= false:=by rw[beq_eq_false_iff_ne];omega
   have e20k:(k ==20)= false:=by rw[beq_eq_false_iff_ne];omega
   have e21k:(k ==21)= false:=by rw[beq_eq_false_iff_ne];omega
   have e22k:(k ==22)= false:=by rw[beq_eq_false_iff_ne];omega
   have e23k:(k ==23)= false:=by rw[beq_eq_false_iff_ne];omega
   have HF:Hid (ownT E k s v ns [ta,tb]= pairT k ta tb):=I (zdt hk)
   have HPR:Hid (Calls Tryz.prog 84 #[.int .i64 k,vr] U (TPost p (pairT k ta tb) U)):=I (zb3 p k ta tb [ta,tb] vr U (HAR.o.row.next HBW.o) rfl rfl (HAR.o.oks ta (by simp)).1 (HAR.o.oks tb (by simp)).1 (HAR.o.oks ta (by simp)).2.1 (HAR.o.oks tb (by simp)).2.1 (fun b hb=>Nat.lt_of_lt_of_le (HAR.o.lo b hb) HBW.o.size))
   go_wp2_with (first|(go_at_call 84;refine HPR.o.mono ?_;rintro e z ⟨c1,rfl,hk1,hb1⟩;have HR1:=I (HRV.o.keep (hb1.block _ HRV.o.lt));have HL1:=I (zo hk1.typ).1;have HO1:=I (zo hk1.typ).2;have HK1:=I hk1;have HB1:=I hb1;clear hk1 hb1)|((with_reducible refine ze 45 _ _ rfl rfl ?_ ((w.heap.size+1)) (zT3) (c1) HR1.o ?_ ?_ ?_ ?_ ?_ ?_);(exact wA rfl);rw[HL1.o];rfl;rfl;rfl;rw[HL1.o];kernel_rfl;exact HO1.o;intro Z hz hb;have HZZ:=I hz;have HBZ:=I hb;clear hz hb))
   (try simp only[Exit.inBlock,Exit.then])
   refine bodyPost_ret (zi rfl _ _ (w.heap.size+1) (c1) HL1.o (.int .i64 (codeT (pairT k ta tb))) rfl HZZ.o rfl) rfl ?_
   refine⟨c1,by rw[HF.o],?_,(HBW.o.trans (HB1.o.mono HBW.o.size)).trans (HBZ.o.below (Nat.le_trans HBW.o.size HB1.o.size) HRG.o HRG.o)⟩
   rw[HF.o]
   exact HK1.o.to (fun b h1 h2=>⟨h1.imp id fun h=>Nat.le_trans HBW.o.size h,HBZ.o.block b h2 (fun e=>by
    rcases h1 with h|h
    ·have:=HAR.o.lo b h;omega
    ·have:=HRV.o.lt;omega) (fun e=>by
    rcases h1 with h|h
    ·have:=HAR.o.lo b h;omega
    ·have:=HRV.o.lt;omega)⟩) HBZ.o.size
  ·obtain⟨A,c,rfl,h2⟩:=HAR.o.row.inv
   obtain⟨b3,o3,rfl,hbb,hc⟩:=h2 (by simp)
   obtain⟨c0x,hl0x,hr0x,hk0x⟩:=hc 0 ta rfl
   have hr0y:w.rangeAt b3 (o3+0) c0x:=by simpa using hr0x
   have HL0:=I hl0x
   have HK0:=I hk0x
   have HO0:=I (zo hk0x.typ).2
   have HR0:=I (fun z (hz:Below w.heap.size w z)=>zc hr0y hz hbb)
   clear hl0x hr0x hk0x hr0y
   obtain⟨c1x,hl1x,hr1x,hk1x⟩:=hc 1 tb rfl
   have hr1y:w.rangeAt b3 (o3+3) c1x:=by simpa using hr1x
   have HL1:=I hl1x
   have HK1:=I hk1x
   have HO1:=I (zo hk1x.typ).2
   have HR1:=I (fun z (hz:Below w.heap.size w z)=>zc hr1y hz hbb)
   clear hl1x hr1x hk1x hr1y
   clear hc h2 hbb
   have HU0:Hid (U.rangeAt b3 (o3) c0x):=I (HR0.o U HBW.o)
   have d0:U.cell? ⟨b3,o3,none⟩= some (.int .i64 (kT ta)):=by have:=HU0.o 0 _ HK0.o.kind.1;simpa using this
   obtain⟨x0,hx0⟩:∃ x,kT ta= x:=⟨_,rfl⟩
   rw[hx0] at d0
   have HU1:Hid (U.rangeAt b3 (o3+3) c1x):=I (HR1.o U HBW.o)
   have d1:U.cell? ⟨b3,o3+3,none⟩= some (.int .i64 (kT tb)):=by have:=HU1.o 0 _ HK1.o.kind.1;simpa using this
   obtain⟨x1,hx1⟩:∃ x,kT tb= x:=⟨_,rfl⟩
   rw[hx1] at d1
   by_cases k5:x0= 5
   ·subst k5
    by_cases k2:x1= 2
    ·subst k2
     obtain⟨a,ha⟩:=(HAR.o.oks ta (by simp)).2.2 hx0
     cases ta with
     |mk k5 na ia=>
      obtain rfl:ia=[a]:=ha
      obtain⟨NA,nc,A4,c4,e,_,_,_,h3⟩:=HK0.o.inv
      obtain⟨b4,o4,rfl,hb4,hc4⟩:=h3 (by simp)
      obtain⟨ca,hla,hra,hka⟩:=hc4 0 a rfl
      have hra2:w.rangeAt b4 o4 ca:=by simpa using hra
      have d2:U.cell? ⟨b3,o3+2,none⟩= some (.slice (some ⟨b4,o4,none⟩) 1 c4):=HU0.o 2 _ (by rw[e];rfl)
      have HRA:Hid (U.rangeAt b4 o4 ca):=I (zc hra2 HBW.o hb4)
      have d3:U.cell? ⟨b4,o4,none⟩= some (.int .i64 (kT a)):=by have:=HRA.o 0 _ hka.kind.1;simpa using this
      have HLA:=I hla
      have HKA:=I hka
      have HOA2:=I (zo hka.typ).2
      clear h3 hc4 hra hra2 hla hka e
      have hk5:k5= 5:=hx0
      by_cases k7:kT a= 7
      ·rw[k7] at d3
       have HF:Hid (ownT E 19 s v ns [.mk k5 na [a],tb]= .error 6):=I (by show(if kT (.mk k5 na [a])= 5/\kT tb= 2/\kT (item0 (.mk k5 na [a]))≠7 then(Except.ok (item0 (.mk k5 na [a])):Except Int TT) else Except.error 6)= _;exact if_neg (fun h=>h.2.2 k7))
       go_wp2_with (first|((with_reducible refine za 45 _ rfl ?_ ((w.heap.size+2)) (0) (zT3) _ rfl HZV.o.range Tryz.underlying45 rfl ?_ ?_);(exact wA rfl);rw[HLZ.o];kernel_rfl)|((with_reducible refine ze 45 _ _ rfl rfl ?_ ((w.heap.size+1)) (zT3) (zT3) HRV.o ?_ ?_ ?_ ?_ ?_ ?_);(exact wA rfl);rfl;rfl;rfl;kernel_rfl;exact(zx _ _ _ _ _ _ _);intro Z hz hb;have HZZ:=I hz;have HBZ:=I hb;clear hz hb))
       (try simp only[Exit.inBlock,Exit.then])
       refine bodyPost_ret (zi rfl _ _ (w.heap.size+1) (zT3) rfl (.int .i64 6) rfl HZZ.o rfl) rfl ?_
       exact⟨zT3,by rw[HF.o];rfl,by rw[HF.o];exact zJ (zf 0 (by decide +kernel)),HBW.o.trans (HBZ.o.below HBW.o.size HRG.o HRG.o)⟩
      ·have e7:(kT a !=7)= true:=by simpa using k7
       have HF:Hid (ownT E 19 s v ns [.mk k5 na [a],tb]= .ok a):=I (by show(if kT (.mk k5 na [a])= 5/\kT tb= 2/\kT (item0 (.mk k5 na [a]))≠7 then(Except.ok (item0 (.mk k5 na [a])):Except Int TT) else Except.error 6)= _;exact if_pos ⟨hx0,hx1,k7⟩)
       go_wp2_with (first|((with_reducible refine za 45 _ rfl ?_ (b4) (o4) (ca) _ rfl HRA.o Tryz.underlying45 rfl ?_ ?_);(exact wA rfl);rw[HLA.o];kernel_rfl)|((with_reducible refine ze 45 _ _ rfl rfl ?_ ((w.heap.size+1)) (zT3) (ca) HRV.o ?_ ?_ ?_ ?_ ?_ ?_);(exact wA rfl);rw[HLA.o];rfl;rfl;rfl;rw[HLA.o];kernel_rfl;exact HOA2.o;intro Z hz hb;have HZZ:=I hz;have HBZ:=I hb;clear hz hb))
       (try simp only[Exit.inBlock,Exit.then])
       refine bodyPost_ret (zi rfl _ _ (w.heap.size+1) (ca) HLA.o (.int .i64 0) rfl HZZ.o rfl) rfl ?_
       exact⟨ca,by rw[HF.o];rfl,by rw[HF.o];exact HKA.o.to (fun b hb hl=>⟨.inl hb,(HBZ.o.block b (Nat.lt_of_lt_of_le hl HBW.o.size) (by omega) (by omega)).trans (HBW.o.block b hl)⟩) (Nat.le_trans HBW.o.size HBZ.o.size),HBW.o.trans (HBZ.o.below HBW.o.size HRG.o HRG.o)⟩
    ·have e2k:(x1 ==2)= false:=by rw[beq_eq_false_iff_ne];exact k2
     have HF:Hid (ownT E 19 s v ns [ta,tb]= .error 6):=I (by show(if kT (ta)= 5/\kT tb= 2/\kT (item0 (ta))≠7 then(Except.ok (item0 (ta)):Except Int TT) else Except.error 6)= _;exact if_neg (fun h=>k2 (hx1▸h.2.1)))
     go_wp2_with (first|((with_reducible refine za 45 _ rfl ?_ ((w.heap.size+2)) (0) (zT3) _ rfl HZV.o.range Tryz.underlying45 rfl ?_ ?_);(exact wA rfl);rw[HLZ.o];kernel_rfl)|((with_reducible refine ze 45 _ _ rfl rfl ?_ ((w.heap.size+1)) (zT3) (zT3) HRV.o ?_ ?_ ?_ ?_ ?_ ?_);(exact wA rfl);rfl;rfl;rfl;kernel_rfl;exact(zx _ _ _ _ _ _ _);intro Z hz hb;have HZZ:=I hz;have HBZ:=I hb;clear hz hb))
     (try simp only[Exit.inBlock,Exit.then])
     refine bodyPost_ret (zi rfl _ _ (w.heap.size+1) (zT3) rfl (.int .i64 6) rfl HZZ.o rfl) rfl ?_
     exact⟨zT3,by rw[HF.o];rfl,by rw[HF.o];exact zJ (zf 0 (by decide +kernel)),HBW.o.trans (HBZ.o.below HBW.o.size HRG.o HRG.o)⟩
   ·have e5k:(x0 ==5)= false:=by rw[beq_eq_false_iff_ne];exact k5
    have HF:Hid (ownT E 19 s v ns [ta,tb]= .error 6):=I (by show(if kT (ta)= 5/\kT tb= 2/\kT (item0 (ta))≠7 then(Except.ok (item0 (ta)):Except Int TT) else Except.error 6)= _;exact if_neg (fun h=>k5 (hx0▸h.1)))
    go_wp2_with (first|((with_reducible refine za 45 _ rfl ?_ ((w.heap.size+2)) (0) (zT3) _ rfl HZV.o.range Tryz.underlying45 rfl ?_ ?_);(exact wA rfl);rw[HLZ.o];kernel_rfl)|((with_reducible refine ze 45 _ _ rfl rfl ?_ ((w.heap.size+1)) (zT3) (zT3) HRV.o ?_ ?_ ?_ ?_ ?_ ?_);(exact wA rfl);rfl;rfl;rfl;kernel_rfl;exact(zx _ _ _ _ _ _ _);intro Z hz hb;have HZZ:=I hz;have HBZ:=I hb;clear hz hb))
    (try simp only[Exit.inBlock,Exit.then])
    refine bodyPost_ret (zi rfl _ _ (w.heap.size+1) (zT3) rfl (.int .i64 6) rfl HZZ.o rfl) rfl ?_
    exact⟨zT3,by rw[HF.o];rfl,by rw[HF.o];exact zJ (zf 0 (by decide +kernel)),HBW.o.trans (HBZ.o.below HBW.o.size HRG.o HRG.o)⟩
 ·obtain⟨ta,tb,tc,rfl⟩:=len3 hn
  clear hn
  obtain⟨A,c,rfl,h2⟩:=HAR.o.row.inv
  obtain⟨b3,o3,rfl,hbb,hc⟩:=h2 (by simp)
  obtain⟨c0x,hl0x,hr0x,hk0x⟩:=hc 0 ta rfl
  have hr0y:w.rangeAt b3 (o3+0) c0x:=by simpa using hr0x
  have HL0:=I hl0x
  have HK0:=I hk0x
  have HO0:=I (zo hk0x.typ).2
  have HR0:=I (fun z (hz:Below w.heap.size w z)=>zc hr0y hz hbb)
  clear hl0x hr0x hk0x hr0y
  obtain⟨c1x,hl1x,hr1x,hk1x⟩:=hc 1 tb rfl
  have hr1y:w.rangeAt b3 (o3+3) c1x:=by simpa using hr1x
  have HL1:=I hl1x
  have HK1:=I hk1x
  have HO1:=I (zo hk1x.typ).2
  have HR1:=I (fun z (hz:Below w.heap.size w z)=>zc hr1y hz hbb)
  clear hl1x hr1x hk1x hr1y
  obtain⟨c2x,hl2x,hr2x,hk2x⟩:=hc 2 tc rfl
  have hr2y:w.rangeAt b3 (o3+6) c2x:=by simpa using hr2x
  have HL2:=I hl2x
  have HK2:=I hk2x
  have HO2:=I (zo hk2x.typ).2
  have HR2:=I (fun z (hz:Below w.heap.size w z)=>zc hr2y hz hbb)
  clear hl2x hr2x hk2x hr2y
  clear hc h2 hbb
  have HRS1:Hid (∀ z,Below U.heap.size U z->z.rangeAt b3 (o3+3) c1x):=I fun z hz=>HR1.o z (HBW.o.trans (hz.mono HBW.o.size))
  have HRS2:Hid (∀ z,Below U.heap.size U z->z.rangeAt b3 (o3+6) c2x):=I fun z hz=>HR2.o z (HBW.o.trans (hz.mono HBW.o.size))
  obtain⟨bj,hbj⟩:∃ n,(joinT tb tc).isSome= n:=⟨_,rfl⟩
  have HBJ:=I hbj
  have HJC:Hid (∀ z,Below U.heap.size U z->Calls Tryz.prog 82 #[.agg ⟨c1x⟩,.agg ⟨c2x⟩] z fun e w'=>∃ cs,e= .returned (.tuple #[.agg ⟨cs⟩,.bool bj])/\KeptT (fun b=>p b\/z.heap.size<=b) w' cs (joinD tb tc)/\Below z.heap.size z w'):=I (fun z hz=>by
   have h:=z4f tb tc (HAR.o.oks tb (by simp)).1 (HAR.o.oks tc (by simp)).1 p c1x c2x z (fun b hb=>Nat.lt_of_lt_of_le (HAR.o.lo b hb) (Nat.le_trans HBW.o.size hz.size)) (HK1.o.next (HBW.o.trans (hz.mono HBW.o.size))) (HK2.o.next (HBW.o.trans (hz.mono HBW.o.size)))
   unfold z2E at h
   rw[hbj] at h
   exact h)
  clear hbj
  obtain⟨jt,hi,hy0,hy1,hy2⟩:=zT z2G
  have HT0:=I hi
  have HT1:=I hy0
  clear hi hy0 hy1 hy2
  go_upto_region 18 with (fail)
  clear e0
  have hs:Below U.heap.size U U.drew:=(Below.refl _ _).drew
  go_cut [10,11] (fun v n z=>∃ q c,v= .pointer (some ⟨q,0,none⟩)/\n= .bool bj/\Whole 45 z q c/\c.length= 3/\(∀ u∈c,u.oneCell'= true)/\KeptT (fun b=>(p) b\/U.heap.size<=b) z c (joinD tb tc)/\Below U.heap.size U z)
  case first=>
   refine z0S (.take 0 (.take 1 (.take 2 (.take 3 (.take 4 (.take 5 (.two 6 10 (.take 7 (.take 8 (.take 9 (.act 10 (.act 11 (.take 12 .done)))))) (.act 6 (.take 7 (.take 8 (.take 9 (.act 11 (.take 12 .done))))))))))))) (fun z=>Below U.heap.size U z) (by kernel_rfl) (by kernel_rfl) (by kernel_rfl) rfl (by intro c a d v w h;cases d<;>exact h) ?_
   refine z02 (some 75) (.slice (some ⟨b3,o3,none⟩) [ta,tb,tc].length c) _ _ rfl rfl rfl (by exact wA rfl) hs rfl ?_
   go_frame
   refine zq (some 76) (.pointer (some ⟨b3,o3+3,none⟩)) _ rfl rfl (by exact wA rfl) hs (fun z hz=>by go_simp) ?_
   go_frame
   refine zq (some 77) (.agg ⟨c1x⟩) _ rfl rfl (by exact wA rfl) hs (fun z hz=>zt 45 rfl (b3) (o3+3) (c1x) _ rfl (HRS1.o z hz) Tryz.underlying45 rfl (by rw[HL1.o];kernel_rfl)) ?_
   go_frame
   refine z02 (some 78) (.slice (some ⟨b3,o3,none⟩) [ta,tb,tc].length c) _ _ rfl rfl rfl (by exact wA rfl) hs rfl ?_
   go_frame
   refine zq (some 79) (.pointer (some ⟨b3,o3+6,none⟩)) _ rfl rfl (by exact wA rfl) hs (fun z hz=>by go_simp) ?_
   go_frame
   refine zq (some 80) (.agg ⟨c2x⟩) _ rfl rfl (by exact wA rfl) hs (fun z hz=>zt 45 rfl (b3) (o3+6) (c2x) _ rfl (HRS2.o z hz) Tryz.underlying45 rfl (by rw[HL2.o];kernel_rfl)) ?_
   go_frame
   refine z2o ?_ ?_
   ·have h0c1:Below U.heap.size U U.drew:=hs
    refine z1m (some 81) 82 Tryz.func82 (by kernel_rfl) (by kernel_rfl) [.agg ⟨c1x⟩,.agg ⟨c2x⟩] _ _ _ rfl rfl rfl (by exact wA rfl) rfl ?_
    refine(HJC.o U.drew hs).mono ?_
    rintro e w1 ⟨c1,rfl,hkc1,hbc1⟩
    have hlc1:=(zo hkc1.typ).1
    have hoc1:=(zo hkc1.typ).2
    have hs:Below U.heap.size U w1:=hs.trans (hbc1.mono hs.size)
    refine⟨_,rfl,hs,?_⟩
    go_frame
    refine z02 (some 74) (.tuple #[.agg ⟨c1⟩,.bool bj]) _ _ rfl rfl rfl (by exact wA rfl) hs rfl ?_
    go_frame
    refine zq (some 82) (.agg ⟨c1⟩) _ rfl rfl (by exact wA rfl) hs (fun z hz=>by go_simp) ?_
    go_frame
    refine zq (some 83) (.bool bj) _ rfl rfl (by exact wA rfl) hs (fun z hz=>by go_simp) ?_
    go_frame
    refine z0P (some 10) (.pointer (some ⟨w1.heap.size,0,none⟩)) (w1.alloc (.cells zT3.toArray 45)) _ rfl rfl (by exact wA rfl) (z0f 45 rfl _ _ HT0.o HT1.o) (hs.trans ((zd w1 _).mono hs.size)) ?_
    go_frame
    have hbw2:=zd w1 (.cells zT3.toArray 45)
    have hww2:Whole 45 (w1.alloc (.cells zT3.toArray 45)) w1.heap.size zT3:=Whole.new w1 zT3 45
    have hgw2:U.heap.size<=w1.heap.size:=hs.size
    have hs:Below U.heap.size U (w1.alloc (.cells zT3.toArray 45)):=hs.trans (hbw2.mono hs.size)
    have hzw2:w1.heap.size <(w1.alloc (.cells zT3.toArray 45)).heap.size:=hww2.lt
    generalize w1.alloc (.cells zT3.toArray 45)= w2 at*
    refine z0g none 45 _ _ _ rfl rfl rfl (by exact wA rfl) (w1.heap.size) zT3 c1 hww2 (by rw[hlc1];rfl) rfl rfl (by rw[hlc1];kernel_rfl) hoc1 ?_
    intro wf hwf hbf
    have hsf:Below U.heap.size U wf:=hs.trans (hbf.below hs.size hgw2 hgw2)
    refine⟨hsf,?_⟩
    go_frame
    refine z0s (some 11) (.bool bj) _ _ rfl rfl rfl (by exact wA rfl) hsf rfl ?_
    go_frame
    refine z12 ?_
    go_wp2
    go_meet
    case rel=>exact⟨_,c1,rfl,rfl,hwf,hlc1,hoc1,hkc1.to (fun b h1 h2=>⟨h1.imp id fun h=>Nat.le_trans h0c1.size h,(hbf.block b (Nat.lt_trans h2 hzw2) (Nat.ne_of_lt h2) (Nat.ne_of_lt h2)).trans (hbw2.block b h2)⟩) (Nat.le_trans hbw2.size hbf.size),hsf⟩
   ·refine z0P (some 10) (.pointer (some ⟨U.drew.heap.size,0,none⟩)) (U.drew.alloc (.cells zT3.toArray 45)) _ rfl rfl (by exact wA rfl) (z0f 45 rfl _ _ HT0.o HT1.o) (hs.trans ((zd U.drew _).mono hs.size)) ?_
    go_frame
    have hbw1:=zd U.drew (.cells zT3.toArray 45)
    have hww1:Whole 45 (U.drew.alloc (.cells zT3.toArray 45)) U.drew.heap.size zT3:=Whole.new U.drew zT3 45
    have hgw1:U.heap.size<=U.drew.heap.size:=hs.size
    have hs:Below U.heap.size U (U.drew.alloc (.cells zT3.toArray 45)):=hs.trans (hbw1.mono hs.size)
    have hzw1:U.drew.heap.size <(U.drew.alloc (.cells zT3.toArray 45)).heap.size:=hww1.lt
    generalize U.drew.alloc (.cells zT3.toArray 45)= w1 at*
    have hneP:∀ b,((p) b\/w1.heap.size<=b)->b≠U.drew.heap.size:=fun b h1 e=>by
     rcases h1 with h|h
     ·have:=Nat.lt_of_lt_of_le (HAR.o.lo b h) HBW.o.size
      have:=hgw1
      omega
     ·omega
    have h0c2:Below U.heap.size U w1:=hs
    refine z1m (some 81) 82 Tryz.func82 (by kernel_rfl) (by kernel_rfl) [.agg ⟨c1x⟩,.agg ⟨c2x⟩] _ _ _ rfl rfl rfl (by exact wA rfl) rfl ?_
    refine(HJC.o w1 hs).mono ?_
    rintro e w2 ⟨c2,rfl,hkc2,hbc2⟩
    have hlc2:=(zo hkc2.typ).1
    have hoc2:=(zo hkc2.typ).2
    have hs:Below U.heap.size U w2:=hs.trans (hbc2.mono hs.size)
    refine⟨_,rfl,hs,?_⟩
    go_frame
    have hww2:=hww1.keep (hbc2.block _ hww1.lt)
    refine z02 (some 74) (.tuple #[.agg ⟨c2⟩,.bool bj]) _ _ rfl rfl rfl (by exact wA rfl) hs rfl ?_
    go_frame
    refine zq (some 82) (.agg ⟨c2⟩) _ rfl rfl (by exact wA rfl) hs (fun z hz=>by go_simp) ?_
    go_frame
    refine zq (some 83) (.bool bj) _ rfl rfl (by exact wA rfl) hs (fun z hz=>by go_simp) ?_
    go_frame
    refine z0g none 45 _ _ _ rfl rfl rfl (by exact wA rfl) (U.drew.heap.size) zT3 c2 hww2 (by rw[hlc2];rfl) rfl rfl (by rw[hlc2];kernel_rfl) hoc2 ?_
    intro wf hwf hbf
    have hsf:Below U.heap.size U wf:=hs.trans (hbf.below hs.size hgw1 hgw1)
    refine⟨hsf,?_⟩
    go_frame
    refine z0s (some 11) (.bool bj) _ _ rfl rfl rfl (by exact wA rfl) hsf rfl ?_
    go_frame
    refine z12 ?_
    go_wp2
    go_meet
    case rel=>exact⟨_,c2,rfl,rfl,hwf,hlc2,hoc2,hkc2.to (fun b h1 h2=>⟨h1.imp id fun h=>Nat.le_trans h0c2.size h,hbf.block b h2 (hneP b h1) (hneP b h1)⟩) hbf.size,hsf⟩
  case rest=>
  obtain⟨q5,c5,rfl,rfl,hw5,hl5,ho5,hk5,hs5⟩:=hcut
  obtain⟨U2,hV2⟩:∃ z,z= wc:=⟨_,rfl⟩
  subst hV2
  have HC5:=I hl5
  have HO5:=I ho5
  have HK5:=I hk5
  have HW5:=I hw5
  have HG:=I HBW.o.size
  have HNE:Hid (∀ b,(p b\/U.heap.size<=b)->b≠w.heap.size+1):=I fun b hb e=>by
   have h1:=HRV.o.lt
   rcases hb with hb|hb
   ·have:=HAR.o.lo b hb;omega
   ·omega
  have HBW:=I (HBW.o.trans (hs5.mono HBW.o.size))
  have HRV:=I (HRV.o.keep (hs5.block _ HRV.o.lt))
  have HZV:=I (HZV.o.keep (hs5.block _ HZV.o.lt))
  clear hw5 hl5 ho5 hk5 hs5
  have HU0:Hid (U2.rangeAt b3 o3 c0x):=I (HR0.o U2 HBW.o)
  have d0:U2.cell? ⟨b3,o3,none⟩= some (.int .i64 (kT ta)):=by have:=HU0.o 0 _ HK0.o.kind.1;simpa using this
  obtain⟨x0,hx0⟩:∃ x,kT ta= x:=⟨_,rfl⟩
  rw[hx0] at d0
  by_cases k1:x0= 1
  ·subst k1
   cases bj with
   |true=>
    have HF:Hid (ownT E 15 s v ns [ta,tb,tc]= .ok (joinD tb tc)):=I (by
     show(match joinT tb tc with|some t=>if kT ta= 1 then Except.ok t else Except.error 6|none=>(Except.error 6:Except Int TT))= _
     have h:=HBJ.o
     unfold joinD
     cases hj:joinT tb tc with
     |none=>(rw[hj] at h;cases h)
     |some t=>exact if_pos hx0)
    go_wp2_with (first|((with_reducible refine za 45 _ rfl ?_ (q5) (0) (c5) _ rfl HW5.o.range Tryz.underlying45 rfl ?_ ?_);(exact wA rfl);rw[HC5.o];kernel_rfl)|((with_reducible refine ze 45 _ _ rfl rfl ?_ ((w.heap.size+1)) (zT3) (c5) HRV.o ?_ ?_ ?_ ?_ ?_ ?_);(exact wA rfl);rw[HC5.o];rfl;rfl;rfl;rw[HC5.o];kernel_rfl;exact HO5.o;intro Z hz hb;have HZZ:=I hz;have HBZ:=I hb;clear hz hb))
    (try simp only[Exit.inBlock,Exit.then])
    refine bodyPost_ret (zi rfl _ _ (w.heap.size+1) (c5) HC5.o (.int .i64 0) rfl HZZ.o rfl) rfl ?_
    exact⟨c5,by rw[HF.o];rfl,by rw[HF.o];exact HK5.o.to (fun b hb hl=>⟨hb.imp id fun h=>Nat.le_trans HG.o h,HBZ.o.block b hl (HNE.o b hb) (HNE.o b hb)⟩) HBZ.o.size,HBW.o.trans (HBZ.o.below HBW.o.size HRG.o HRG.o)⟩
   |false=>
    have HF:Hid (ownT E 15 s v ns [ta,tb,tc]= .error 6):=I (by
     show(match joinT tb tc with|some t=>if kT ta= 1 then Except.ok t else Except.error 6|none=>(Except.error 6:Except Int TT))= _
     have h:=HBJ.o
     cases hj:joinT tb tc with
     |none=>rfl
     |some t=>(rw[hj] at h;cases h))
    go_wp2_with (first|((with_reducible refine za 45 _ rfl ?_ ((w.heap.size+2)) (0) (zT3) _ rfl HZV.o.range Tryz.underlying45 rfl ?_ ?_);(exact wA rfl);rw[HLZ.o];kernel_rfl)|((with_reducible refine ze 45 _ _ rfl rfl ?_ ((w.heap.size+1)) (zT3) (zT3) HRV.o ?_ ?_ ?_ ?_ ?_ ?_);(exact wA rfl);rfl;rfl;rfl;kernel_rfl;exact(zx _ _ _ _ _ _ _);intro Z hz hb;have HZZ:=I hz;have HBZ:=I hb;clear hz hb))
    (try simp only[Exit.inBlock,Exit.then])
    refine bodyPost_ret (zi rfl _ _ (w.heap.size+1) (zT3) rfl (.int .i64 6) rfl HZZ.o rfl) rfl ?_
    exact⟨zT3,by rw[HF.o];rfl,by rw[HF.o];exact zJ (zf 0 (by decide +kernel)),HBW.o.trans (HBZ.o.below HBW.o.size HRG.o HRG.o)⟩
  ·have e1:(x0 ==1)= false:=by rw[beq_eq_false_iff_ne];exact k1
   have HF:Hid (ownT E 15 s v ns [ta,tb,tc]= .error 6):=I (by
    show(match joinT tb tc with|some t=>if kT ta= 1 then Except.ok t else Except.error 6|none=>(Except.error 6:Except Int TT))= _
    have h:=HBJ.o
    cases hj:joinT tb tc with
    |none=>rfl
    |some t=>exact if_neg (fun h=>k1 (hx0▸h)))
   go_wp2_with (first|((with_reducible refine za 45 _ rfl ?_ ((w.heap.size+2)) (0) (zT3) _ rfl HZV.o.range Tryz.underlying45 rfl ?_ ?_);(exact wA rfl);rw[HLZ.o];kernel_rfl)|((with_reducible refine ze 45 _ _ rfl rfl ?_ ((w.heap.size+1)) (zT3) (zT3) HRV.o ?_ ?_ ?_ ?_ ?_ ?_);(exact wA rfl);rfl;rfl;rfl;kernel_rfl;exact(zx _ _ _ _ _ _ _);intro Z hz hb;have HZZ:=I hz;have HBZ:=I hb;clear hz hb))
   (try simp only[Exit.inBlock,Exit.then])
   refine bodyPost_ret (zi rfl _ _ (w.heap.size+1) (zT3) rfl (.int .i64 6) rfl HZZ.o rfl) rfl ?_
   exact⟨zT3,by rw[HF.o];rfl,by rw[HF.o];exact zJ (zf 0 (by decide +kernel)),HBW.o.trans (HBZ.o.below HBW.o.size HRG.o HRG.o)⟩
 ·rcases hk with rfl|rfl
  ·have hll:l.length<=1000:=HAR.o.llen
   obtain⟨A,c,rfl,h2⟩:=HAR.o.row.inv
   have HIA:=I h2
   clear h2
   obtain⟨jt,hi,hy0,hy1,hy2⟩:=zT z2G
   have HT0:=I hi
   have HT1:=I hy0
   have HT2:=I hy1
   clear hi hy0 hy1 hy2
   go_upto_region 23 with (first|(go_at_call 81;refine(z0L 7 (zf 7 (by decide +kernel)) _).mono ?_;rintro e Y ⟨rfl,hb⟩;have HY:=I hb;clear hb)|((with_reducible refine ze 45 _ _ rfl rfl ?_ (Y.heap.size) zT3 (tyC 7 (.slice none 0 0) (.slice none 0 0)) ?_ ?_ ?_ ?_ ?_ ?_ ?_);(exact wA rfl);exact Whole.new Y zT3 45;rfl;rfl;rfl;kernel_rfl;exact zx _ _ _ _ _ _ _;intro X hz hb;have HWX:=I hz;have HXX:=I hb;clear hz hb))
   clear e0
   have HBY:Hid (Below w.heap.size w Y):=I (HBW.o.trans (HY.o.mono HBW.o.size))
   have HXY:Hid (Below Y.heap.size Y X):=I ((zd Y (.cells zT3.toArray 45)).trans (HXX.o.below (zd Y (.cells zT3.toArray 45)).size (Nat.le_refl _) (Nat.le_refl _)))
   have HRY:Hid (Whole 45 Y (w.heap.size+1) zT3):=I (HRV.o.keep (HY.o.block _ HRV.o.lt))
   have HZY:Hid (Whole 45 Y (w.heap.size+2) zT3):=I (HZV.o.keep (HY.o.block _ HZV.o.lt))
   obtain⟨q,hq⟩:∃ q,Y.heap.size= q:=⟨_,rfl⟩
   have HQ:=I hq
   rw[hq] at HWX
   rw[hq]
   clear hq HBW HRV HZV
   go_wp2
   go_loopg [13] l.length (fun g i u=>∃ (j:Nat) (cs:List Value) (t:TT),j+g= l.length/\i= .int .i64 j/\Whole 45 u q cs/\cs.length= 3/\(∀ x∈cs,x.oneCell'= true)/\KeptT (fun b=>(p b\/Y.heap.size<=b)/\b≠q) u cs t/\foldT (pT 7) (l.take j)= some t/\Below Y.heap.size Y u)
   case atStart=>exact⟨0,_,pT 7,by omega,rfl,HWX.o,rfl,zx _ _ _ _ _ _ _,zJ (zf 7 (by decide +kernel)),by rw[List.take_zero,foldT],HXY.o⟩
   case round=>
    obtain⟨j,cs,t,hj,rfl,hw,hl,ho,hk,hf,hb⟩:=hrel
    have HWQ:=I hw
    have HCS:=I hl
    have HCO:=I ho
    have HKC:=I hk
    have HFO:=I hf
    have HYV:=I hb
    clear hw hl ho hk hf hb
    obtain⟨V,hV⟩:∃ z,z= wr:=⟨_,rfl⟩
    subst hV
    have HBW:Hid (Below w.heap.size w V):=I (HBY.o.trans (HYV.o.mono HBY.o.size))
    have HRV:Hid (Whole 45 V (w.heap.size+1) zT3):=I (HRY.o.keep (HYV.o.block _ HRY.o.lt))
    have HZV:Hid (Whole 45 V (w.heap.size+2) zT3):=I (HZY.o.keep (HYV.o.block _ HZY.o.lt))
    cases gk with
    |zero=>
     obtain rfl:j= l.length:=by omega
     have hge: ¬ ((l.length:Int) <(l.length:Int)):=by omega
     have HFF:Hid (foldT (pT 7) l= some t):=I (by have h:=HFO.o;rwa [List.take_length] at h)
     have HF:Hid (ownT E 16 s v ns l= .ok (.mk 5 [] [t])):=I (by show(match foldT (pT 7) l with|some t=>Except.ok (TT.mk 5 [] [t])|none=>(Except.error 6:Except Int TT))= _;rw[HFF.o])
     have HBV:=I (zd V (.cells ⟨cs⟩ 45))
     have HRB:Hid (Whole 45 (V.alloc (.cells ⟨cs⟩ 45)) (w.heap.size+1) zT3):=I (HRV.o.keep (HBV.o.block _ HRV.o.lt))
     have HWN:Hid (Whole 45 (V.alloc (.cells ⟨cs⟩ 45)) V.heap.size cs):=I (Whole.new V cs 45)
     have HLL:Hid (w.heap.size+1 < V.heap.size):=I HRV.o.lt
     have HGY:Hid (w.heap.size+1 < Y.heap.size/\w.heap.size<=V.heap.size):=I ⟨HRY.o.lt,HBW.o.size⟩
     go_wp2_with (first|((with_reducible refine za 45 _ rfl ?_ (q) (0) (cs) _ rfl HWQ.o.range Tryz.underlying45 rfl ?_ ?_);(exact wA rfl);rw[HCS.o];kernel_rfl)|((with_reducible refine z0M 43 _ rfl ?_ 45 jt _ cs ?_ Tryz.underlying43 HT0.o HT1.o ?_ ?_ ?_ ?_);(exact wA rfl);rfl;rw[HCS.o];exact HT2.o;rw[HCS.o];decide;rw[HCS.o];decide)|((with_reducible refine ze 45 _ _ rfl rfl ?_ ((w.heap.size+1)) (zT3) (tyC 5 (.slice none 0 0) (.slice (some ⟨V.heap.size,0,none⟩) 1 1)) HRB.o ?_ ?_ ?_ ?_ ?_ ?_);(exact wA rfl);rfl;rfl;rfl;kernel_rfl;exact(zx _ _ _ _ _ _ _);intro Z hz hb;have HZZ:=I hz;have HBZ:=I hb;clear hz hb))
     (try simp only[Exit.inBlock,Exit.then])
     refine bodyPost_ret (zi rfl _ _ (w.heap.size+1) (tyC 5 (.slice none 0 0) (.slice (some ⟨V.heap.size,0,none⟩) 1 1)) rfl (.int .i64 0) rfl HZZ.o rfl) rfl ?_
     refine⟨_,by rw[HF.o];rfl,?_,(HBW.o.trans (HBV.o.mono HBW.o.size)).trans (HBZ.o.below (Nat.le_trans HBW.o.size HBV.o.size) HRG.o HRG.o)⟩
     rw[HF.o]
     refine zbl (q:=fun b=>p b\/w.heap.size<=b) (t:=t) ?_ (HWN.o.keep (HBZ.o.block _ HWN.o.lt (by have:=HLL.o;omega) (by have:=HLL.o;omega))) (.inr HGY.o.2)
     refine HKC.o.to (fun b h1 h2=>⟨h1.1.imp id fun h=>by have:=HGY.o;omega,?_⟩) (Nat.le_trans HBV.o.size HBZ.o.size)
     have hne:b≠w.heap.size+1:=fun e=>by
      have:=HGY.o
      rcases h1.1 with h|h
      ·have:=HAR.o.lo b h;omega
      ·omega
     exact(HBZ.o.block b (Nat.lt_of_lt_of_le h2 HBV.o.size) hne hne).trans (HBV.o.block b h2)
    |succ g=>
     have hlt:(j:Int) <(l.length:Int):=by omega
     have ilt:j < l.length:=by omega
     obtain⟨x,hx⟩:∃ x,l[j]?= some x:=⟨_,List.getElem?_eq_getElem ilt⟩
     obtain⟨b3,o3,rfl,hbb,hc⟩:=HIA.o (by omega)
     obtain⟨kx,hlx,hrx,hkx⟩:=hc j x hx
     have HX:=I hx
     have HLX:=I hlx
     have HRX:=I (fun z (hz:Below V.heap.size V z)=>zc hrx (HBW.o.trans (hz.mono HBW.o.size)) hbb)
     have HRQ:=I (fun z (hz:Below V.heap.size V z)=>(HWQ.o.keep (hz.block _ HWQ.o.lt)).range)
     obtain⟨pp,hpp⟩:∃ pp:Nat->Prop,pp= fun b=>((p b\/Y.heap.size<=b)/\b≠q)/\b < V.heap.size:=⟨_,rfl⟩
     have HPP:Hid (∀ b,pp b->((p b\/Y.heap.size<=b)/\b≠q)/\b < V.heap.size):=I fun b hb=>by rw[hpp] at hb;exact hb
     have hk1:KeptT pp V cs t:=HKC.o.to (fun b h1 h2=>⟨by rw[hpp];exact⟨h1,h2⟩,rfl⟩) (Nat.le_refl _)
     have hk2:KeptT pp V kx x:=(hkx.next HBW.o).to (fun b h1 h2=>⟨by rw[hpp];exact⟨⟨.inl h1,fun e=>by have:=HAR.o.lo b h1;have:=HBY.o.size;have:=HQ.o;omega⟩,h2⟩,rfl⟩) (Nat.le_refl _)
     obtain⟨bj,hbj⟩:∃ b,(joinT t x).isSome= b:=⟨_,rfl⟩
     have HBJ:=I hbj
     have hjt:jok t= true:=z6s (l:=l.take j) (t:=pT 7) rfl (fun y hy=>(HAR.o.oks y (List.mem_of_mem_take hy)).1) HFO.o
     have HJC:Hid (∀ z,Below V.heap.size V z->Calls Tryz.prog 82 #[.agg ⟨cs⟩,.agg ⟨kx⟩] z fun e w'=>∃ cs,e= .returned (.tuple #[.agg ⟨cs⟩,.bool bj])/\KeptT (fun b=>pp b\/z.heap.size<=b) w' cs (joinD t x)/\Below z.heap.size z w'):=I (fun z hz=>by
      have h:=z4f t x hjt (HAR.o.oks x (List.mem_of_getElem? hx)).1 pp cs kx z (fun b hb=>Nat.lt_of_lt_of_le (HPP.o b hb).2 hz.size) (hk1.next hz) (hk2.next hz)
      unfold z2E at h
      rw[hbj] at h
      exact h)
     clear hx hlx hrx hkx hc hk1 hk2 hbj hjt hpp hbb
     go_upto_region 26 with (fail)
     have hs:Below V.heap.size V V.drew:=(Below.refl _ _).drew
     go_cut [14,15] (fun v n z=>∃ q c,v= .pointer (some ⟨q,0,none⟩)/\n= .bool bj/\Whole 45 z q c/\c.length= 3/\(∀ u∈c,u.oneCell'= true)/\KeptT (fun b=>(pp) b\/V.heap.size<=b) z c (joinD t x)/\Below V.heap.size V z)
     case first=>
      refine z0S (.take 0 (.take 1 (.take 2 (.take 3 (.take 4 (.two 5 9 (.take 6 (.take 7 (.take 8 (.act 9 (.act 10 (.take 11 .done)))))) (.act 5 (.take 6 (.take 7 (.take 8 (.act 10 (.take 11 .done)))))))))))) (fun z=>Below V.heap.size V z) (by kernel_rfl) (by kernel_rfl) (by kernel_rfl) rfl (by intro c a d v w h;cases d<;>exact h) ?_
      refine zq (some 103) (.agg ⟨cs⟩) _ rfl rfl (by exact wA rfl) hs (fun z hz=>zt 45 rfl (q) (0) (cs) _ rfl (HRQ.o z hz) Tryz.underlying45 rfl (by rw[HCS.o];kernel_rfl)) ?_
      go_frame
      refine z02 (some 104) (.slice (some ⟨b3,o3,none⟩) l.length c) _ _ rfl rfl rfl (by exact wA rfl) hs rfl ?_
      go_frame
      refine z02 (some 105) (.int .i64 j) _ _ rfl rfl rfl (by exact wA rfl) hs rfl ?_
      go_frame
      refine zq (some 106) (.pointer (some ⟨b3,o3+j*3,none⟩)) _ rfl rfl (by exact wA rfl) hs (fun z hz=>by go_simp) ?_
      go_frame
      refine zq (some 107) (.agg ⟨kx⟩) _ rfl rfl (by exact wA rfl) hs (fun z hz=>zt 45 rfl (b3) (o3+j*3) (kx) _ rfl (HRX.o z hz) Tryz.underlying45 rfl (by rw[HLX.o];kernel_rfl)) ?_
      go_frame
      refine z2o ?_ ?_
      ·have h0c1:Below V.heap.size V V.drew:=hs
       refine z1m (some 108) 82 Tryz.func82 (by kernel_rfl) (by kernel_rfl) [.agg ⟨cs⟩,.agg ⟨kx⟩] _ _ _ rfl rfl rfl (by exact wA rfl) rfl ?_
       refine(HJC.o V.drew hs).mono ?_
       rintro e w1 ⟨c1,rfl,hkc1,hbc1⟩
       have hlc1:=(zo hkc1.typ).1
       have hoc1:=(zo hkc1.typ).2
       have hs:Below V.heap.size V w1:=hs.trans (hbc1.mono hs.size)
       refine⟨_,rfl,hs,?_⟩
       go_frame
       refine z02 (some 102) (.tuple #[.agg ⟨c1⟩,.bool bj]) _ _ rfl rfl rfl (by exact wA rfl) hs rfl ?_
       go_frame
       refine zq (some 109) (.agg ⟨c1⟩) _ rfl rfl (by exact wA rfl) hs (fun z hz=>by go_simp) ?_
       go_frame
       refine zq (some 110) (.bool bj) _ rfl rfl (by exact wA rfl) hs (fun z hz=>by go_simp) ?_
       go_frame
       refine z0P (some 14) (.pointer (some ⟨w1.heap.size,0,none⟩)) (w1.alloc (.cells zT3.toArray 45)) _ rfl rfl (by exact wA rfl) (z0f 45 rfl _ _ HT0.o HT1.o) (hs.trans ((zd w1 _).mono hs.size)) ?_
       go_frame
       have hbw2:=zd w1 (.cells zT3.toArray 45)
       have hww2:Whole 45 (w1.alloc (.cells zT3.toArray 45)) w1.heap.size zT3:=Whole.new w1 zT3 45
       have hgw2:V.heap.size<=w1.heap.size:=hs.size
       have hs:Below V.heap.size V (w1.alloc (.cells zT3.toArray 45)):=hs.trans (hbw2.mono hs.size)
       have hzw2:w1.heap.size <(w1.alloc (.cells zT3.toArray 45)).heap.size:=hww2.lt
       generalize w1.alloc (.cells zT3.toArray 45)= w2 at*
       refine z0g none 45 _ _ _ rfl rfl rfl (by exact wA rfl) (w1.heap.size) zT3 c1 hww2 (by rw[hlc1];rfl) rfl rfl (by rw[hlc1];kernel_rfl) hoc1 ?_
       intro wf hwf hbf
       have hsf:Below V.heap.size V wf:=hs.trans (hbf.below hs.size hgw2 hgw2)
       refine⟨hsf,?_⟩
       go_frame
       refine z0s (some 15) (.bool bj) _ _ rfl rfl rfl (by exact wA rfl) hsf rfl ?_
       go_frame
       refine z12 ?_
       go_wp2
       go_meet
       case rel=>exact⟨_,c1,rfl,rfl,hwf,hlc1,hoc1,hkc1.to (fun b h1 h2=>⟨h1.imp id fun h=>Nat.le_trans h0c1.size h,(hbf.block b (Nat.lt_trans h2 hzw2) (Nat.ne_of_lt h2) (Nat.ne_of_lt h2)).trans (hbw2.block b h2)⟩) (Nat.le_trans hbw2.size hbf.size),hsf⟩
      ·refine z0P (some 14) (.pointer (some ⟨V.drew.heap.size,0,none⟩)) (V.drew.alloc (.cells zT3.toArray 45)) _ rfl rfl (by exact wA rfl) (z0f 45 rfl _ _ HT0.o HT1.o) (hs.trans ((zd V.drew _).mono hs.size)) ?_
       go_frame
       have hbw1:=zd V.drew (.cells zT3.toArray 45)
       have hww1:Whole 45 (V.drew.alloc (.cells zT3.toArray 45)) V.drew.heap.size zT3:=Whole.new V.drew zT3 45
       have hgw1:V.heap.size<=V.drew.heap.size:=hs.size
       have hs:Below V.heap.size V (V.drew.alloc (.cells zT3.toArray 45)):=hs.trans (hbw1.mono hs.size)
       have hzw1:V.drew.heap.size <(V.drew.alloc (.cells zT3.toArray 45)).heap.size:=hww1.lt
       generalize V.drew.alloc (.cells zT3.toArray 45)= w1 at*
       have hneP:∀ b,((pp) b\/w1.heap.size<=b)->b≠V.drew.heap.size:=fun b h1 e=>by
        rcases h1 with h|h
        ·have:=(HPP.o b h).2
         have:=hgw1
         omega
        ·omega
       have h0c2:Below V.heap.size V w1:=hs
       refine z1m (some 108) 82 Tryz.func82 (by kernel_rfl) (by kernel_rfl) [.agg ⟨cs⟩,.agg ⟨kx⟩] _ _ _ rfl rfl rfl (by exact wA rfl) rfl ?_
       refine(HJC.o w1 hs).mono ?_
       rintro e w2 ⟨c2,rfl,hkc2,hbc2⟩
       have hlc2:=(zo hkc2.typ).1
       have hoc2:=(zo hkc2.typ).2
       have hs:Below V.heap.size V w2:=hs.trans (hbc2.mono hs.size)
       refine⟨_,rfl,hs,?_⟩
       go_frame
       have hww2:=hww1.keep (hbc2.block _ hww1.lt)
       refine z02 (some 102) (.tuple #[.agg ⟨c2⟩,.bool bj]) _ _ rfl rfl rfl (by exact wA rfl) hs rfl ?_
       go_frame
       refine zq (some 109) (.agg ⟨c2⟩) _ rfl rfl (by exact wA rfl) hs (fun z hz=>by go_simp) ?_
       go_frame
       refine zq (some 110) (.bool bj) _ rfl rfl (by exact wA rfl) hs (fun z hz=>by go_simp) ?_
       go_frame
       refine z0g none 45 _ _ _ rfl rfl rfl (by exact wA rfl) (V.drew.heap.size) zT3 c2 hww2 (by rw[hlc2];rfl) rfl rfl (by rw[hlc2];kernel_rfl) hoc2 ?_
       intro wf hwf hbf
       have hsf:Below V.heap.size V wf:=hs.trans (hbf.below hs.size hgw1 hgw1)
       refine⟨hsf,?_⟩
       go_frame
       refine z0s (some 15) (.bool bj) _ _ rfl rfl rfl (by exact wA rfl) hsf rfl ?_
       go_frame
       refine z12 ?_
       go_wp2
       go_meet
       case rel=>exact⟨_,c2,rfl,rfl,hwf,hlc2,hoc2,hkc2.to (fun b h1 h2=>⟨h1.imp id fun h=>Nat.le_trans h0c2.size h,hbf.block b h2 (hneP b h1) (hneP b h1)⟩) hbf.size,hsf⟩
     case rest=>
     obtain⟨q5,c5,rfl,rfl,hw5,hl5,ho5,hk5,hs5⟩:=hcut
     obtain⟨U2,hV2⟩:∃ z,z= wc:=⟨_,rfl⟩
     subst hV2
     have HC5:=I hl5
     have HO5:=I ho5
     have HK5:=I hk5
     have HW5:=I hw5
     have HS5:=I hs5
     clear hw5 hl5 ho5 hk5 hs5
     cases bj with
     |false=>
      have HFF:Hid (foldT (pT 7) l= none):=I (by
       have h:=z3A HFO.o HX.o
       have h2:=HBJ.o
       cases hj:joinT t x with
       |none=>rw[hj] at h;exact z5o h
       |some y=>rw[hj] at h2;cases h2)
      have HF:Hid (ownT E 16 s v ns l= .error 6):=I (by show(match foldT (pT 7) l with|some t=>Except.ok (TT.mk 5 [] [t])|none=>(Except.error 6:Except Int TT))= _;rw[HFF.o])
      have HBW:=I (HBW.o.trans (HS5.o.mono HBW.o.size))
      have HRV:=I (HRV.o.keep (HS5.o.block _ HRV.o.lt))
      have HZV:=I (HZV.o.keep (HS5.o.block _ HZV.o.lt))
      go_wp2_with (first|((with_reducible refine za 45 _ rfl ?_ ((w.heap.size+2)) (0) (zT3) _ rfl HZV.o.range Tryz.underlying45 rfl ?_ ?_);(exact wA rfl);rw[HLZ.o];kernel_rfl)|((with_reducible refine ze 45 _ _ rfl rfl ?_ ((w.heap.size+1)) (zT3) (zT3) HRV.o ?_ ?_ ?_ ?_ ?_ ?_);(exact wA rfl);rfl;rfl;rfl;kernel_rfl;exact(zx _ _ _ _ _ _ _);intro Z hz hb;have HZZ:=I hz;have HBZ:=I hb;clear hz hb))
      (try simp only[Exit.inBlock,Exit.then])
      refine bodyPost_ret (zi rfl _ _ (w.heap.size+1) (zT3) rfl (.int .i64 6) rfl HZZ.o rfl) rfl ?_
      exact⟨zT3,by rw[HF.o];rfl,by rw[HF.o];exact zJ (zf 0 (by decide +kernel)),HBW.o.trans (HBZ.o.below HBW.o.size HRG.o HRG.o)⟩
     |true=>
      have HFN:Hid (foldT (pT 7) (l.take (j+1))= some (joinD t x)):=I (by
       rw[z3A HFO.o HX.o]
       have h2:=HBJ.o
       unfold joinD
       cases hj:joinT t x with
       |none=>rw[hj] at h2;cases h2
       |some y=>rfl)
      have HWQ2:=I (HWQ.o.keep (HS5.o.block _ HWQ.o.lt))
      have HQV:Hid (q < V.heap.size):=I HWQ.o.lt
      go_wp2_with (first|((with_reducible refine za 45 _ rfl ?_ (q5) (0) (c5) _ rfl HW5.o.range Tryz.underlying45 rfl ?_ ?_);(exact wA rfl);rw[HC5.o];kernel_rfl)|((with_reducible refine ze 45 _ _ rfl rfl ?_ (q) (cs) (c5) HWQ2.o ?_ ?_ ?_ ?_ ?_ ?_);(exact wA rfl);rw[HC5.o,HCS.o];rfl;rfl;rw[HC5.o];kernel_rfl;exact HO5.o;intro Z hz hb;have HZZ:=I hz;have HBZ:=I hb;clear hz hb))
      go_roundg g
      case measure=>omega
      case rel=>
       refine⟨j+1,c5,joinD t x,by omega,by go_num,HZZ.o,HC5.o,HO5.o,?_,HFN.o,(HYV.o.trans (HS5.o.mono HYV.o.size)).trans (HBZ.o.below (Nat.le_trans HYV.o.size HS5.o.size) (Nat.le_of_eq HQ.o) (Nat.le_of_eq HQ.o))⟩
       refine HK5.o.to (fun b h1 h2=> ?_) HBZ.o.size
       have hne:b≠q:=by
        rcases h1 with h|h
        ·exact(HPP.o b h).1.2
        ·have:=HQV.o;omega
       refine⟨⟨?_,hne⟩,HBZ.o.block b h2 hne hne⟩
       rcases h1 with h|h
       ·exact(HPP.o b h).1.1
       ·exact .inr (Nat.le_trans HYV.o.size h)
  ·obtain⟨_,_,_,_,_,vn,hn8,hns⟩:=HAR.o.cells
   have hkk:KeptT p w (tyC 6 vn vr) (.mk 6 ns l):=z5e (zf 6 (by decide +kernel)) hns (Nat.le_trans HAR.o.llen (by unfold maxLen;omega)) HAR.o.row
   obtain⟨A,c,rfl,_⟩:=HAR.o.row.inv
   obtain⟨_,NA,nc,rfl,_⟩:=hns
   have HKK:=I hkk
   have HN8:=I hn8
   clear hkk hn8
   have e8:U.cell? ⟨w.heap.size,8,none⟩= some (.slice NA ns.length nc):=HOA.o.exp.range 8 _ HN8.o
   have HF:Hid (ownT E 17 s v ns l= .ok (.mk 6 ns l)):=I rfl
   go_wp2_with (first|((with_reducible refine ze 45 _ _ rfl rfl ?_ ((w.heap.size+1)) (zT3) (tyC 6 (.slice NA ns.length nc) (.slice A l.length c)) HRV.o ?_ ?_ ?_ ?_ ?_ ?_);(exact wA rfl);rfl;rfl;rfl;kernel_rfl;exact(zx _ _ _ _ _ _ _);intro Z hz hb;have HZZ:=I hz;have HBZ:=I hb;clear hz hb))
   (try simp only[Exit.inBlock,Exit.then])
   refine bodyPost_ret (zi rfl _ _ (w.heap.size+1) (tyC 6 (.slice NA ns.length nc) (.slice A l.length c)) rfl (.int .i64 0) rfl HZZ.o rfl) rfl ?_
   exact⟨tyC 6 (.slice NA ns.length nc) (.slice A l.length c),by rw[HF.o];rfl,by rw[HF.o];exact HKK.o.to (fun b hb hl=>⟨.inl hb,(HBZ.o.block b (Nat.lt_of_lt_of_le hl HBW.o.size) (by omega) (by omega)).trans (HBW.o.block b hl)⟩) (Nat.le_trans HBW.o.size HBZ.o.size),HBW.o.trans (HBZ.o.below HBW.o.size HRG.o HRG.o)⟩
end
section
open Go Go.RowKit
theorem zbv {t:TT} (h:typeT t= true):tok t:=by
 refine⟨zcw h,?_,?_⟩
 ·unfold typeT at h
  rw[Bool.and_eq_true] at h
  have h:=h.2
  cases t with
  |mk k ns its=>
   rw[zY] at h
   rw[if_neg (by decide)] at h
   unfold lf
   by_cases h5:k= 5
   ·exact .inl h5
   ·rw[if_neg h5] at h
    by_cases h6:k= 6
    ·exact .inr (.inl h6)
    ·rw[if_neg h6] at h
     by_cases h7:k= 1\/k= 2\/k= 3\/k= 4\/k= 7
     ·rw[if_pos h7] at h
      simp only[Bool.and_eq_true,beq_iff_eq] at h
      obtain⟨h8,h9⟩:=h
      rw[List.eq_nil_of_length_eq_zero h8,List.eq_nil_of_length_eq_zero h9]
      exact .inr (.inr rfl)
     ·rw[if_neg h7] at h;cases h
 ·intro h5
  unfold typeT at h
  rw[Bool.and_eq_true] at h
  have h:=h.2
  cases t with
  |mk k ns its=>
   have h5:k= 5:=h5
   subst h5
   obtain⟨hl,_⟩:=z1q h
   obtain⟨a,rfl⟩:=len1 hl
   exact⟨a,rfl⟩
theorem z8K {E:List VarT} {k:Int} {s:ByteArray} {v:VT} {ns:List ByteArray} {l:List TT} {e:Int} (h:ownT E k s v ns l= .error e):e≠0:=by
 have hp:∀ {a b:TT} {e:Int},pairT k a b= .error e->e≠0:=by
  intro a b e h
  unfold pairT at h
  simp only at h
  repeat' split at h
  all_goals first|(injection h with h;omega)|cases h
 have hf:∀ {t:TT} {e:Int},z0j s t= .error e->e≠0:=by
  intro t e h
  cases t with
  |mk k ns ts=>
   unfold z0j at h
   repeat' split at h
   all_goals first|(injection h with h;omega)|cases h
 have hi:∀ {c:Prop} [Decidable c] {t:TT} {e:Int},(if c then(Except.ok t:Except Int TT) else Except.error 6)= Except.error e->e≠0:=by
  intro c _ t e h
  split at h
  ·cases h
  ·injection h with h;omega
 unfold ownT at h
 by_cases k1:k= 1
 ·rw[if_pos k1] at h
  cases h
 rw[if_neg k1] at h
 by_cases k2:k= 2
 ·rw[if_pos k2] at h
  by_cases hf:findV E s= -1
  ·rw[if_pos hf] at h;injection h with h;omega
  ·rw[if_neg hf] at h
   cases hx:E[(findV E s).toNat]? with
   |none=>rw[hx] at h;injection h with h;omega
   |some y=>rw[hx] at h;cases h
 rw[if_neg k2] at h
 by_cases k3:k= 3
 ·rw[if_pos k3] at h
  exact hi h
 rw[if_neg k3] at h
 by_cases k4:k= 4
 ·rw[if_pos k4] at h
  exact hi h
 rw[if_neg k4] at h
 by_cases k15:k= 15
 ·rw[if_pos k15] at h
  cases hx:joinT (l.getD 1 (pT 0)) (l.getD 2 (pT 0)) with
  |none=>rw[hx] at h;injection h with h;omega
  |some y=>rw[hx] at h;exact hi h
 rw[if_neg k15] at h
 by_cases k16:k= 16
 ·rw[if_pos k16] at h
  cases hx:foldT (pT 7) l with
  |none=>rw[hx] at h;injection h with h;omega
  |some y=>rw[hx] at h;cases h
 rw[if_neg k16] at h
 by_cases k17:k= 17
 ·rw[if_pos k17] at h
  cases h
 rw[if_neg k17] at h
 by_cases k18:k= 18
 ·rw[if_pos k18] at h
  exact hf h
 rw[if_neg k18] at h
 by_cases k19:k= 19
 ·rw[if_pos k19] at h
  exact hi h
 rw[if_neg k19] at h
 by_cases k20:k= 20
 ·rw[if_pos k20] at h
  exact hi h
 rw[if_neg k20] at h
 by_cases k21:k= 21
 ·rw[if_pos k21] at h
  exact hi h
 rw[if_neg k21] at h
 by_cases k22:k= 22
 ·rw[if_pos k22] at h
  exact hi h
 rw[if_neg k22] at h
 by_cases k23:k= 23
 ·rw[if_pos k23] at h
  exact hi h
 rw[if_neg k23] at h
 exact hp h
theorem z6n {E:List VarT}:∀ {its:List ET} {j:Nat} {vs:List TT} {x:ET} {t:TT},seqT (zM E (its.take j))= .ok vs->its[j]?= some x->zZ E x= .ok t->seqT (zM E (its.take (j+1)))= .ok (vs ++ [t])
 |[],_,_,_,_,_,hx,_=>by cases hx
 |a::l,0,vs,x,t,h,hx,ht=>by
  simp only[List.getElem?_cons_zero,Option.some.injEq] at hx
  subst hx
  simp only[List.take_zero,zM,seqT,Except.ok.injEq] at h
  subst h
  simp[zM,seqT,ht]
 |a::l,j+1,vs,x,t,h,hx,ht=>by
  simp only[List.getElem?_cons_succ] at hx
  rw[List.take_succ_cons,zM] at h
  rw[List.take_succ_cons,zM]
  cases ha:zZ E a with
  |error e=>rw[ha] at h;cases h
  |ok u=>
   rw[ha,seqT] at h
   rw[seqT]
   cases hl:seqT (zM E (l.take j)) with
   |error e=>rw[hl] at h;cases h
   |ok us=>
    rw[hl] at h
    injection h with h
    subst h
    rw[z6n hl hx ht]
    rfl
theorem z6X {E:List VarT}:∀ {its:List ET} {j:Nat} {vs:List TT} {x:ET} {e:Int},seqT (zM E (its.take j))= .ok vs->its[j]?= some x->zZ E x= .error e->seqT (zM E its)= .error e
 |[],_,_,_,_,_,hx,_=>by cases hx
 |a::l,0,vs,x,e,h,hx,ht=>by
  simp only[List.getElem?_cons_zero,Option.some.injEq] at hx
  subst hx
  rw[zM,ht,seqT]
 |a::l,j+1,vs,x,e,h,hx,ht=>by
  simp only[List.getElem?_cons_succ] at hx
  rw[List.take_succ_cons,zM] at h
  rw[zM]
  cases ha:zZ E a with
  |error e=>rw[ha] at h;cases h
  |ok u=>
   rw[ha,seqT] at h
   rw[seqT]
   cases hl:seqT (zM E (l.take j)) with
   |error e=>rw[hl] at h;cases h
   |ok us=>rw[z6X hl hx ht]
theorem z6C {E:List VarT} (x:ET):∀ e,zZ E x= .error e->e≠0:=by
 induction x using ET.ind with
 |h k s v ns its ih=>
  intro e h
  have key:∀ (l:List ET) e,(∀ y∈l,∀ e,zZ E y= .error e->e≠0)->seqT (zM E l)= .error e->e≠0:=by
   intro l
   induction l with
   |nil=>intro e _ h;rw[zM,seqT] at h;cases h
   |cons a l ihl=>
    intro e hy h
    rw[zM] at h
    cases ha:zZ E a with
    |error e2=>
     rw[ha,seqT] at h
     injection h with h
     subst h
     exact hy a (by simp) _ ha
    |ok u=>
     rw[ha,seqT] at h
     cases hl:seqT (zM E l) with
     |error e2=>
      rw[hl] at h
      injection h with h
      subst h
      exact ihl _ (fun y hyy=>hy y (List.mem_cons_of_mem _ hyy)) hl
     |ok us=>rw[hl] at h;cases h
  rw[zZ] at h
  cases hs:seqT (zM E its) with
  |error e2=>
   rw[hs] at h
   injection h with h
   subst h
   exact key its _ ih hs
  |ok l=>
   rw[hs] at h
   dsimp only at h
   cases ho:ownT E k s v ns l with
   |error e2=>
    rw[ho] at h
    injection h with h
    subst h
    exact z8K ho
   |ok t=>
    rw[ho] at h
    dsimp only at h
    split at h
    ·cases h
    ·injection h with h;omega
theorem zaW {p:Nat->Prop} {w:World} {ce:List Value} {k:Int} {s:ByteArray} {v:VT} {ns:List ByteArray} {its:List ET} (h:KeptP p w ce (.mk k s v ns its)):∃ A c,ce[9]?= some (.slice A its.length c)/\ce.length= 10/\(0 < its.length->∃ b o,A= some ⟨b,o,none⟩/\b < w.heap.size/\∀ (i:Nat) x,its[i]?= some x->∃ ks:List Value,ks.length= 10/\w.rangeAt b (o+i*10) ks/\KeptP p w ks x):=by
 obtain⟨c0,c1,c2,c3,c4,c5,vn,vi,rfl,hk,hs,hv,hns,_,hi⟩:=ExpAt.inv h
 obtain⟨_,A,c,rfl,h2⟩:=hi
 refine⟨A,c,rfl,rfl,fun h0=> ?_⟩
 obtain⟨b,o,e,hb,hc⟩:=h2 h0
 refine⟨b,o,e,hb,fun i x hx=> ?_⟩
 obtain⟨ks,hl,hr,hks⟩:=hc i x hx
 exact⟨ks,hl,fun j v hv=>(zu.1 (hr j v hv)).2,hks⟩
theorem KeptP.next {p:Nat->Prop} {w u:World} {cs:List Value} {t:ET} (h:KeptP p w cs t) (hb:Below w.heap.size w u):KeptP p u cs t:=h.to (fun b hp hl=>⟨hp,hb.block b hl⟩) hb.size
end
section
open Go Go.RowKit
theorem z96 (E:List VarT) (hEl:E.length<=10000):∀ (x:ET) (d:Nat) (p:Nat->Prop) (ce:List Value) (va:Value) (w:World),z01 x d= true->szE x<=200->KeptP p w ce x->SlAt (only w p) w.heap.size 11 (VarAt (only w p) w.heap.size) va E->(∀ b,p b->b < w.heap.size)->
  Calls Tryz.prog 19 #[.agg ⟨ce⟩,va] w (TPost p (zZ E x) w):=by
 intro x
 induction x using ET.ind with
 |h k s v ns its ih=>
  intro d p ce va w hr hz hx hv hp
  rw[z01] at hr
  simp only[Bool.and_eq_true,decide_eq_true_eq] at hr
  obtain⟨_,hkids,_,_,hrl⟩:=hr
  rw[z1W] at hrl
  rw[szE] at hz
  have hil:its.length<=200:=by have:=z4P its;omega
  have HCH:Hid (∀ x∈its,∀ (ks:List Value) z,Below w.heap.size w z->KeptP p w ks x->Calls Tryz.prog 19 #[.agg ⟨ks⟩,va] z (TPost p (zZ E x) z)):=I fun x hxm ks z hzb hkx=>ih x hxm (d+1) p ks va z (hrl x hxm) (by have:=z4W hxm;omega) (hkx.next hzb) (z3N hv hzb) (fun b hb=>Nat.lt_of_lt_of_le (hp b hb) hzb.size)
  have HEX:=I hx
  have HVA:=I hv
  have HLO:=I hp
  have HEL:=I hEl
  have HKI:=I hkids
  obtain⟨A,c,h9,hcl,hia⟩:=zaW hx
  have H9:=I h9
  have HCL:=I hcl
  have HIA:=I hia
  have HIL:=I hil
  have hil1:its.length<=1000:=by omega
  clear ih hrl hz hx hv hp hEl hkids h9 hcl hia hil
  go_enter Tryz.func19,Tryz.ntmps19
  go_upto_region 1 with (fail)
  have hz3:(#[Value.int IntKind.i64 0,Value.slice none 0 0,Value.slice none 0 0]:Array Value)= zT3.toArray:=rfl
  rw[hz3]
  clear hz3
  have g1:=zd w (.cells ⟨ce⟩ 29)
  have g2:=zd (w.alloc (.cells ⟨ce⟩ 29)) (.cells zT3.toArray 45)
  have hA:=(Whole.new w ce 29).keep (g2.block _ (by simp))
  have hR:=Whole.new (w.alloc (.cells ⟨ce⟩ 29)) zT3 45
  rw[show(w.alloc (.cells ⟨ce⟩ 29)).heap.size= w.heap.size+1 by simp] at hR
  have HA:=I hA
  have HR:=I hR
  have HBL:=I (g1.trans (g2.mono g1.size))
  have HRG:Hid (w.heap.size<=w.heap.size+1):=I (Nat.le_add_right _ _)
  clear g1 g2 hA hR
  generalize (w.alloc (.cells ⟨ce⟩ 29)).alloc (.cells zT3.toArray 45)= W at*
  obtain⟨jt,hi,hy0,hy1,hy2⟩:=zT z2G
  have HT0:=I hi
  have HT1:=I hy0
  have HT2:=I hy1
  have HT3:=I hy2
  have H9U:Hid (∀ u,Below W.heap.size W u->u.cell? ⟨w.heap.size,9,none⟩= some (.slice A its.length c)):=I fun u hu=>(hu.cell (p:=⟨w.heap.size,9,none⟩) HA.o.lt).trans (HA.o.range 9 _ H9.o)
  have HAU:Hid (∀ u,Below W.heap.size W u->Whole 29 u w.heap.size ce):=I fun u hu=>HA.o.keep (hu.block _ HA.o.lt)
  have HRU:Hid (∀ u,Below W.heap.size W u->Whole 45 u (w.heap.size+1) zT3):=I fun u hu=>HR.o.keep (hu.block _ HR.o.lt)
  have HBU:Hid (∀ u,Below W.heap.size W u->Below w.heap.size w u):=I fun u hu=>HBL.o.trans (hu.mono HBL.o.size)
  have HWS:Hid (w.heap.size+1 < W.heap.size):=I HR.o.lt
  clear hi hy0 hy1 hy2 HA HR H9
  go_wp2
  go_loopg [6,7] its.length (fun g r i u=>∃ (j:Nat) (vs:List TT) (KL:List z0W),j+g= its.length/\i= .int .i64 j/\RowT p W.heap.size u r vs KL/\Below W.heap.size W u/\seqT (zM E (its.take j))= .ok vs)
  case atStart=>exact⟨0,[],[],by omega,rfl,RowT.start p (Nat.le_refl _),Below.refl _ _,by rw[List.take_zero,zM,seqT]⟩
  case round=>
   obtain⟨j,vs,KL,hj,rfl,hrt,hwb,hsq⟩:=hrel
   have HRT:=I hrt
   have HWB:=I hwb
   have HSQ:=I hsq
   obtain⟨RA,rc,rfl⟩:=z0O hrt.own
   clear hrt hwb hsq
   obtain⟨V,hV⟩:∃ z,z= wr:=⟨_,rfl⟩
   subst hV
   have HVL:Hid (vs.length= j):=I (by have h:=(z4h HSQ.o).1;rw[List.length_take] at h;omega)
   have HKL:Hid (KL.length= j):=I (HRT.o.len.trans HVL.o)
   have HBW:=I (HBU.o V HWB.o)
   have d9:=H9U.o V HWB.o
   cases gk with
   |zero=>
    obtain rfl:j= its.length:=by omega
    have hge: ¬ ((its.length:Int) <(its.length:Int)):=by omega
    have HSF:Hid (seqT (zM E its)= .ok vs):=I (by have h:=HSQ.o;rwa [List.take_length] at h)
    obtain⟨pp,hpp⟩:∃ pp:Nat->Prop,pp= fun b=>(p b\/W.heap.size<=b)/\b < V.heap.size:=⟨_,rfl⟩
    have HPP:Hid (∀ b,pp b->(p b\/W.heap.size<=b)/\b < V.heap.size):=I fun b hb=>by rw[hpp] at hb;exact hb
    have hpq:∀ b,(p b\/W.heap.size<=b)->b < V.heap.size->pp b:=fun b h1 h2=>by rw[hpp];exact⟨h1,h2⟩
    have hto:∀ a u,(only V p).cell? a= some u->(only V pp).cell? a= some u:=z3w fun b h1 h2=>⟨hpq b (.inl h1) h2,rfl⟩
    have hargs:OwnArgs pp V ce (.slice RA KL.length rc) va E k s v ns vs:=by
     refine⟨⟨its,(HEX.o.next HBW.o).to (fun b h1 h2=>⟨hpq b (.inl h1) h2,rfl⟩) (Nat.le_refl _)⟩,?_,?_,HEL.o,by rw[HVL.o];omega,fun b hb=>(HPP.o b hb).2,fun t ht=> ?_⟩
     ·exact HRT.o.row (by rw[HVL.o];unfold maxLen;omega) (fun b h1 h2=>⟨hpq b h1 h2,rfl⟩) (Nat.le_refl _)
     ·obtain⟨h0,A2,c2,e2,h1⟩:=z3N HVA.o HBW.o
      refine⟨h0,A2,c2,e2,fun hp=> ?_⟩
      obtain⟨b,o,e3,hlt,h2⟩:=h1 hp
      refine⟨b,o,e3,hlt,fun i x hx=> ?_⟩
      obtain⟨cs,h3,h4,h5⟩:=h2 i x hx
      exact⟨cs,h3,fun j v hv=>hto _ _ (h4 j v hv),h5.cells hto⟩
     ·obtain⟨i,hi⟩:=List.mem_iff_getElem?.1 ht
      obtain⟨h1,h2⟩:=z4h HSF.o
      have hil:=(List.getElem?_eq_some_iff.1 hi).1
      have h3:=h2 i its[i] t (List.getElem?_eq_getElem (by omega)) hi
      cases hxi:its[i] with
      |mk k' s' v' ns' its'=>
       rw[hxi] at h3
       obtain⟨_,_,_,h4⟩:=z1X h3
       exact zbv h4
    have HOW:Hid (Calls Tryz.prog 45 #[.agg ⟨ce⟩,.slice RA KL.length rc,va] V (TPost pp (ownT E k s v ns vs) V)):=I (zcI hargs (by rw[HVL.o];exact HKI.o))
    clear hargs hto hpq hpp
    have HAV:=I (HAU.o V HWB.o)
    have HCK:Hid (zZ E (.mk k s v ns its)= match ownT E k s v ns vs with| .error e=> .error e| .ok t=>if typeT t= true then .ok t else .error 15):=I (by rw[zZ,HSF.o];dsimp only;cases ownT E k s v ns vs<;>rfl)
    cases ho:ownT E k s v ns vs with
    |error e=>
     have HCE:Hid (zZ E (.mk k s v ns its)= .error e):=I (by rw[HCK.o,ho])
     have he0:(e !=0)= true:=by have:=z8K ho;simpa using this
     rw[ho] at HOW
     clear ho HCK
     go_upto_region 10 with (first|((with_reducible refine za 29 _ rfl ?_ (w.heap.size) (0) (ce) _ rfl HAV.o.range Tryz.underlying29 rfl ?_ ?_);(exact wA rfl);rw[HCL.o];kernel_rfl)|(go_at_call 45;refine HOW.o.mono ?_;rintro e Y1 ⟨cs1,rfl,hk,hb⟩;have HLC1:=I (zo hk.typ).1;have HOC1:=I (zo hk.typ).2;have HKC1:=I hk;have HBC1:=I hb;clear hk hb)|((with_reducible refine zR 45 _ _ rfl ?hwx2 Y1 ?zz2 (cs1) ?hwld2 ?hz2 ?hx2 ?hy2 ?hi2 ?h12 ?_);(case hwld2=>rfl);(case hx2=>rfl);(case hy2=>rfl);(case hwx2=>(exact wA rfl));(case hz2=>rw[HLC1.o];rfl);(case hi2=>rw[HLC1.o];kernel_rfl);(case h12=>exact HOC1.o);intro Z1 hZ;have HXZ:=I hZ;clear hZ))
     have HW1:Hid (Below W.heap.size W Z1):=I (HWB.o.trans ((HBC1.o.trans (HXZ.o.below.mono HBC1.o.size)).mono HWB.o.size))
     have HR1:=I (HRU.o Z1 HW1.o)
     have HB1:=I (HBU.o Z1 HW1.o)
     have hce:codeT (Except.error e:Except Int TT)= e:=rfl
     go_wp2_with (first|((with_reducible refine ze 45 _ _ rfl rfl ?_ ((w.heap.size+1)) (zT3) (zT3) HR1.o ?_ ?_ ?_ ?_ ?_ ?_);(exact wA rfl);rfl;rfl;rfl;kernel_rfl;exact(zx _ _ _ _ _ _ _);intro Z hz hb;have HZZ:=I hz;have HBZ:=I hb;clear hz hb))
     (try simp only[Exit.inBlock,Exit.then])
     refine bodyPost_ret (zi rfl _ _ (w.heap.size+1) (zT3) rfl (.int .i64 e) rfl HZZ.o rfl) rfl ?_
     exact⟨zT3,by rw[HCE.o];rfl,by rw[HCE.o];exact zJ (zf 0 (by decide +kernel)),HB1.o.trans (HBZ.o.below HB1.o.size HRG.o HRG.o)⟩
    |ok t=>
     rw[ho] at HOW
     rw[ho] at HCK
     clear ho
     go_upto_region 12 with (first|((with_reducible refine za 29 _ rfl ?_ (w.heap.size) (0) (ce) _ rfl HAV.o.range Tryz.underlying29 rfl ?_ ?_);(exact wA rfl);rw[HCL.o];kernel_rfl)|(go_at_call 45;refine HOW.o.mono ?_;rintro e Y1 ⟨cs1,rfl,hk,hb⟩;have HLC1:=I (zo hk.typ).1;have HOC1:=I (zo hk.typ).2;have HKC1:=I hk;have HBC1:=I hb;clear hk hb)|((with_reducible refine zR 45 _ _ rfl ?hwx5 Y1 ?zz5 (cs1) ?hwld5 ?hz5 ?hx5 ?hy5 ?hi5 ?h15 ?_);(case hwld5=>rfl);(case hx5=>rfl);(case hy5=>rfl);(case hwx5=>(exact wA rfl));(case hz5=>rw[HLC1.o];rfl);(case hi5=>rw[HLC1.o];kernel_rfl);(case h15=>exact HOC1.o);intro Z1 hZ;have HXZ:=I hZ;clear hZ))
     have HW1:Hid (Below W.heap.size W Z1):=I (HWB.o.trans ((HBC1.o.trans (HXZ.o.below.mono HBC1.o.size)).mono HWB.o.size))
     have HTY:Hid (TypAt Z1 Z1.heap.size cs1 t):=I ((HKC1.o.next HXZ.o.below).typ)
     obtain⟨bt,hbt⟩:∃ b,typeT t= b:=⟨_,rfl⟩
     have HTR:Hid (Calls Tryz.prog 43 #[.agg ⟨cs1⟩] Z1 fun e w'=>e= .returned (.bool bt)/\Below Z1.heap.size Z1 w'):=I (by have h:=z1N t cs1 Z1 HTY.o;rw[← hbt];exact h)
     have TRC:=HCK.o
     cases bt with
     |false=>
      have HCE:Hid (zZ E (.mk k s v ns its)= .error 15):=I (by rw[TRC];exact if_neg (by rw[hbt];decide))
      clear TRC
      go_wp2_with (first|((with_reducible refine za 45 _ rfl ?_ (Y1.heap.size) (0) (cs1) _ rfl HXZ.o.range Tryz.underlying45 rfl ?_ ?_);(exact wA rfl);rw[HLC1.o];kernel_rfl)|(go_at_call 43;refine HTR.o.mono ?_;rintro e Z2 ⟨rfl,hb⟩;have HR1:=I (HRU.o Z2 (HW1.o.trans (hb.mono HW1.o.size)));have HB1:=I (HBU.o Z2 (HW1.o.trans (hb.mono HW1.o.size)));clear hb)|((with_reducible refine ze 45 _ _ rfl rfl ?_ ((w.heap.size+1)) (zT3) (zT3) HR1.o ?_ ?_ ?_ ?_ ?_ ?_);(exact wA rfl);rfl;rfl;rfl;kernel_rfl;exact(zx _ _ _ _ _ _ _);intro Z hz hb;have HZZ:=I hz;have HBZ:=I hb;clear hz hb))
      (try simp only[Exit.inBlock,Exit.then])
      refine bodyPost_ret (zi rfl _ _ (w.heap.size+1) (zT3) rfl (.int .i64 15) rfl HZZ.o rfl) rfl ?_
      exact⟨zT3,by rw[HCE.o];rfl,by rw[HCE.o];exact zJ (zf 0 (by decide +kernel)),HB1.o.trans (HBZ.o.below HB1.o.size HRG.o HRG.o)⟩
     |true=>
      have HCE:Hid (zZ E (.mk k s v ns its)= .ok t):=I (by rw[TRC];exact if_pos hbt)
      clear TRC
      go_wp2_with (first|((with_reducible refine za 45 _ rfl ?_ (Y1.heap.size) (0) (cs1) _ rfl HXZ.o.range Tryz.underlying45 rfl ?_ ?_);(exact wA rfl);rw[HLC1.o];kernel_rfl)|(go_at_call 43;refine HTR.o.mono ?_;rintro e Z2 ⟨rfl,hb⟩;have HB12:=I hb;have HX2:=I (zc HXZ.o.range hb HXZ.o.size);have HR1:=I (HRU.o Z2 (HW1.o.trans (hb.mono HW1.o.size)));have HB1:=I (HBU.o Z2 (HW1.o.trans (hb.mono HW1.o.size)));clear hb)|((with_reducible refine za 45 _ rfl ?_ (Y1.heap.size) (0) (cs1) _ rfl HX2.o Tryz.underlying45 rfl ?_ ?_);(exact wA rfl);rw[HLC1.o];kernel_rfl)|((with_reducible refine ze 45 _ _ rfl rfl ?_ ((w.heap.size+1)) (zT3) (cs1) HR1.o ?_ ?_ ?_ ?_ ?_ ?_);(exact wA rfl);rw[HLC1.o];rfl;rfl;rfl;rw[HLC1.o];kernel_rfl;exact HOC1.o;intro Z hz hb;have HZZ:=I hz;have HBZ:=I hb;clear hz hb))
      (try simp only[Exit.inBlock,Exit.then])
      refine bodyPost_ret (zi rfl _ _ (w.heap.size+1) (cs1) HLC1.o (.int .i64 0) rfl HZZ.o rfl) rfl ?_
      refine⟨cs1,by rw[HCE.o];rfl,?_,HB1.o.trans (HBZ.o.below HB1.o.size HRG.o HRG.o)⟩
      rw[HCE.o]
      refine KeptT.to (KeptT.next (KeptT.next HKC1.o HXZ.o.below) HB12.o) (fun b h1 h2=> ?_) HBZ.o.size
      have hne:b≠w.heap.size+1:=fun e=>by
       have h3:=HWS.o
       have h4:=HWB.o.size
       rcases h1 with h|h
       ·rcases(HPP.o b h).1 with h|h
        ·have:=HLO.o b h;omega
        ·omega
       ·omega
      refine⟨?_,HBZ.o.block b h2 hne hne⟩
      have h5:=HBL.o.size
      have h6:=HBW.o.size
      rcases h1 with h|h
      ·exact(HPP.o b h).1.imp id fun h=>Nat.le_trans h5 h
      ·exact .inr (Nat.le_trans h6 h)
   |succ g=>
    have hlt:(j:Int) <(its.length:Int):=by omega
    have ilt:j < its.length:=by omega
    obtain⟨y,hy⟩:∃ y,its[j]?= some y:=⟨_,List.getElem?_eq_getElem ilt⟩
    obtain⟨b3,o3,rfl,hbb,hc⟩:=HIA.o (by omega)
    obtain⟨kx,hlx,hrx,hkx⟩:=hc j y hy
    have HYY:=I hy
    have HLX:=I hlx
    have HRX:=I (zc hrx HBW.o hbb)
    have HCY:=I (HCH.o y (List.mem_of_getElem? hy) kx V HBW.o hkx)
    clear hc hy hlx hrx hkx
    cases ho:zZ E y with
    |error e=>
     have HCE:Hid (zZ E (.mk k s v ns its)= .error e):=I (by rw[zZ,z6X HSQ.o HYY.o ho])
     have he0:(e !=0)= true:=by have:=z6C y e ho;simpa using this
     rw[ho] at HCY
     clear ho
     go_upto_region 6 with (first|((with_reducible refine za 29 _ rfl ?_ (b3) (o3+j*10) (kx) _ rfl HRX.o Tryz.underlying29 rfl ?_ ?_);(exact wA rfl);rw[HLX.o];kernel_rfl)|(go_at_call 19;refine HCY.o.mono ?_;rintro e Y1 ⟨cs1,rfl,hk,hb⟩;have HLC1:=I (zo hk.typ).1;have HOC1:=I (zo hk.typ).2;have HKC1:=I hk;have HBC1:=I hb;clear hk hb)|((with_reducible refine zR 45 _ _ rfl ?hwx12 Y1 ?zz12 (cs1) ?hwld12 ?hz12 ?hx12 ?hy12 ?hi12 ?h112 ?_);(case hwld12=>rfl);(case hx12=>rfl);(case hy12=>rfl);(case hwx12=>(exact wA rfl));(case hz12=>rw[HLC1.o];rfl);(case hi12=>rw[HLC1.o];kernel_rfl);(case h112=>exact HOC1.o);intro Z1 hZ;have HXZ:=I hZ;clear hZ))
     clear d9
     have HW1:Hid (Below W.heap.size W Z1):=I (HWB.o.trans ((HBC1.o.trans (HXZ.o.below.mono HBC1.o.size)).mono HWB.o.size))
     have HR1:=I (HRU.o Z1 HW1.o)
     have HB1:=I (HBU.o Z1 HW1.o)
     have hce:codeT (Except.error e:Except Int TT)= e:=rfl
     go_wp2_with (first|((with_reducible refine ze 45 _ _ rfl rfl ?_ ((w.heap.size+1)) (zT3) (zT3) HR1.o ?_ ?_ ?_ ?_ ?_ ?_);(exact wA rfl);rfl;rfl;rfl;kernel_rfl;exact(zx _ _ _ _ _ _ _);intro Z hz hb;have HZZ:=I hz;have HBZ:=I hb;clear hz hb))
     (try simp only[Exit.inBlock,Exit.then])
     refine bodyPost_ret (zi rfl _ _ (w.heap.size+1) (zT3) rfl (.int .i64 e) rfl HZZ.o rfl) rfl ?_
     exact⟨zT3,by rw[HCE.o];rfl,by rw[HCE.o];exact zJ (zf 0 (by decide +kernel)),HB1.o.trans (HBZ.o.below HB1.o.size HRG.o HRG.o)⟩
    |ok t=>
     have HSN:=I (z6n HSQ.o HYY.o ho)
     rw[ho] at HCY
     clear ho
     go_upto_region 6 with (first|((with_reducible refine za 29 _ rfl ?_ (b3) (o3+j*10) (kx) _ rfl HRX.o Tryz.underlying29 rfl ?_ ?_);(exact wA rfl);rw[HLX.o];kernel_rfl)|(go_at_call 19;refine HCY.o.mono ?_;rintro e Y1 ⟨cs1,rfl,hk,hb⟩;have HLC1:=I (zo hk.typ).1;have HOC1:=I (zo hk.typ).2;have HKC1:=I hk;have HBC1:=I hb;clear hk hb)|((with_reducible refine zR 45 _ _ rfl ?hwx15 Y1 ?zz15 (cs1) ?hwld15 ?hz15 ?hx15 ?hy15 ?hi15 ?h115 ?_);(case hwld15=>rfl);(case hx15=>rfl);(case hy15=>rfl);(case hwx15=>(exact wA rfl));(case hz15=>rw[HLC1.o];rfl);(case hi15=>rw[HLC1.o];kernel_rfl);(case h115=>exact HOC1.o);intro Z1 hZ;have HXZ:=I hZ;clear hZ))
     clear d9
     have HB17:Hid (Below Y1.heap.size Y1 (Z1.alloc (.cells ⟨cs1⟩ 45))):=I (HXZ.o.below.trans ((zd Z1 (.cells ⟨cs1⟩ 45)).mono HXZ.o.below.size))
     have HC7:Hid (∀ i u,(enc3 ⟨cs1,HLC1.o⟩)[i]?= some u->(Z1.alloc (.cells ⟨cs1⟩ 45)).cell? ⟨Z1.heap.size,i,none⟩= some u):=I (z0w Z1 cs1 45)
     have HS7:Hid (W.heap.size<=(Z1.alloc (.cells ⟨cs1⟩ 45)).heap.size):=I (Nat.le_trans HWB.o.size (Nat.le_trans HBC1.o.size HB17.o.size))
     have HOW:Hid (OwnSl 45 3 enc3 (Z1.alloc (.cells ⟨cs1⟩ 45)) W.heap.size (.slice RA KL.length rc) KL):=I (HRT.o.own.below (HBC1.o.trans (HB17.o.mono HBC1.o.size)))
     have HM63:Hid (KL.length+1<=maxLen):=I (by have:=HKL.o;unfold maxLen;omega)
     have HM88:Hid ((KL.length+1) *56<=140737488355328):=I (by have:=HKL.o;omega)
     have hce:codeT (Except.ok t:Except Int TT)= 0:=rfl
     go_wp2_with (first|((with_reducible refine za 45 _ rfl ?_ (Y1.heap.size) (0) (cs1) _ rfl HXZ.o.range Tryz.underlying45 rfl ?_ ?_);(exact wA rfl);rw[HLC1.o];kernel_rfl)|((with_reducible refine z0M 43 _ rfl ?_ 45 jt _ cs1 ?_ Tryz.underlying43 HT0.o HT1.o ?_ ?_ ?_ ?_);(exact wA rfl);rfl;rw[HLC1.o];exact HT2.o;rw[HLC1.o];decide;rw[HLC1.o];decide)|(at_builtin;(refine z2H rfl _ _ 43 rfl W.heap.size 45 jt _ 3 56 enc3 Tryz.underlying43 HT0.o HT1.o HT2.o HT3.o rfl (by decide) z3u (.slice RA KL.length rc) KL rfl HOW.o Z1.heap.size 1 ⟨cs1,HLC1.o⟩ HOC1.o rfl HC7.o HM63.o HM88.o HS7.o ?_;intro v' u8 hown hg hblk;have HRN:=I (HRT.o.next (fun b hb=>Nat.lt_of_lt_of_le (HLO.o b hb) HBL.o.size) HBC1.o HB17.o (k:=⟨cs1,HLC1.o⟩) HKC1.o hown hg hblk);have HWN:=I ((HWB.o.trans ((HBC1.o.trans (HB17.o.mono HBC1.o.size)).mono HWB.o.size)).grown hg (Nat.le_trans HWB.o.size (Nat.le_trans HBC1.o.size HB17.o.size)) fun b hb=>HOW.o.block hb);clear hown hg hblk)))
     go_roundg g
     case measure=>omega
     case rel=>exact⟨j+1,vs ++ [t],_,by omega,by go_num,HRN.o,HWN.o,HSN.o⟩
end
section
open Go Go.RowKit
theorem z6b {w:World} {B:Nat} {ks:List Value} {x:VarT} (h:VarAt w B ks x):∃ ct ci,ks.length= 11/\ct.length= 3/\ci.length= 6/\(∀ i u,ct[i]?= some u->ks[2+i]?= some u)/\(∀ i u,ci[i]?= some u->ks[5+i]?= some u)/\TypAt w B ct x.type/\ValAt w B ci x.init:=by
 obtain⟨⟨ct,ci,rfl,h1,h2,h3,h4⟩,_,_⟩:=h
 refine⟨ct,ci,by simp[h1,h2],h1,h2,fun i u hu=> ?_,fun i u hu=> ?_,h3,h4⟩
 ·have hi:=(List.getElem?_eq_some_iff.1 hu).1
  rw[List.append_assoc,List.getElem?_append_right (by simp)]
  simp only[List.length_cons,List.length_nil]
  rw[show 2+i - (0+1+1)= i by omega,List.getElem?_append_left hi]
  exact hu
 ·rw[List.getElem?_append_right (by simp[h1])]
  simp only[List.length_append,List.length_cons,List.length_nil,h1]
  rw[show 5+i - (0+1+1+3)= i by omega]
  exact hu
theorem zcg (x:ET) (E:List VarT) (ce:List Value) (va:Value) (w:World) (hx:ExpAt w w.heap.size ce x) (hE:SlAt w w.heap.size 11 (VarAt w w.heap.size) va E) (hEl:E.length<=10000):
  Calls Tryz.prog 17 #[.agg ⟨ce⟩,va] w fun e w'=>∃ b,e= .returned (.bool b)/\(b= true->zS x= true/\∀ y∈E,typeT y.type= true)/\Below w.heap.size w w':=by
 have HX:=I hx
 have HCL:=I (eslen hx)
 obtain⟨hel,EA,ec,rfl,hea⟩:=hE
 have HEA:=I hea
 have hE2:E.length<=10000:=hEl
 clear hx hea hel hEl
 go_enter Tryz.func17,Tryz.ntmps17
 go_upto_region 1 with (fail)
 have HA:=I (Whole.new w ce 29)
 have HBL:=I (zd w (.cells ⟨ce⟩ 29))
 generalize w.alloc (.cells ⟨ce⟩ 29)= W at*
 have HBU:Hid (∀ u,Below W.heap.size W u->Below w.heap.size w u):=I fun u hu=>HBL.o.trans (hu.mono HBL.o.size)
 go_wp2
 go_loopg [5] E.length (fun q i u=>∃ j:Nat,j+q= E.length/\i= .int .i64 j/\Below W.heap.size W u/\∀ m y,m < j->E[m]?= some y->typeT y.type= true)
 case atStart=>exact⟨0,by omega,rfl,Below.refl _ _,fun m y hm=>absurd hm (Nat.not_lt_zero _)⟩
 case round=>
  obtain⟨j,hj,rfl,hwb,hty⟩:=hrel
  have HWB:=I hwb
  have HTY:=I hty
  clear hwb hty
  cases gk with
  |zero=>
   obtain rfl:j= E.length:=by omega
   have hge: ¬ ((E.length:Int) <(E.length:Int)):=by omega
   have HAV:=I (HA.o.keep (HWB.o.block _ HA.o.lt))
   have HBW:=I (HBU.o wr HWB.o)
   have HRR:=I (zdq x ce wr ((HX.o.under HBW.o).more HBW.o.size))
   have HALL:Hid (∀ y∈E,typeT y.type= true):=I fun y hy=>by
    obtain⟨i,hi⟩:=List.mem_iff_getElem?.1 hy
    exact HTY.o i y (List.getElem?_eq_some_iff.1 hi).1 hi
   go_wp2_with (first|((with_reducible refine za 29 _ rfl ?_ (w.heap.size) (0) (ce) _ rfl HAV.o.range Tryz.underlying29 rfl ?_ ?_);(exact wA rfl);rw[HCL.o];kernel_rfl)|(go_at_call 30;refine HRR.o.mono ?_;rintro e Z ⟨rfl,hb⟩;have HBZ:=I hb;clear hb))
   go_ret
   exact⟨_,rfl,fun h=>⟨h,HALL.o⟩,HBW.o.trans (HBZ.o.mono HBW.o.size)⟩
  |succ g=>
   have hlt:(j:Int) <(E.length:Int):=by omega
   have ilt:j < E.length:=by omega
   obtain⟨y,hy⟩:∃ y,E[j]?= some y:=⟨_,List.getElem?_eq_getElem ilt⟩
   obtain⟨b3,o3,rfl,hbb,hc⟩:=HEA.o (by omega)
   obtain⟨ks,hlx,hrx,hkx⟩:=hc j y hy
   obtain⟨ct,ci,h11,h3,h6,h2i,h5i,hty,hvi⟩:=z6b hkx
   have HBW:=I (HBU.o wr HWB.o)
   have HCT:Hid (wr.rangeAt b3 (o3+j*11+2) ct):=I (fun i u hu=>by
    have:=zc hrx HBW.o hbb (2+i) u (h2i i u hu)
    rwa [show o3+j*11+ (2+i)= o3+j*11+2+i by omega] at this)
   have HLT:=I h3
   have HYY:=I hy
   obtain⟨bt,hbt⟩:∃ b,typeT y.type= b:=⟨_,rfl⟩
   have HTR:Hid (Calls Tryz.prog 43 #[.agg ⟨ct⟩] wr fun e w'=>e= .returned (.bool bt)/\Below wr.heap.size wr w'):=I (by have h:=z1N y.type ct wr ((hty.under HBW.o).more HBW.o.size);rw[← hbt];exact h)
   have HBT:=I hbt
   clear hc hlx hrx hkx h11 h3 h6 h2i h5i hty hvi hy hbt
   cases bt with
   |false=>
    go_wp2_with (first|((with_reducible refine za 45 _ rfl ?_ (b3) (o3+j*11+2) (ct) _ rfl HCT.o Tryz.underlying45 rfl ?_ ?_);(exact wA rfl);rw[HLT.o];kernel_rfl)|(go_at_call 43;refine HTR.o.mono ?_;rintro e Z ⟨rfl,hb⟩;have HBZ:=I hb;clear hb))
    go_ret
    exact⟨false,rfl,fun h=>(by cases h),HBW.o.trans (HBZ.o.mono HBW.o.size)⟩
   |true=>
    go_wp2_with (first|((with_reducible refine za 45 _ rfl ?_ (b3) (o3+j*11+2) (ct) _ rfl HCT.o Tryz.underlying45 rfl ?_ ?_);(exact wA rfl);rw[HLT.o];kernel_rfl)|(go_at_call 43;refine HTR.o.mono ?_;rintro e Z ⟨rfl,hb⟩;have HBZ:=I hb;clear hb))
    go_roundg g
    case measure=>omega
    case rel=>exact⟨j+1,by omega,by go_num,HWB.o.trans (HBZ.o.mono HWB.o.size),fun m z hm hz=>by
     rcases Nat.lt_or_ge m j with h|h
     ·exact HTY.o m z h hz
     ·obtain rfl:m= j:=by omega
      rw[HYY.o] at hz
      injection hz with hz
      subst hz
      exact HBT.o⟩
end
section
open Go Go.RowKit
theorem zad {E:List VarT} {x:ET} {t:TT} (hE:∀ y∈E,fitT y.init y.type= true) (hr:zS x= true) (hc:zZ E x= .ok t):(∀ v,evalT x E (E.map VarT.init)= .ok v->zp v= true->fitT v t= true)/\∀ e,evalT x E (E.map VarT.init)= .error e->errOk e:=by
 have hall:(E.map VarT.init).all zp= true:=by
  rw[List.all_eq_true]
  intro v hv
  obtain⟨y,hy,rfl⟩:=List.mem_map.1 hv
  have h:=hE y hy
  unfold fitT at h
  rw[Bool.and_eq_true] at h
  exact h.1
 have he:=zcv (E:=E) hall hr (r:=evalE E (E.map VarT.init) x) rfl
 have hV:∀ (i:Nat) y,E[i]?= some y->∃ v,(E.map VarT.init)[i]?= some v/\fitX v y.type= true:=fun i y hy=>by
  refine⟨y.init,by rw[List.getElem?_map,hy];rfl,?_⟩
  have h:=hE y (List.mem_of_getElem? hy)
  unfold fitT at h
  simp only[Bool.and_eq_true] at h
  obtain⟨h1,h2,h3⟩:=h
  unfold z1P at h1
  unfold typeT at h2
  rw[Bool.and_eq_true] at h1 h2
  exact zd7 _ _ _ _ h1.2 h2.2 h3
 have hs:=sound hV x 1 t (z1Y.1 hr).2 hc
 refine⟨fun v hv hw=> ?_,fun e hv=> ?_⟩
 ·rw[he] at hv
  rw[hv] at hs
  have h2:typeT t= true:=by
   cases x with
   |mk k s v ns its=>obtain⟨_,_,_,h⟩:=z1X hc;exact h
  unfold fitT
  rw[show z1P v= true from hw,h2,zal v t hs]
  rfl
 ·rw[he] at hv
  rw[hv] at hs
  exact hs
theorem z77 {w:World} {a:Addr} {v:Value} (h:w.cell? a= some v):a.block < w.heap.size:=by
 rcases Nat.lt_or_ge a.block w.heap.size with h2|h2
 ·exact h2
 ·unfold World.cell? at h;rw[Array.getElem?_eq_none h2] at h;cases h
theorem z93 {w:World} {cs:List Value} {x:ET} (h:ExpAt w w.heap.size cs x):KeptP (fun b=>b < w.heap.size) w cs x:=ExpAt.cells h fun a v hv=>zu.2 ⟨z77 hv,hv⟩
theorem z8B {w:World} {v:Value} {E:List VarT} (h:SlAt w w.heap.size 11 (VarAt w w.heap.size) v E):SlAt (only w fun b=>b < w.heap.size) w.heap.size 11 (VarAt (only w fun b=>b < w.heap.size) w.heap.size) v E:=by
 have hc:∀ a v,w.cell? a= some v->(only w fun b=>b < w.heap.size).cell? a= some v:=fun a v hv=>zu.2 ⟨z77 hv,hv⟩
 obtain⟨h0,A,c,rfl,h1⟩:=h
 refine⟨h0,A,c,rfl,fun hp=> ?_⟩
 obtain⟨b,o,rfl,hlt,h2⟩:=h1 hp
 refine⟨b,o,rfl,hlt,fun i x hx=> ?_⟩
 obtain⟨cs,h3,h4,h5⟩:=h2 i x hx
 exact⟨cs,h3,fun j v hv=>hc _ _ (h4 j v hv),h5.cells hc⟩
theorem evalSound_walk (w:World) (htb:TabP w) (cx:List Value) (x:ET) (hxx:ExpAt w w.heap.size cx x) (v:Value) (E:List VarT) (hE:SlAt w w.heap.size 11 (VarAt w w.heap.size) v E) (hEl:E.length<=maxLen):
  Calls Tryz.prog 4 #[.agg ⟨cx⟩,v] w fun e w'=>e= .returned (.bool true)/\Below w.heap.size w w':=by
 have HTB:=I htb
 have HLx:=I (eslen hxx)
 have HXx:=I hxx
 obtain⟨hel,EA,ec,rfl,hEA⟩:=id hE
 have HE:=I hE
 have HEA:=I hEA
 have HEM:=I hEl
 clear hE hEA hEl hel htb hxx
 go_enter Tryz.func4,Tryz.ntmps4
 go_upto_region 1 with (fail)
 have HRx:=I (Whole.new w cx 29)
 have HB1:=I (zd w (.cells ⟨cx⟩ 29))
 generalize w.alloc (.cells ⟨cx⟩ 29)= W at*
 have HK1:=I (Below.refl W.heap.size W)
 have HEx:=I (fun z (hz:Below W.heap.size W z)=>(((HXx.o.under (HB1.o.trans (hz.mono HB1.o.size))).more (HB1.o.trans (hz.mono HB1.o.size)).size:ExpAt z z.heap.size cx x)))
 have HWx:=I (fun z (hz:Below W.heap.size W z)=>HRx.o.keep (hz.block _ HRx.o.lt))
 have HEV:=I (fun z (hz:Below W.heap.size W z)=>((HE.o.below (HB1.o.trans (hz.mono HB1.o.size)) fun _ _ _ h=>(h.under (HB1.o.trans (hz.mono HB1.o.size))).more (HB1.o.trans (hz.mono HB1.o.size)).size).more (HB1.o.trans (hz.mono HB1.o.size)).size:SlAt z z.heap.size 11 (VarAt z z.heap.size) (.slice EA E.length ec) E))
 go_wp2_with (go_at_call 10;fail)
 refine(z4g W (HTB.o.next HB1.o)).mono ?_
 rintro e w2 ⟨rfl,hb⟩
 have HK2:=I hb
 have HB2:=I (HB1.o.trans (hb.mono HB1.o.size))
 clear hb
 have HS:=I (zdW x cx w2 (HEx.o w2 HK2.o))
 go_wp2_with (first|((with_reducible refine za 29 _ rfl ?_ (w.heap.size) (0) (cx) _ rfl (HWx.o w2 HK2.o).range Tryz.underlying29 rfl ?_ ?_);(exact wA rfl);rw[HLx.o];kernel_rfl)|(go_at_call 11;fail))
 refine HS.o.mono ?_
 rintro e w3 ⟨q,rfl,hb⟩
 have HK3:=I (HK2.o.trans (hb.mono HK2.o.size))
 have HB3:=I (HB2.o.trans (hb.mono HB2.o.size))
 clear hb HS
 cases q with
 |false=>
  go_wp2_with (go_at_call 10;fail)
  refine(z4g w3 (HTB.o.next HB3.o)).mono ?_
  rintro e w9 ⟨rfl,hb⟩
  have HB9:=I (HB3.o.trans (hb.mono HB3.o.size))
  clear hb
  go_wp2
  go_ret
  exact⟨rfl,HB9.o⟩
 |true=>
  have HS:=I (zdp E (.slice EA E.length ec) w3 (HEV.o w3 HK3.o) HEM.o)
  go_wp2_with (first|(go_at_call 12;fail))
  refine HS.o.mono ?_
  rintro e w4 ⟨q,rfl,hq,hb⟩
  have HK4:=I (HK3.o.trans (hb.mono HK3.o.size))
  have HB4:=I (HB3.o.trans (hb.mono HB3.o.size))
  clear hb HS
  cases q with
  |false=>
   go_wp2_with (go_at_call 10;fail)
   refine(z4g w4 (HTB.o.next HB4.o)).mono ?_
   rintro e w9 ⟨rfl,hb⟩
   have HB9:=I (HB4.o.trans (hb.mono HB4.o.size))
   clear hb
   go_wp2
   go_ret
   exact⟨rfl,HB9.o⟩
  |true=>
   have HE40:=I (hq rfl)
   clear hq
   have HS:=I (zcg x E cx (.slice EA E.length ec) w4 (HEx.o w4 HK4.o) (HEV.o w4 HK4.o) (by have:=HE40.o;omega))
   go_wp2_with (first|((with_reducible refine za 29 _ rfl ?_ (w.heap.size) (0) (cx) _ rfl (HWx.o w4 HK4.o).range Tryz.underlying29 rfl ?_ ?_);(exact wA rfl);rw[HLx.o];kernel_rfl)|(go_at_call 17;fail))
   refine HS.o.mono ?_
   rintro e w5 ⟨q,rfl,hq,hb⟩
   have HK5:=I (HK4.o.trans (hb.mono HK4.o.size))
   have HB5:=I (HB4.o.trans (hb.mono HB4.o.size))
   clear hb HS
   cases q with
   |false=>
    go_wp2_with (go_at_call 10;fail)
    refine(z4g w5 (HTB.o.next HB5.o)).mono ?_
    rintro e w9 ⟨rfl,hb⟩
    have HB9:=I (HB5.o.trans (hb.mono HB5.o.size))
    clear hb
    go_wp2
    go_ret
    exact⟨rfl,HB9.o⟩
   |true=>
    have HMY:=I (hq rfl)
    clear hq
    go_upto_region 4 with (fail)
    obtain⟨G,hG0⟩:∃ z,z= w5:=⟨_,rfl⟩
    subst hG0
    have HBG:=I HB5.o
    have HKG:=I HK5.o
    obtain⟨j0,hi,hz0,hz1,hz2⟩:=zT z1l
    have HJ0:=I hi
    have HY0:=I hz0
    have HY1:=I hz1
    have HY2:=I hz2
    have hee:E.length<=40:=HE40.o
    clear hi hz0 hz1 hz2
    go_wp2
    go_loopg [5,33] E.length (fun q x y u=>∃ (j:Nat) (KL:List zL),j+q= E.length/\y= .int .i64 j/\InitInv 26 G u x E j KL/\∀ m y,m < j->E[m]?= some y->fitT y.init y.type= true)
    case atStart=>exact⟨0,[],by omega,rfl,InitInv.start _ _ _,fun m y hm=>absurd hm (Nat.not_lt_zero _)⟩
    case round=>
     obtain⟨j,KL,hj,rfl,hI,hft⟩:=hrel
     have HI:=I hI
     have HFA:=I hft
     obtain⟨UA,uc,rfl⟩:=z0O hI.own
     have hkl:=hI.len
     have HKLL:=I hkl
     clear hI hkl hft
     have HWR:Hid (Below W.heap.size W wr):=I (HKG.o.trans (HI.o.bel.mono HKG.o.size))
     have HBR:Hid (Below w.heap.size w wr):=I (HBG.o.trans (HI.o.bel.mono HBG.o.size))
     cases gk with
     |succ g=>
      have hlt:(j:Int) <(E.length:Int):=by omega
      obtain⟨y,hy⟩:∃ y,E[j]?= some y:=⟨_,List.getElem?_eq_getElem (by omega)⟩
      obtain⟨b,ob,rfl,hbb,hc⟩:=HEA.o (by omega)
      obtain⟨ks,hkl,hkr,hkv⟩:=hc j y hy
      obtain⟨ct,ci,h11,hct,hci,h2i,h5i,hty,hvi⟩:=z6b hkv
      have HR:=I (zc hkr HBR.o hbb)
      have HCI:=I hci
      have HCT:=I hct
      have HCL:=I h11
      have H2I:=I h2i
      have H5I:=I h5i
      have HVI:Hid (ValAt G G.heap.size ci y.init):=I ((hvi.under HBG.o).more HBG.o.size)
      have HTI:Hid (TypAt G G.heap.size ct y.type):=I ((hty.under HBG.o).more HBG.o.size)
      have HOV:=I hkv.one
      have HOI:=I (zj hvi).2
      have HYY:=I hy
      clear hc hkl hkr hkv hci hct h11 h2i h5i hty hvi hy
      go_upto_region 7 with (first|((with_reducible refine za 47 _ rfl ?_ (b) (ob+j*11) (ks) _ rfl HR.o Tryz.underlying47 rfl ?_ ?_);(exact wA rfl);rw[HCL.o];kernel_rfl)|((with_reducible refine zR 47 _ _ rfl ?hwx4 wr ?zz4 (ks) ?hwld4 ?hz4 ?hx4 ?hy4 ?hi4 ?h14 ?_);(case hwld4=>rfl);(case hx4=>rfl);(case hy4=>rfl);(case hwx4=>(exact wA rfl));(case hz4=>rw[HCL.o];rfl);(case hi4=>rw[HCL.o];kernel_rfl);(case h14=>exact HOV.o);intro Z hZ;have HXZ:=I hZ;clear hZ))
      have HRI:Hid (Z.rangeAt wr.heap.size 5 ci):=I (fun i u hu=>by have:=HXZ.o.range (5+i) u (H5I.o i u hu);rwa [Nat.zero_add] at this)
      have HRT:Hid (Z.rangeAt wr.heap.size 2 ct):=I (fun i u hu=>by have:=HXZ.o.range (2+i) u (H2I.o i u hu);rwa [Nat.zero_add] at this)
      have HGZ:Hid (Below G.heap.size G Z):=I (HI.o.bel.trans (HXZ.o.below.mono HI.o.bel.size))
      have HZR:Hid (Below w.heap.size w Z):=I (HBG.o.trans (HGZ.o.mono HBG.o.size))
      obtain⟨bf,hbf⟩:∃ b,fitT y.init y.type= b:=⟨_,rfl⟩
      have HFT:Hid (Calls Tryz.prog 18 #[.agg ⟨ci⟩,.agg ⟨ct⟩] Z fun e w'=>e= .returned (.bool bf)/\Below Z.heap.size Z w'):=I (by have h:=z6q y.init y.type ci ct Z ((HVI.o.under HGZ.o).more HGZ.o.size) ((HTI.o.under HGZ.o).more HGZ.o.size);rw[hbf] at h;exact h)
      have HFB:=I hbf
      clear hbf
      cases bf with
      |false=>
       go_wp2_with (first|((with_reducible refine za 26 _ rfl ?_ (wr.heap.size) (5) (ci) _ rfl HRI.o Tryz.underlying26 rfl ?_ ?_);(exact wA rfl);rw[HCI.o];kernel_rfl)|((with_reducible refine za 45 _ rfl ?_ (wr.heap.size) (2) (ct) _ rfl HRT.o Tryz.underlying45 rfl ?_ ?_);(exact wA rfl);rw[HCT.o];kernel_rfl)|(go_at_call 18;refine HFT.o.mono ?_;rintro e Z2 ⟨rfl,hb⟩;have HBF:=I hb;clear hb))
       go_ret
       exact⟨rfl,HZR.o.trans (HBF.o.mono HZR.o.size)⟩
      |true=>
       go_upto_region 9 with (first|((with_reducible refine za 26 _ rfl ?_ (wr.heap.size) (5) (ci) _ rfl HRI.o Tryz.underlying26 rfl ?_ ?_);(exact wA rfl);rw[HCI.o];kernel_rfl)|((with_reducible refine za 45 _ rfl ?_ (wr.heap.size) (2) (ct) _ rfl HRT.o Tryz.underlying45 rfl ?_ ?_);(exact wA rfl);rw[HCT.o];kernel_rfl)|(go_at_call 18;refine HFT.o.mono ?_;rintro e Z2 ⟨rfl,hb⟩;have HBF:=I hb;clear hb))
       have HRI2:Hid (Z2.rangeAt wr.heap.size 5 ci):=I (zc HRI.o HBF.o HXZ.o.size)
       have HC7:Hid (∀ i u,(enc6 ⟨ci,HCI.o⟩)[i]?= some u->(Z2.alloc (.cells ⟨ci⟩ 26)).cell? ⟨Z2.heap.size,i,none⟩= some u):=I (z0w Z2 ci 26)
       have HB7:=I (zd Z2 (.cells ⟨ci⟩ 26))
       have HB27:Hid (Below wr.heap.size wr (Z2.alloc (.cells ⟨ci⟩ 26))):=I ((HXZ.o.below.trans (HBF.o.mono HXZ.o.below.size)).trans (HB7.o.mono (Nat.le_trans HXZ.o.below.size HBF.o.size)))
       have HS7:Hid (G.heap.size<=(Z2.alloc (.cells ⟨ci⟩ 26)).heap.size):=I (Nat.le_trans HI.o.bel.size HB27.o.size)
       have HOW:Hid (OwnSl 26 6 enc6 (Z2.alloc (.cells ⟨ci⟩ 26)) G.heap.size (.slice UA KL.length uc) KL):=I (HI.o.own.below HB27.o)
       have HM63:Hid (KL.length+1<=maxLen):=I (by have:=HE40.o;have h2:=HKLL.o;unfold maxLen;omega)
       have HM88:Hid ((KL.length+1) *88<=140737488355328):=I (by have:=HE40.o;have h2:=HKLL.o;omega)
       go_wp2_with (first|((with_reducible refine za 26 _ rfl ?_ (wr.heap.size) (5) (ci) _ rfl HRI2.o Tryz.underlying26 rfl ?_ ?_);(exact wA rfl);rw[HCI.o];kernel_rfl)|((with_reducible refine z0M 24 _ rfl ?_ 26 j0 _ ci ?_ Tryz.underlying24 HJ0.o HY0.o ?_ ?_ ?_ ?_);(exact wA rfl);rfl;rw[HCI.o];exact HY1.o;rw[HCI.o];decide;rw[HCI.o];decide)|(at_builtin;(refine z2H rfl _ _ 24 rfl G.heap.size 26 j0 _ 6 88 enc6 Tryz.underlying24 HJ0.o HY0.o HY1.o HY2.o rfl (by decide) z0z (.slice UA KL.length uc) KL rfl HOW.o Z2.heap.size 1 ⟨ci,HCI.o⟩ HOI.o rfl HC7.o HM63.o HM88.o HS7.o ?_;intro v' u8 hown hg hblk;have HN:=I (InitInv.next (k:=⟨ci,HCI.o⟩) HI.o HB27.o HYY.o HVI.o hown hg);clear hown hg hblk)))
       go_roundg g
       case measure=>omega
       case rel=>
        have hb40:=HE40.o
        exact⟨j+1,KL ++ [⟨ci,HCI.o⟩],by omega,by go_num,HN.o,fun m z hm hz=>by
         rcases Nat.lt_or_ge m j with h|h
         ·exact HFA.o m z h hz
         ·obtain rfl:m= j:=by omega
          rw[HYY.o] at hz
          injection hz with hz
          subst hz
          exact HFB.o⟩
     |zero=>
      obtain rfl:j= E.length:=by omega
      have hge: ¬ ((E.length:Int) <(E.length:Int)):=by omega
      have HLV:=I (fun z (hz:Below wr.heap.size wr z)=>HI.o.row (by have:=HE40.o;omega) hz)
      have HFE:Hid (∀ y∈E,fitT y.init y.type= true):=I fun y hy=>by
       obtain⟨i,hi⟩:=List.mem_iff_getElem?.1 hy
       exact HFA.o i y (List.getElem?_eq_some_iff.1 hi).1 hi
      obtain⟨V,hV⟩:∃ z,z= wr:=⟨_,rfl⟩
      subst hV
      have HCK:Hid (Calls Tryz.prog 19 #[.agg ⟨cx⟩,.slice EA E.length ec] V (TPost (fun b=>b < V.heap.size) (zZ E x) V)):=I (z96 E (by have:=HE40.o;omega) x 1 _ cx (.slice EA E.length ec) V (z1Y.1 HMY.o.1).2 (z1Y.1 HMY.o.1).1 (z93 (HEx.o V HWR.o)) (z8B (HEV.o V HWR.o)) fun b hb=>hb)
      cases hcx:zZ E x with
      |error e=>
       have he0:(e !=0)= true:=by have:=z6C x e hcx;simpa using this
       rw[hcx] at HCK
       have hce:codeT (Except.error e:Except Int TT)= e:=rfl
       clear hcx
       go_wp2_with (first|((with_reducible refine za 29 _ rfl ?_ (w.heap.size) (0) (cx) _ rfl (HWx.o V HWR.o).range Tryz.underlying29 rfl ?_ ?_);(exact wA rfl);rw[HLx.o];kernel_rfl)|(go_at_call 19;refine HCK.o.mono ?_;rintro e Y1 ⟨cs1,rfl,hk,hb⟩;have HLC1:=I (zo hk.typ).1;have HOC1:=I (zo hk.typ).2;have HKC1:=I hk.typ;have HBC1:=I hb;clear hk hb)|((with_reducible refine zR 45 _ _ rfl ?hwx20 Y1 ?zz20 (cs1) ?hwld20 ?hz20 ?hx20 ?hy20 ?hi20 ?h120 ?_);(case hwld20=>rfl);(case hx20=>rfl);(case hy20=>rfl);(case hwx20=>(exact wA rfl));(case hz20=>rw[HLC1.o];rfl);(case hi20=>rw[HLC1.o];kernel_rfl);(case h120=>exact HOC1.o);intro Z1 hZ;have HXZ:=I hZ;clear hZ))
       go_ret
       exact⟨rfl,HBR.o.trans ((HBC1.o.trans (HXZ.o.below.mono HBC1.o.size)).mono HBR.o.size)⟩
      |ok t=>
       have HLAW:=I (zad HFE.o HMY.o.1 hcx)
       rw[hcx] at HCK
       have hce:codeT (Except.ok t:Except Int TT)= 0:=rfl
       clear hcx
       go_upto_region 14 with (first|((with_reducible refine za 29 _ rfl ?_ (w.heap.size) (0) (cx) _ rfl (HWx.o V HWR.o).range Tryz.underlying29 rfl ?_ ?_);(exact wA rfl);rw[HLx.o];kernel_rfl)|(go_at_call 19;refine HCK.o.mono ?_;rintro e Y1 ⟨cs1,rfl,hk,hb⟩;have HLC1:=I (zo hk.typ).1;have HOC1:=I (zo hk.typ).2;have HKC1:=I hk.typ;have HBC1:=I hb;clear hk hb)|((with_reducible refine zR 45 _ _ rfl ?hwx22 Y1 ?zz22 (cs1) ?hwld22 ?hz22 ?hx22 ?hy22 ?hi22 ?h122 ?_);(case hwld22=>rfl);(case hx22=>rfl);(case hy22=>rfl);(case hwx22=>(exact wA rfl));(case hz22=>rw[HLC1.o];rfl);(case hi22=>rw[HLC1.o];kernel_rfl);(case h122=>exact HOC1.o);intro Z1 hZ;have HXZ:=I hZ;clear hZ))
       have HVZ:Hid (Below V.heap.size V Z1):=I (HBC1.o.trans (HXZ.o.below.mono HBC1.o.size))
       have HWZ:Hid (Below W.heap.size W Z1):=I (HWR.o.trans (HVZ.o.mono HWR.o.size))
       have HBZ1:Hid (Below w.heap.size w Z1):=I (HBR.o.trans (HVZ.o.mono HBR.o.size))
       have HTZ:Hid (TypAt Z1 Z1.heap.size cs1 t):=I ((HKC1.o.under HXZ.o.below).more HXZ.o.below.size)
       have HEV0:=I (zaZ x E (E.map VarT.init) cx (.slice EA E.length ec) (.slice UA KL.length uc) Z1 (HEx.o Z1 HWZ.o) (HEV.o Z1 HWZ.o) (HLV.o Z1 HVZ.o) (by have:=HE40.o;omega) (by rw[List.length_map];have:=HE40.o;omega) (HTB.o.next HBZ1.o))
       obtain⟨r,hr⟩:∃ r,evalT x E (E.map VarT.init)= r:=⟨_,rfl⟩
       rw[hr] at HEV0 HLAW
       clear hr
       cases r with
       |error e=>
        have HEV1:Hid (Calls Tryz.prog 14 #[.agg ⟨cx⟩,.slice EA E.length ec,.slice UA KL.length uc] Z1 fun r w'=>∃ cs,r= .returned (.tuple #[.agg ⟨cs⟩,.int .i64 e])/\Kept (fun b=>Z1.heap.size<=b) w' cs v0/\True/\Below Z1.heap.size Z1 w'):=I (HEV0.o.mono fun r w' ⟨cs,h1,h2,_,h3⟩=>⟨cs,h1,h2,trivial,h3⟩)
        have her:=HLAW.o.2 e rfl
        clear HEV0
        rcases her with rfl|rfl|rfl|rfl
        ·go_wp2_with (first|((with_reducible refine za 29 _ rfl ?_ (w.heap.size) (0) (cx) _ rfl (HWx.o Z1 HWZ.o).range Tryz.underlying29 rfl ?_ ?_);(exact wA rfl);rw[HLx.o];kernel_rfl)|(go_at_call 14;refine HEV1.o.mono ?_;rintro e y1 ⟨cs1,rfl,hk,hr,hb⟩;have HC1:=I (zj hk.val).1;have HOO1:=I (zj hk.val).2;have HVV1:=I hk.val;have HRR1:=I hr;have HBY1:=I hb;clear hk hr hb)|((with_reducible refine zR 26 _ _ rfl ?hwx9 y1 ?zz9 (cs1) ?hwld9 ?hz9 ?hx9 ?hy9 ?hi9 ?h19 ?_);(case hwld9=>rfl);(case hx9=>rfl);(case hy9=>rfl);(case hwx9=>(exact wA rfl));(case hz9=>rw[HC1.o];rfl);(case hi9=>rw[HC1.o];kernel_rfl);(case h19=>exact HOO1.o);intro Z3 hZ;have HXX1:=I hZ;clear hZ))
         go_ret
         exact⟨rfl,HBZ1.o.trans ((HBY1.o.trans (HXX1.o.below.mono HBY1.o.size)).mono HBZ1.o.size)⟩
        ·go_wp2_with (first|((with_reducible refine za 29 _ rfl ?_ (w.heap.size) (0) (cx) _ rfl (HWx.o Z1 HWZ.o).range Tryz.underlying29 rfl ?_ ?_);(exact wA rfl);rw[HLx.o];kernel_rfl)|(go_at_call 14;refine HEV1.o.mono ?_;rintro e y1 ⟨cs1,rfl,hk,hr,hb⟩;have HC1:=I (zj hk.val).1;have HOO1:=I (zj hk.val).2;have HVV1:=I hk.val;have HRR1:=I hr;have HBY1:=I hb;clear hk hr hb)|((with_reducible refine zR 26 _ _ rfl ?hwx11 y1 ?zz11 (cs1) ?hwld11 ?hz11 ?hx11 ?hy11 ?hi11 ?h111 ?_);(case hwld11=>rfl);(case hx11=>rfl);(case hy11=>rfl);(case hwx11=>(exact wA rfl));(case hz11=>rw[HC1.o];rfl);(case hi11=>rw[HC1.o];kernel_rfl);(case h111=>exact HOO1.o);intro Z3 hZ;have HXX1:=I hZ;clear hZ))
         go_ret
         exact⟨rfl,HBZ1.o.trans ((HBY1.o.trans (HXX1.o.below.mono HBY1.o.size)).mono HBZ1.o.size)⟩
        ·go_wp2_with (first|((with_reducible refine za 29 _ rfl ?_ (w.heap.size) (0) (cx) _ rfl (HWx.o Z1 HWZ.o).range Tryz.underlying29 rfl ?_ ?_);(exact wA rfl);rw[HLx.o];kernel_rfl)|(go_at_call 14;refine HEV1.o.mono ?_;rintro e y1 ⟨cs1,rfl,hk,hr,hb⟩;have HC1:=I (zj hk.val).1;have HOO1:=I (zj hk.val).2;have HVV1:=I hk.val;have HRR1:=I hr;have HBY1:=I hb;clear hk hr hb)|((with_reducible refine zR 26 _ _ rfl ?hwx13 y1 ?zz13 (cs1) ?hwld13 ?hz13 ?hx13 ?hy13 ?hi13 ?h113 ?_);(case hwld13=>rfl);(case hx13=>rfl);(case hy13=>rfl);(case hwx13=>(exact wA rfl));(case hz13=>rw[HC1.o];rfl);(case hi13=>rw[HC1.o];kernel_rfl);(case h113=>exact HOO1.o);intro Z3 hZ;have HXX1:=I hZ;clear hZ))
         go_ret
         exact⟨rfl,HBZ1.o.trans ((HBY1.o.trans (HXX1.o.below.mono HBY1.o.size)).mono HBZ1.o.size)⟩
        ·go_wp2_with (first|((with_reducible refine za 29 _ rfl ?_ (w.heap.size) (0) (cx) _ rfl (HWx.o Z1 HWZ.o).range Tryz.underlying29 rfl ?_ ?_);(exact wA rfl);rw[HLx.o];kernel_rfl)|(go_at_call 14;refine HEV1.o.mono ?_;rintro e y1 ⟨cs1,rfl,hk,hr,hb⟩;have HC1:=I (zj hk.val).1;have HOO1:=I (zj hk.val).2;have HVV1:=I hk.val;have HRR1:=I hr;have HBY1:=I hb;clear hk hr hb)|((with_reducible refine zR 26 _ _ rfl ?hwx15 y1 ?zz15 (cs1) ?hwld15 ?hz15 ?hx15 ?hy15 ?hi15 ?h115 ?_);(case hwld15=>rfl);(case hx15=>rfl);(case hy15=>rfl);(case hwx15=>(exact wA rfl));(case hz15=>rw[HC1.o];rfl);(case hi15=>rw[HC1.o];kernel_rfl);(case h115=>exact HOO1.o);intro Z3 hZ;have HXX1:=I hZ;clear hZ))
         go_ret
         exact⟨rfl,HBZ1.o.trans ((HBY1.o.trans (HXX1.o.below.mono HBY1.o.size)).mono HBZ1.o.size)⟩
       |ok u=>
        have HEV1:Hid (Calls Tryz.prog 14 #[.agg ⟨cx⟩,.slice EA E.length ec,.slice UA KL.length uc] Z1 fun r w'=>∃ cs,r= .returned (.tuple #[.agg ⟨cs⟩,.int .i64 0])/\Kept (fun b=>Z1.heap.size<=b) w' cs u/\zp u= true/\Below Z1.heap.size Z1 w'):=I (HEV0.o.mono fun r w' ⟨cs,h1,h2,h3,h4⟩=>⟨cs,h1,h2,h3 u rfl,h4⟩)
        have HFU:=I (HLAW.o.1 u rfl)
        clear HEV0
        go_upto_region 15 with (first|((with_reducible refine za 29 _ rfl ?_ (w.heap.size) (0) (cx) _ rfl (HWx.o Z1 HWZ.o).range Tryz.underlying29 rfl ?_ ?_);(exact wA rfl);rw[HLx.o];kernel_rfl)|(go_at_call 14;refine HEV1.o.mono ?_;rintro e y2 ⟨cs2,rfl,hk,hr,hb⟩;have HC2:=I (zj hk.val).1;have HOO2:=I (zj hk.val).2;have HVV2:=I hk.val;have HRR2:=I hr;have HBY2:=I hb;clear hk hr hb)|((with_reducible refine zR 26 _ _ rfl ?hwx24 y2 ?zz24 (cs2) ?hwld24 ?hz24 ?hx24 ?hy24 ?hi24 ?h124 ?_);(case hwld24=>rfl);(case hx24=>rfl);(case hy24=>rfl);(case hwx24=>(exact wA rfl));(case hz24=>rw[HC2.o];rfl);(case hi24=>rw[HC2.o];kernel_rfl);(case h124=>exact HOO2.o);intro Z3 hZ;have HXX1:=I hZ;clear hZ))
        have H13:Hid (Below Z1.heap.size Z1 Z3):=I (HBY2.o.trans (HXX1.o.below.mono HBY2.o.size))
        have HB3:Hid (Below w.heap.size w Z3):=I (HBZ1.o.trans (H13.o.mono HBZ1.o.size))
        have HR1:Hid (Z3.rangeAt Y1.heap.size 0 cs1):=I (zc HXZ.o.range H13.o HXZ.o.size)
        have HFT:Hid (Calls Tryz.prog 18 #[.agg ⟨cs2⟩,.agg ⟨cs1⟩] Z3 fun e w'=>e= .returned (.bool true)/\Below Z3.heap.size Z3 w'):=I (by have h:=z6q u t cs2 cs1 Z3 ((HVV2.o.under HXX1.o.below).more HXX1.o.below.size) ((HTZ.o.under H13.o).more H13.o.size);rw[HFU.o HRR2.o] at h;exact h)
        go_wp2_with (first|((with_reducible refine za 26 _ rfl ?_ (y2.heap.size) (0) (cs2) _ rfl HXX1.o.range Tryz.underlying26 rfl ?_ ?_);(exact wA rfl);rw[HC2.o];kernel_rfl)|((with_reducible refine za 45 _ rfl ?_ (Y1.heap.size) (0) (cs1) _ rfl HR1.o Tryz.underlying45 rfl ?_ ?_);(exact wA rfl);rw[HLC1.o];kernel_rfl)|(go_at_call 18;refine HFT.o.mono ?_;rintro e Z2 ⟨rfl,hb⟩;have HBF:=I hb;clear hb))
        go_ret
        exact⟨rfl,HB3.o.trans (HBF.o.mono HB3.o.size)⟩
end
end Go.Proofs.YtmpbepjjbaeebaaGreatDoor
