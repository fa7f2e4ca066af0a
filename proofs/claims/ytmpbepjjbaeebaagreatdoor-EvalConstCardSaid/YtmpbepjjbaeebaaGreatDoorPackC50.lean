/- Parts of a proof: Rows4, Fits, RFits. -/
import Derived.Test.YtmpbepjjbaeebaaGreatDoorPackC49
set_option maxHeartbeats 8000000
set_option maxRecDepth 100000
set_option linter.unusedVariables false
set_option linter.unusedSimpArgs false
namespace Go.Proofs.YtmpbepjjbaeebaaGreatDoor
section
open Go Go.RowKit
theorem z6b (a b:ByteArray) (w:World):Calls Tryz.prog 78 #[.string a,.string b] w fun e w'=>e= .returned (.int .i64 (cmpS a b))/\w'= w:=by
 obtain⟨h1,h2⟩:=z2o a.data.toList b.data.toList
 obtain⟨k1,k2⟩:=z2o b.data.toList a.data.toList
 have h3:=z1d a.data.toList b.data.toList
 have h4:=z15 a.data.toList b.data.toList
 rw[← toList_eq,← toList_eq] at h1 h2 h3 k1 k2 h4
 have hc:cmpS a b= Lib.compareBytes a.toList b.toList:=by unfold cmpS;rw[toList_eq,toList_eq]
 rw[hc]
 rcases h3 with h|h|h
 ·rw[h]
  have t1:Op.bytesLess a.toList b.toList= true:=h1.2 h
  clear h1 h2 k1 k2 h4 hc h
  go_enter Tryz.func78,Tryz.ntmps78
  go_wp2
  go_ret
  exact⟨rfl,rfl⟩
 ·rw[h]
  have t1:Op.bytesLess a.toList b.toList= false:=by rw[Bool.eq_false_iff];intro e;have:=h1.1 e;omega
  have t2:Op.bytesLess b.toList a.toList= false:=by rw[Bool.eq_false_iff];intro e;have:=k1.1 e;omega
  have t3:(a.toList ==b.toList)= true:=h2.2 h
  clear h1 h2 k1 k2 h4 hc h
  go_enter Tryz.func78,Tryz.ntmps78
  go_wp2
  go_ret
  exact⟨rfl,rfl⟩
 ·rw[h]
  have t1:Op.bytesLess a.toList b.toList= false:=by rw[Bool.eq_false_iff];intro e;have:=h1.1 e;omega
  have t2:Op.bytesLess b.toList a.toList= true:=k1.2 (by omega)
  have t3:(a.toList ==b.toList)= false:=by rw[Bool.eq_false_iff];intro e;have:=h2.1 e;omega
  clear h1 h2 k1 k2 h4 hc h
  go_enter Tryz.func78,Tryz.ntmps78
  go_wp2
  go_ret
  exact⟨rfl,rfl⟩
theorem z3y (a b:Int) (w:World):Calls Tryz.prog 76 #[.int .i64 a,.int .i64 b] w fun e w'=>e= .returned (.int .i64 (cmpI a b))/\w'= w:=by
 rcases z00 a b with ⟨h,k⟩|⟨h,k⟩|⟨h,k⟩
 ·rw[h]
  go_enter Tryz.func76,Tryz.ntmps76
  go_wp2
  go_ret
  exact⟨rfl,rfl⟩
 ·rw[h]
  have t1: ¬ (a < b):=by omega
  have t2: ¬ (b < a):=by omega
  clear k h
  go_enter Tryz.func76,Tryz.ntmps76
  go_wp2
  go_ret
  exact⟨rfl,rfl⟩
 ·rw[h]
  have t1: ¬ (a < b):=by omega
  go_enter Tryz.func76,Tryz.ntmps76
  go_wp2
  go_ret
  exact⟨rfl,rfl⟩
theorem z5d {α:Type} {f:α->α->Int} {l r:List α} {k:Nat} (hl:k<=l.length) (hr:k<=r.length) (h:k= l.length\/k= r.length):listC f (l.drop k) (r.drop k)= cmpI l.length r.length:=by
 unfold cmpI
 by_cases h1:l.length < r.length
 ·rw[if_pos (by omega),z3V (by omega) (by omega)]
 ·rw[if_neg (by omega)]
  by_cases h2:r.length < l.length
  ·rw[if_pos (by omega)]
   obtain⟨x,hx⟩:∃ x,l[k]?= some x:=⟨_,List.getElem?_eq_getElem (by omega)⟩
   exact z35 hx (by omega)
  ·rw[if_neg (by omega),z3c (by omega) (by omega)]
theorem z6s {a b:ByteArray}:cmpS a b= 0↔a= b:=by
 obtain⟨_,h2⟩:=z2o a.data.toList b.data.toList
 have h3:(a.data.toList ==b.data.toList)= true↔a= b:=by
  rw[beq_iff_eq]
  constructor
  ·intro h
   cases a with|mk x=>cases b with|mk y=>exact congrArg ByteArray.mk (Array.toList_inj.1 h)
  ·rintro rfl;rfl
 exact⟨fun h=>h3.1 (h2.2 h),fun h=>h2.1 (h3.2 h)⟩
theorem z2I:∀ {l r:List ByteArray},listC cmpS l r= 0↔l= r
 |[],[]=>by simp[listC]
 |[],_::_=>by simp[listC]
 |_::_,[]=>by simp[listC]
 |a::l,b::r=>by
  unfold listC
  by_cases h:cmpS a b= 0
  ·rw[if_neg (fun k=>k h),z2I,z6s.1 h];simp
  ·rw[if_pos h]
   constructor
   ·intro k;exact absurd k h
   ·intro k;injection k with k1 k2;exact absurd (z6s.2 k1) h
theorem z69 (u v:Value) (l r:List ByteArray) (w:World) (hu:SlAt w w.heap.size 1 StrR u l) (hv:SlAt w w.heap.size 1 StrR v r):
  Calls Tryz.prog 79 #[u,v] w fun e w'=>e= .returned (.int .i64 (listC cmpS l r))/\∃ m,w'= w.drewN m:=by
 obtain⟨_,A,ca,rfl,_⟩:=id hu
 obtain⟨_,D,cb,rfl,_⟩:=id hv
 obtain⟨_,hl,ha⟩:=z1l hu
 obtain⟨_,hr,hb⟩:=z1l hv
 have HA:=I ha
 have HB:=I hb
 have HS:=I (fun k x y=>z2W (f:=cmpS) (l:=l) (r:=r) (k:=k) (x:=x) (y:=y))
 have HT:=I (fun k=>z5d (f:=cmpS) (l:=l) (r:=r) (k:=k))
 have H0:Hid (listC cmpS (l.drop 0) (r.drop 0)= listC cmpS l r):=I rfl
 have HSG:=I (fun z=>z3y (l.length:Int) (r.length:Int) z)
 have hl2:(l.length:Int)<=9223372036854775807:=by omega
 have hr2:(r.length:Int)<=9223372036854775807:=by omega
 clear ha hb hu hv
 generalize listC cmpS l r= res at*
 go_enter Tryz.func79,Tryz.ntmps79
 go_wp2
 go_loopg [5] l.length (fun q x u=>∃ k m:Nat,k+q= l.length/\k<=r.length/\x= .int .i64 k/\u= w.drewN m/\listC cmpS (l.drop k) (r.drop k)= res)
 case atStart=>exact⟨0,0,by omega,by omega,rfl,rfl,H0.out⟩
 case round=>
  obtain⟨k,m,hk,hkr,rfl,rfl,hres⟩:=hrel
  have HR:=I hres
  clear hres
  cases gk with
  |zero=>
   obtain rfl:k= l.length:=by omega
   have hge: ¬ ((l.length:Int) <(l.length:Int)):=by omega
   have HV:=I ((HR.out).symm.trans (HT.out l.length (Nat.le_refl _) hkr (.inl rfl)))
   rw[← HV.out] at HSG
   clear HR
   go_wp2_with (go_at_call 76;refine(HSG.out _).mono ?_;rintro e z ⟨rfl,rfl⟩)
   go_ret
   exact⟨rfl,_,rfl⟩
  |succ q=>
   have hlt:(k:Int) <(l.length:Int):=by omega
   by_cases hkr2:k < r.length
   ·have hlt2:(k:Int) <(r.length:Int):=by omega
    obtain⟨x,hx⟩:∃ x,l[k]?= some x:=⟨_,List.getElem?_eq_getElem (by omega)⟩
    obtain⟨y,hy⟩:∃ y,r[k]?= some y:=⟨_,List.getElem?_eq_getElem hkr2⟩
    obtain⟨b1,o1,rfl,_,c1⟩:=HA.out (by omega)
    obtain⟨b2,o2,rfl,_,c2⟩:=HB.out (by omega)
    obtain⟨wm,hwm⟩:∃ wm,w.drewN m= wm:=⟨_,rfl⟩
    have d1:wm.cell? ⟨b1,o1+k,none⟩= some (.string x):=by rw[← hwm];exact(c1 k x hx).1
    have d2:wm.cell? ⟨b2,o2+k,none⟩= some (.string y):=by rw[← hwm];exact(c2 k y hy).1
    have HDM:Hid (∀ q,∃ m',wm.drewN q= w.drewN m'):=I fun q=>⟨m+q,by rw[← hwm,World.drewN_drewN]⟩
    rw[hwm]
    have HV:=I ((HR.out).symm.trans (HS.out k x y hx hy))
    have HC:=I (fun w=>z6b x y w)
    clear c1 c2 hx hy hkr hwm
    generalize cmpS x y= cv at*
    by_cases hc:cv= 0
    ·subst hc
     have HV2:=I (HV.out.trans (if_neg (fun h=>h rfl)))
     clear HV
     go_upto_region 4 with (fail)
     go_quiet ((go_at_call 78;exact Calls.quiet_of_same (HC.out _)))
     obtain⟨m',hm'⟩:=HDM.out nq
     rw[hm']
     go_wp2
     go_roundg q
     case measure=>omega
     case rel=>exact⟨k+1,_,by omega,by omega,by go_num,rfl,HV2.out.symm⟩
    ·have HV2:=I (HV.out.trans (if_pos hc))
     have t2:(cv !=0)= true:=by simpa using hc
     clear HV hc
     go_upto_region 4 with (fail)
     go_quiet ((go_at_call 78;exact Calls.quiet_of_same (HC.out _)))
     obtain⟨m',hm'⟩:=HDM.out nq
     rw[hm']
     go_wp2
     go_ret
     exact⟨zH HV2.out.symm,_,rfl⟩
   ·have HV:=I ((HR.out).symm.trans (HT.out k (by omega) hkr (.inr (by omega))))
    have hge: ¬ ((k:Int) <(r.length:Int)):=by omega
    rw[← HV.out] at HSG
    clear HR hkr hkr2
    go_wp2_with (go_at_call 76;refine(HSG.out _).mono ?_;rintro e z ⟨rfl,rfl⟩)
    go_ret
    exact⟨rfl,_,rfl⟩
end
section
open Go Go.RowKit
mutual
def fitsV:VT->TT->Bool
 | .mk k n f s ns its,.mk k' ns' ts=>(k ==k') && (if k= 5 then fitsA its ts else if k= 6 then decide (ns= ns') && fitsL its ts else true)
def fitsA:List VT->List TT->Bool
 |[],_=>true
 |a::l,t::r=>fitsV a t && fitsA l (t::r)
 |_::_,[]=>true
def fitsL:List VT->List TT->Bool
 |[],_=>true
 |a::l,t::r=>fitsV a t && fitsL l r
 |_::_,[]=>true
end
theorem z9E {l:List VT} {r:List TT} {k:Nat} {x:VT} {t:TT} (hx:l[k]?= some x) (ht:r[0]?= some t):fitsA (l.drop k) r=(fitsV x t && fitsA (l.drop (k+1)) r):=by
 cases r with
 |nil=>simp at ht
 |cons y r=>
  obtain rfl:y= t:=by simpa using ht
  rw[z08 hx,fitsA]
theorem zap {l:List VT} {r:List TT}:fitsA (l.drop l.length) r= true:=by
 rw[List.drop_eq_nil_of_le (Nat.le_refl _),fitsA]
theorem z9G {l:List VT} {r:List TT} {k:Nat} {x:VT} {t:TT} (hx:l[k]?= some x) (ht:r[k]?= some t):fitsL (l.drop k) (r.drop k)=(fitsV x t && fitsL (l.drop (k+1)) (r.drop (k+1))):=by
 rw[z08 hx,z08 ht,fitsL]
theorem za0 {l:List VT} {r:List TT}:fitsL (l.drop l.length) (r.drop l.length)= true:=by
 rw[List.drop_eq_nil_of_le (Nat.le_refl _),fitsL]
theorem z3m:∀ {l:List VT} {d:Nat},zE l d= true->∀ x∈l,zo x d= true
 |[],_,_,x,hx=>by cases hx
 |a::l,d,h,x,hx=>by
  rw[zE,Bool.and_eq_true] at h
  rcases List.mem_cons.1 hx with rfl|hx
  ·exact h.1
  ·exact z3m h.2 x hx
theorem z1m:∀ {l:List TT} {d:Nat},z05 l d= true->∀ x∈l,zF x d= true
 |[],_,_,x,hx=>by cases hx
 |a::l,d,h,x,hx=>by
  rw[z05,Bool.and_eq_true] at h
  rcases List.mem_cons.1 hx with rfl|hx
  ·exact h.1
  ·exact z1m h.2 x hx
theorem z9e {n:Int} {f:Nat} {s:ByteArray} {ns:List ByteArray} {its:List VT} {d:Nat} (h:zo (.mk 5 n f s ns its) d= true):∀ x∈its,zo x (d+1)= true:=by
 rw[zo] at h
 by_cases hd:12 < d
 ·rw[if_pos hd] at h;cases h
 ·rw[if_neg hd] at h
  simp only[show ¬ ((5:Int)= 1) by decide,show ¬ ((5:Int)= 2) by decide,show ¬ ((5:Int)= 3) by decide,show ¬ ((5:Int)= 4) by decide,show ¬ ((5:Int)= 6) by decide,if_false,if_true,Bool.and_eq_true] at h
  exact z3m h.2.2
theorem z3R {n:Int} {f:Nat} {s:ByteArray} {ns:List ByteArray} {its:List VT} {d:Nat} (h:zo (.mk 6 n f s ns its) d= true):ns.length= its.length/\∀ x∈its,zo x (d+1)= true:=by
 rw[zo] at h
 by_cases hd:12 < d
 ·rw[if_pos hd] at h;cases h
 ·rw[if_neg hd] at h
  simp only[show ¬ ((6:Int)= 1) by decide,show ¬ ((6:Int)= 2) by decide,show ¬ ((6:Int)= 3) by decide,show ¬ ((6:Int)= 4) by decide,if_false,if_true,Bool.and_eq_true,beq_iff_eq] at h
  exact⟨h.1,z3m h.2.2.2⟩
theorem z9d {n:Int} {f:Nat} {s:ByteArray} {ns:List ByteArray} {its:List VT} {d:Nat}:zo (.mk 7 n f s ns its) d= false:=by
 rw[zo]
 simp
theorem z21 {ns:List ByteArray} {its:List TT} {d:Nat} (h:zF (.mk 5 ns its) d= true):its.length= 1/\∀ x∈its,zF x (d+1)= true:=by
 rw[zF] at h
 by_cases hd:12 < d
 ·rw[if_pos hd] at h;cases h
 ·rw[if_neg hd,if_pos rfl] at h
  simp only[Bool.and_eq_true,beq_iff_eq] at h
  exact⟨h.1,z1m h.2.2⟩
theorem z3N {ns:List ByteArray} {its:List TT} {d:Nat} (h:zF (.mk 6 ns its) d= true):ns.length= its.length/\∀ x∈its,zF x (d+1)= true:=by
 rw[zF] at h
 by_cases hd:12 < d
 ·rw[if_pos hd] at h;cases h
 ·rw[if_neg hd,if_neg (by decide),if_pos rfl] at h
  simp only[Bool.and_eq_true,beq_iff_eq] at h
  exact⟨h.1,z1m h.2.2⟩
end
section
open Go Go.RowKit
theorem zad:∀ (x:VT) (t:TT) (d e:Nat) (cs cs':List Value) (w:World),zo x d= true->zF t e= true->ValAt w w.heap.size cs x->TypAt w w.heap.size cs' t->
  Calls Tryz.prog 44 #[.agg ⟨cs⟩,.agg ⟨cs'⟩] w fun en w'=>en= .returned (.bool (fitsV x t))/\Below w.heap.size w w':=by
 intro x
 induction x using VT.ind with
 |h k n f s ns its ih=>
  intro t d e cs cs' w hrx hty hv hv'
  cases t with
  |mk k' ns' ts=>
  have IH:=I ih
  obtain⟨vn,vi,rfl,_,_,_,_,hn,_,hi⟩:=hv.inv
  obtain⟨A,c,rfl,hil,hA⟩:=z0F hi
  obtain⟨vn',vi',rfl,_,hn',_,hi'⟩:=hv'.inv
  obtain⟨A',c',rfl,hil',hA'⟩:=z2e hi'
  have HN:=I hn
  have HN':=I hn'
  have HA:=I hA
  have HA':=I hA'
  have HO:Hid (fitsV (.mk k n f s ns its) (.mk k' ns' ts)=((k ==k') && (if k= 5 then fitsA its ts else if k= 6 then decide (ns= ns') && fitsL its ts else true))):=I (by rw[fitsV])
  generalize hres:fitsV (.mk k n f s ns its) (.mk k' ns' ts)= res at*
  have HRX:=I hrx
  have HTY:=I hty
  have hk7:k≠7:=by rintro rfl;rw[z9d] at hrx;cases hrx
  clear ih hv hv' hn hn' hi hi' hA hA' hres hrx hty
  by_cases hck:k= k'
  case neg=>
   have HR:Hid (res= false):=I (HO.out.trans (by rw[beq_eq_false_iff_ne.2 hck];exact Bool.false_and _))
   have t2:(k !=k')= true:=by simpa using hck
   clear hck HO hk7
   go_enter Tryz.func44,Tryz.ntmps44
   go_upto_region 1 with (fail)
   have HA0:=I (zq w [.int .i64 k,.int .i64 n,.float .f64 f,.string s,vn,.slice A its.length c] 26)
   have HB1:=I (ze w (.cells ⟨[.int .i64 k,.int .i64 n,.float .f64 f,.string s,vn,.slice A its.length c]⟩ 26))
   have HS1:=I (zt w (.cells ⟨[.int .i64 k,.int .i64 n,.float .f64 f,.string s,vn,.slice A its.length c]⟩ 26))
   have HSE:Hid ((w.alloc (.cells ⟨[.int .i64 k,.int .i64 n,.float .f64 f,.string s,vn,.slice A its.length c]⟩ 26)).heap.size= w.heap.size+1):=I (by simp)
   generalize w.alloc (.cells ⟨[.int .i64 k,.int .i64 n,.float .f64 f,.string s,vn,.slice A its.length c]⟩ 26)= W1 at*
   have HB:=I (zq W1 [.int .i64 k',vn',.slice A' ts.length c'] 45)
   have HB2:=I (ze W1 (.cells ⟨[.int .i64 k',vn',.slice A' ts.length c']⟩ 45))
   have HS2:=I (zt W1 (.cells ⟨[.int .i64 k',vn',.slice A' ts.length c']⟩ 45))
   generalize W1.alloc (.cells ⟨[.int .i64 k',vn',.slice A' ts.length c']⟩ 45)= W at*
   have HAW:=I (zd HA0.out HB2.out HS1.out)
   have HBW:=I (HB1.out.trans (HB2.out.mono HB1.out.size))
   have HLT:=I (Nat.lt_of_lt_of_le HS1.out HB2.out.size)
   rw[HSE.out] at HB HS2
   obtain⟨pb,hpb⟩:∃ pb,w.heap.size+1= pb:=⟨_,rfl⟩
   rw[hpb] at HB HS2
   rw[hpb]
   clear HA0 HB1 HS1 HSE HB2 hpb
   have d0:W.cell? ⟨w.heap.size,0,none⟩= some (.int .i64 k):=by have:=HAW.out 0 _ rfl;simpa using this
   have e0:W.cell? ⟨pb,0,none⟩= some (.int .i64 k'):=by have:=HB.out 0 _ rfl;simpa using this
   have D5:Hid (W.cell? ⟨w.heap.size,5,none⟩= some (.slice A its.length c)):=I (by have:=HAW.out 5 _ rfl;simpa using this)
   have E2:Hid (W.cell? ⟨pb,2,none⟩= some (.slice A' ts.length c')):=I (by have:=HB.out 2 _ rfl;simpa using this)
   go_wp2
   go_ret
   exact⟨za HR.out.symm,HBW.out⟩
  subst hck
  have HO1:=I (HO.out.trans (by rw[beq_self_eq_true,Bool.true_and]))
  clear HO
  by_cases k5:k= 5
  ·subst k5
   have HR:Hid (res= fitsA its ts):=I (HO1.out.trans (if_pos rfl))
   clear HO1 hk7
   go_enter Tryz.func44,Tryz.ntmps44
   go_upto_region 1 with (fail)
   have HA0:=I (zq w [.int .i64 5,.int .i64 n,.float .f64 f,.string s,vn,.slice A its.length c] 26)
   have HB1:=I (ze w (.cells ⟨[.int .i64 5,.int .i64 n,.float .f64 f,.string s,vn,.slice A its.length c]⟩ 26))
   have HS1:=I (zt w (.cells ⟨[.int .i64 5,.int .i64 n,.float .f64 f,.string s,vn,.slice A its.length c]⟩ 26))
   have HSE:Hid ((w.alloc (.cells ⟨[.int .i64 5,.int .i64 n,.float .f64 f,.string s,vn,.slice A its.length c]⟩ 26)).heap.size= w.heap.size+1):=I (by simp)
   generalize w.alloc (.cells ⟨[.int .i64 5,.int .i64 n,.float .f64 f,.string s,vn,.slice A its.length c]⟩ 26)= W1 at*
   have HB:=I (zq W1 [.int .i64 5,vn',.slice A' ts.length c'] 45)
   have HB2:=I (ze W1 (.cells ⟨[.int .i64 5,vn',.slice A' ts.length c']⟩ 45))
   have HS2:=I (zt W1 (.cells ⟨[.int .i64 5,vn',.slice A' ts.length c']⟩ 45))
   generalize W1.alloc (.cells ⟨[.int .i64 5,vn',.slice A' ts.length c']⟩ 45)= W at*
   have HAW:=I (zd HA0.out HB2.out HS1.out)
   have HBW:=I (HB1.out.trans (HB2.out.mono HB1.out.size))
   have HLT:=I (Nat.lt_of_lt_of_le HS1.out HB2.out.size)
   rw[HSE.out] at HB HS2
   obtain⟨pb,hpb⟩:∃ pb,w.heap.size+1= pb:=⟨_,rfl⟩
   rw[hpb] at HB HS2
   rw[hpb]
   clear HA0 HB1 HS1 HSE HB2 hpb
   have d0:W.cell? ⟨w.heap.size,0,none⟩= some (.int .i64 5):=by have:=HAW.out 0 _ rfl;simpa using this
   have e0:W.cell? ⟨pb,0,none⟩= some (.int .i64 5):=by have:=HB.out 0 _ rfl;simpa using this
   have D5:Hid (W.cell? ⟨w.heap.size,5,none⟩= some (.slice A its.length c)):=I (by have:=HAW.out 5 _ rfl;simpa using this)
   have E2:Hid (W.cell? ⟨pb,2,none⟩= some (.slice A' ts.length c')):=I (by have:=HB.out 2 _ rfl;simpa using this)
   have D0:=I d0
   have c5:=D5.out
   go_wp2
   clear d0 e0 c5
   go_loopg [5] its.length (fun g x u=>∃ j:Nat,j+g= its.length/\x= .int .i64 j/\Below W.heap.size W u/\fitsA (its.drop j) ts= res)
   case atStart=>exact⟨0,by omega,rfl,Below.refl _ _,HR.out.symm⟩
   case round=>
    obtain⟨j,hj,rfl,hb,hres⟩:=hrel
    have HR2:=I hres
    have HBK:=I hb
    have c0:wr.cell? ⟨w.heap.size,0,none⟩= some (.int .i64 5):=(hb.cell (p:=⟨w.heap.size,0,none⟩) HLT.out).trans D0.out
    have c5:=(hb.cell (p:=⟨w.heap.size,5,none⟩) HLT.out).trans D5.out
    clear hres hb
    cases gk with
    |zero=>
     obtain rfl:j= its.length:=by omega
     have hge: ¬ ((its.length:Int) <(its.length:Int)):=by omega
     have HVE:=I (HR2.out.symm.trans zap)
     go_wp2
     go_ret
     exact⟨za HVE.out.symm,HBW.out.trans (HBK.out.mono HBW.out.size)⟩
    |succ g=>
     have hlt:(j:Int) <(its.length:Int):=by omega
     obtain⟨x,hx⟩:∃ x,its[j]?= some x:=⟨_,List.getElem?_eq_getElem (by omega)⟩
     obtain⟨b,o',rfl,hbl,hc⟩:=HA.out (by omega)
     obtain⟨ks,hks,hvx⟩:=hc j x hx
     obtain⟨y,hy⟩:∃ y,ts[0]?= some y:=⟨_,List.getElem?_eq_getElem (by have:=(z21 HTY.out).1;omega)⟩
     obtain⟨b',o'',rfl,hbl',hc'⟩:=HA'.out (by have:=(z21 HTY.out).1;omega)
     obtain⟨ks',hks0,hvy⟩:=hc' 0 y hy
     have hks':w.rangeAt b' o'' ks':=by simpa using hks0
     have hlt1:(0:Int) <(ts.length:Int):=by have:=(z21 HTY.out).1;omega
     have hne:ts≠[]:=fun h=>by rw[h] at hlt1;simp at hlt1
     have HVS:=I (HR2.out.symm.trans (z9E hx hy))
     have HKS:=I (zd hks HBW.out hbl)
     have HKS':=I (zd hks' HBW.out hbl')
     have HKB:=I (Nat.lt_of_lt_of_le hbl HBW.out.size)
     have HKB':=I (Nat.lt_of_lt_of_le hbl' HBW.out.size)
     have HKL:=I (zi hvx)
     have HKL':=I (z0z hvy)
     have HC:=I (fun(z:World) (hz:Below W.heap.size W z)=>IH.out x (List.mem_of_getElem? hx) y (d+1) (e+1) ks ks' z (z9e HRX.out x (List.mem_of_getElem? hx)) ((z21 HTY.out).2 y (List.mem_of_getElem? hy)) (hvx.next (HBW.out.trans (hz.mono HBW.out.size))) (hvy.next (HBW.out.trans (hz.mono HBW.out.size))))
     clear hc hks hvx hx hc' hks0 hks' hvy hy
     generalize fitsV x y= rx at*
     go_upto_region 7 with (fail)
     clear c0 c5
     cases rx with
     |true=>
      have HV2:=I (HVS.out.trans (Bool.true_and _))
      clear HVS
      refine zu [(0,true),(1,true),(2,true),(3,true),(4,true),(5,true),(6,true),(7,true),(8,true),(9,false),(10,true)]
       (fun z=>Below W.heap.size W z) (by kernel_rfl) (by kernel_rfl) (by kernel_rfl) rfl (by intro c a d v w h;cases d<;>exact h) ?_
      have hs:Below W.heap.size W wr.drew:=HBK.out.drew
      refine z8 (some 27) (.pointer (some ⟨w.heap.size,5,none⟩)) _ rfl rfl (by exact wantA rfl) hs (fun z hz=>by go_simp) ?_
      go_frame
      refine z8 (some 28) (.slice (some ⟨b,o',none⟩) its.length c) _ rfl rfl (by exact wantA rfl) hs (fun z hz=>by have dd:=(hz.cell (p:=⟨w.heap.size,5,none⟩) HLT.out).trans D5.out;go_simp) ?_
      go_frame
      refine zk (some 29) (.int .i64 j) _ _ rfl rfl rfl (by exact wantA rfl) hs rfl ?_
      go_frame
      refine z8 (some 30) (.pointer (some ⟨b,o'+j*6,none⟩)) _ rfl rfl (by exact wantA rfl) hs (fun z hz=>by go_simp) ?_
      go_frame
      refine z8 (some 31) (.agg ⟨ks⟩) _ rfl rfl (by exact wantA rfl) hs (fun z hz=>zw 26 rfl b (o'+j*6) ks _ rfl (zd HKS.out hz HKB.out) Tryz.underlying26 rfl (by rw[HKL.out.1];kernel_rfl)) ?_
      go_frame
      refine z8 (some 32) (.pointer (some ⟨pb,2,none⟩)) _ rfl rfl (by exact wantA rfl) hs (fun z hz=>by go_simp) ?_
      go_frame
      refine z8 (some 33) (.slice (some ⟨b',o'',none⟩) ts.length c') _ rfl rfl (by exact wantA rfl) hs (fun z hz=>by have dd:=(hz.cell (p:=⟨pb,2,none⟩) HS2.out).trans E2.out;go_simp) ?_
      go_frame
      refine z8 (some 34) (.pointer (some ⟨b',o'',none⟩)) _ rfl rfl (by exact wantA rfl) hs (fun z hz=>by go_simp) ?_
      go_frame
      refine z8 (some 35) (.agg ⟨ks'⟩) _ rfl rfl (by exact wantA rfl) hs (fun z hz=>zw 45 rfl b' o'' ks' _ rfl (zd HKS'.out hz HKB'.out) Tryz.underlying45 rfl (by rw[HKL'.out.1];kernel_rfl)) ?_
      go_frame
      refine zx (some 36) 44 Tryz.func44 (by kernel_rfl) (by kernel_rfl) [.agg ⟨ks⟩,.agg ⟨ks'⟩] _ _ _ rfl rfl rfl (by exact wantA rfl) rfl ?_
      refine(HC.out _ hs).mono ?_
      rintro e z1 ⟨rfl,hb1⟩
      have hs2:Below W.heap.size W z1:=hs.trans (hb1.mono hs.size)
      refine⟨.bool true,rfl,hs2,?_⟩
      clear hb1
      go_frame
      refine z8 (some 37) (.bool false) _ rfl rfl (by exact wantA rfl) hs2 (fun z hz=>by go_simp) ?_
      go_frame
      refine zR ?_
      have HB3:=I hs2
      clear hs hs2
      go_wp2
      go_roundg g
      case measure=>omega
      case rel=>exact⟨j+1,by omega,by go_num,HB3.out,HV2.out.symm⟩
     |false=>
      have HV2:Hid (res= false):=I (HVS.out.trans (Bool.false_and _))
      clear HVS
      refine zu [(0,true),(1,true),(2,true),(3,true),(4,true),(5,true),(6,true),(7,true),(8,true),(9,false),(10,true)]
       (fun z=>Below W.heap.size W z) (by kernel_rfl) (by kernel_rfl) (by kernel_rfl) rfl (by intro c a d v w h;cases d<;>exact h) ?_
      have hs:Below W.heap.size W wr.drew:=HBK.out.drew
      refine z8 (some 27) (.pointer (some ⟨w.heap.size,5,none⟩)) _ rfl rfl (by exact wantA rfl) hs (fun z hz=>by go_simp) ?_
      go_frame
      refine z8 (some 28) (.slice (some ⟨b,o',none⟩) its.length c) _ rfl rfl (by exact wantA rfl) hs (fun z hz=>by have dd:=(hz.cell (p:=⟨w.heap.size,5,none⟩) HLT.out).trans D5.out;go_simp) ?_
      go_frame
      refine zk (some 29) (.int .i64 j) _ _ rfl rfl rfl (by exact wantA rfl) hs rfl ?_
      go_frame
      refine z8 (some 30) (.pointer (some ⟨b,o'+j*6,none⟩)) _ rfl rfl (by exact wantA rfl) hs (fun z hz=>by go_simp) ?_
      go_frame
      refine z8 (some 31) (.agg ⟨ks⟩) _ rfl rfl (by exact wantA rfl) hs (fun z hz=>zw 26 rfl b (o'+j*6) ks _ rfl (zd HKS.out hz HKB.out) Tryz.underlying26 rfl (by rw[HKL.out.1];kernel_rfl)) ?_
      go_frame
      refine z8 (some 32) (.pointer (some ⟨pb,2,none⟩)) _ rfl rfl (by exact wantA rfl) hs (fun z hz=>by go_simp) ?_
      go_frame
      refine z8 (some 33) (.slice (some ⟨b',o'',none⟩) ts.length c') _ rfl rfl (by exact wantA rfl) hs (fun z hz=>by have dd:=(hz.cell (p:=⟨pb,2,none⟩) HS2.out).trans E2.out;go_simp) ?_
      go_frame
      refine z8 (some 34) (.pointer (some ⟨b',o'',none⟩)) _ rfl rfl (by exact wantA rfl) hs (fun z hz=>by go_simp) ?_
      go_frame
      refine z8 (some 35) (.agg ⟨ks'⟩) _ rfl rfl (by exact wantA rfl) hs (fun z hz=>zw 45 rfl b' o'' ks' _ rfl (zd HKS'.out hz HKB'.out) Tryz.underlying45 rfl (by rw[HKL'.out.1];kernel_rfl)) ?_
      go_frame
      refine zx (some 36) 44 Tryz.func44 (by kernel_rfl) (by kernel_rfl) [.agg ⟨ks⟩,.agg ⟨ks'⟩] _ _ _ rfl rfl rfl (by exact wantA rfl) rfl ?_
      refine(HC.out _ hs).mono ?_
      rintro e z1 ⟨rfl,hb1⟩
      have hs2:Below W.heap.size W z1:=hs.trans (hb1.mono hs.size)
      refine⟨.bool false,rfl,hs2,?_⟩
      clear hb1
      go_frame
      refine z8 (some 37) (.bool true) _ rfl rfl (by exact wantA rfl) hs2 (fun z hz=>by go_simp) ?_
      go_frame
      refine zR ?_
      have HB3:=I hs2
      clear hs hs2
      go_wp2
      go_ret
      exact⟨za HV2.out.symm,HBW.out.trans (HB3.out.mono HBW.out.size)⟩
  have HO2:=I (HO1.out.trans (if_neg k5))
  clear HO1
  by_cases k6:k= 6
  ·subst k6
   have HV:Hid (res=(decide (ns= ns') && fitsL its ts)):=I (HO2.out.trans (if_pos rfl))
   clear HO2 hk7
   go_enter Tryz.func44,Tryz.ntmps44
   go_upto_region 1 with (fail)
   have HA0:=I (zq w [.int .i64 6,.int .i64 n,.float .f64 f,.string s,vn,.slice A its.length c] 26)
   have HB1:=I (ze w (.cells ⟨[.int .i64 6,.int .i64 n,.float .f64 f,.string s,vn,.slice A its.length c]⟩ 26))
   have HS1:=I (zt w (.cells ⟨[.int .i64 6,.int .i64 n,.float .f64 f,.string s,vn,.slice A its.length c]⟩ 26))
   have HSE:Hid ((w.alloc (.cells ⟨[.int .i64 6,.int .i64 n,.float .f64 f,.string s,vn,.slice A its.length c]⟩ 26)).heap.size= w.heap.size+1):=I (by simp)
   generalize w.alloc (.cells ⟨[.int .i64 6,.int .i64 n,.float .f64 f,.string s,vn,.slice A its.length c]⟩ 26)= W1 at*
   have HB:=I (zq W1 [.int .i64 6,vn',.slice A' ts.length c'] 45)
   have HB2:=I (ze W1 (.cells ⟨[.int .i64 6,vn',.slice A' ts.length c']⟩ 45))
   have HS2:=I (zt W1 (.cells ⟨[.int .i64 6,vn',.slice A' ts.length c']⟩ 45))
   generalize W1.alloc (.cells ⟨[.int .i64 6,vn',.slice A' ts.length c']⟩ 45)= W at*
   have HAW:=I (zd HA0.out HB2.out HS1.out)
   have HBW:=I (HB1.out.trans (HB2.out.mono HB1.out.size))
   have HLT:=I (Nat.lt_of_lt_of_le HS1.out HB2.out.size)
   rw[HSE.out] at HB HS2
   obtain⟨pb,hpb⟩:∃ pb,w.heap.size+1= pb:=⟨_,rfl⟩
   rw[hpb] at HB HS2
   rw[hpb]
   clear HA0 HB1 HS1 HSE HB2 hpb
   have d0:W.cell? ⟨w.heap.size,0,none⟩= some (.int .i64 6):=by have:=HAW.out 0 _ rfl;simpa using this
   have e0:W.cell? ⟨pb,0,none⟩= some (.int .i64 6):=by have:=HB.out 0 _ rfl;simpa using this
   have D5:Hid (W.cell? ⟨w.heap.size,5,none⟩= some (.slice A its.length c)):=I (by have:=HAW.out 5 _ rfl;simpa using this)
   have E2:Hid (W.cell? ⟨pb,2,none⟩= some (.slice A' ts.length c')):=I (by have:=HB.out 2 _ rfl;simpa using this)
   have D0:=I d0
   have c4:W.cell? ⟨w.heap.size,4,none⟩= some vn:=by have:=HAW.out 4 _ rfl;simpa using this
   have f1:W.cell? ⟨pb,1,none⟩= some vn':=by have:=HB.out 1 _ rfl;simpa using this
   have c5:=D5.out
   have HSE:=I (z69 vn vn' ns ns' W ((HN.out.below HBW.out fun _ _ _ h=>h).more HBW.out.size) ((HN'.out.below HBW.out fun _ _ _ h=>h).more HBW.out.size))
   by_cases hnn:ns= ns'
   ·have hz0:listC cmpS ns ns'= 0:=z2I.2 hnn
    have HR:Hid (res= fitsL its ts):=I (HV.out.trans (by rw[decide_eq_true hnn];exact Bool.true_and _))
    have HLN:Hid (its.length= ts.length):=I (by rw[← (z3R HRX.out).1,← (z3N HTY.out).1,hnn])
    rw[hz0] at HSE
    clear hnn HV hz0
    go_wp2_with (go_at_call 79;refine HSE.out.mono ?_;rintro en z ⟨rfl,hzm⟩;have HB4:Hid (Below W.heap.size W z):=I (by obtain⟨m,rfl⟩:=hzm;exact zC (Below.refl _ _) _);clear hzm;have c5':=(HB4.out.cell (p:=⟨w.heap.size,5,none⟩) HLT.out).trans D5.out)
    clear d0 e0 c4 f1 c5 c5'
    go_loopg [6] its.length (fun g x u=>∃ j:Nat,j+g= its.length/\x= .int .i64 j/\Below W.heap.size W u/\fitsL (its.drop j) (ts.drop j)= res)
    case atStart=>exact⟨0,by omega,rfl,HB4.out,HR.out.symm⟩
    case round=>
     obtain⟨j,hj,rfl,hb,hres⟩:=hrel
     have HR2:=I hres
     have HBK:=I hb
     have c0:wr.cell? ⟨w.heap.size,0,none⟩= some (.int .i64 6):=(hb.cell (p:=⟨w.heap.size,0,none⟩) HLT.out).trans D0.out
     have c5:=(hb.cell (p:=⟨w.heap.size,5,none⟩) HLT.out).trans D5.out
     clear hres hb
     cases gk with
     |zero=>
      obtain rfl:j= its.length:=by omega
      have hge: ¬ ((its.length:Int) <(its.length:Int)):=by omega
      have HVE:=I (HR2.out.symm.trans za0)
      go_wp2
      go_ret
      exact⟨za HVE.out.symm,HBW.out.trans (HBK.out.mono HBW.out.size)⟩
     |succ g=>
      have hlt:(j:Int) <(its.length:Int):=by omega
      obtain⟨x,hx⟩:∃ x,its[j]?= some x:=⟨_,List.getElem?_eq_getElem (by omega)⟩
      obtain⟨b,o',rfl,hbl,hc⟩:=HA.out (by omega)
      obtain⟨ks,hks,hvx⟩:=hc j x hx
      have hjt:j < ts.length:=HLN.out▸ (by omega:j < its.length)
      have hlt1:(j:Int) <(ts.length:Int):=by omega
      obtain⟨y,hy⟩:∃ y,ts[j]?= some y:=⟨_,List.getElem?_eq_getElem hjt⟩
      obtain⟨b',o'',rfl,hbl',hc'⟩:=HA'.out (by omega)
      obtain⟨ks',hks',hvy⟩:=hc' j y hy
      have HVS:=I (HR2.out.symm.trans (z9G hx hy))
      have HKS:=I (zd hks HBW.out hbl)
      have HKS':=I (zd hks' HBW.out hbl')
      have HKB:=I (Nat.lt_of_lt_of_le hbl HBW.out.size)
      have HKB':=I (Nat.lt_of_lt_of_le hbl' HBW.out.size)
      have HKL:=I (zi hvx)
      have HKL':=I (z0z hvy)
      have HC:=I (fun(z:World) (hz:Below W.heap.size W z)=>IH.out x (List.mem_of_getElem? hx) y (d+1) (e+1) ks ks' z ((z3R HRX.out).2 x (List.mem_of_getElem? hx)) ((z3N HTY.out).2 y (List.mem_of_getElem? hy)) (hvx.next (HBW.out.trans (hz.mono HBW.out.size))) (hvy.next (HBW.out.trans (hz.mono HBW.out.size))))
      clear hc hks hvx hx hc' hks' hvy hy
      generalize fitsV x y= rx at*
      go_upto_region 15 with (fail)
      clear c0 c5
      cases rx with
      |true=>
       have HV2:=I (HVS.out.trans (Bool.true_and _))
       clear HVS
       refine zu [(0,true),(1,true),(2,true),(3,true),(4,true),(5,true),(6,true),(7,true),(8,true),(9,true),(10,false),(11,true)]
        (fun z=>Below W.heap.size W z) (by kernel_rfl) (by kernel_rfl) (by kernel_rfl) rfl (by intro c a d v w h;cases d<;>exact h) ?_
       have hs:Below W.heap.size W wr.drew:=HBK.out.drew
       refine z8 (some 54) (.pointer (some ⟨w.heap.size,5,none⟩)) _ rfl rfl (by exact wantA rfl) hs (fun z hz=>by go_simp) ?_
       go_frame
       refine z8 (some 55) (.slice (some ⟨b,o',none⟩) its.length c) _ rfl rfl (by exact wantA rfl) hs (fun z hz=>by have dd:=(hz.cell (p:=⟨w.heap.size,5,none⟩) HLT.out).trans D5.out;go_simp) ?_
       go_frame
       refine zk (some 56) (.int .i64 j) _ _ rfl rfl rfl (by exact wantA rfl) hs rfl ?_
       go_frame
       refine z8 (some 57) (.pointer (some ⟨b,o'+j*6,none⟩)) _ rfl rfl (by exact wantA rfl) hs (fun z hz=>by go_simp) ?_
       go_frame
       refine z8 (some 58) (.agg ⟨ks⟩) _ rfl rfl (by exact wantA rfl) hs (fun z hz=>zw 26 rfl b (o'+j*6) ks _ rfl (zd HKS.out hz HKB.out) Tryz.underlying26 rfl (by rw[HKL.out.1];kernel_rfl)) ?_
       go_frame
       refine z8 (some 59) (.pointer (some ⟨pb,2,none⟩)) _ rfl rfl (by exact wantA rfl) hs (fun z hz=>by go_simp) ?_
       go_frame
       refine z8 (some 60) (.slice (some ⟨b',o'',none⟩) ts.length c') _ rfl rfl (by exact wantA rfl) hs (fun z hz=>by have dd:=(hz.cell (p:=⟨pb,2,none⟩) HS2.out).trans E2.out;go_simp) ?_
       go_frame
       refine zk (some 61) (.int .i64 j) _ _ rfl rfl rfl (by exact wantA rfl) hs rfl ?_
       go_frame
       refine z8 (some 62) (.pointer (some ⟨b',(o''+j*3),none⟩)) _ rfl rfl (by exact wantA rfl) hs (fun z hz=>by go_simp) ?_
       go_frame
       refine z8 (some 63) (.agg ⟨ks'⟩) _ rfl rfl (by exact wantA rfl) hs (fun z hz=>zw 45 rfl b' (o''+j*3) ks' _ rfl (zd HKS'.out hz HKB'.out) Tryz.underlying45 rfl (by rw[HKL'.out.1];kernel_rfl)) ?_
       go_frame
       refine zx (some 64) 44 Tryz.func44 (by kernel_rfl) (by kernel_rfl) [.agg ⟨ks⟩,.agg ⟨ks'⟩] _ _ _ rfl rfl rfl (by exact wantA rfl) rfl ?_
       refine(HC.out _ hs).mono ?_
       rintro e z1 ⟨rfl,hb1⟩
       have hs2:Below W.heap.size W z1:=hs.trans (hb1.mono hs.size)
       refine⟨.bool true,rfl,hs2,?_⟩
       clear hb1
       go_frame
       refine z8 (some 65) (.bool false) _ rfl rfl (by exact wantA rfl) hs2 (fun z hz=>by go_simp) ?_
       go_frame
       refine zR ?_
       have HB3:=I hs2
       clear hs hs2
       go_wp2
       go_roundg g
       case measure=>omega
       case rel=>exact⟨j+1,by omega,by go_num,HB3.out,HV2.out.symm⟩
      |false=>
       have HV2:Hid (res= false):=I (HVS.out.trans (Bool.false_and _))
       clear HVS
       refine zu [(0,true),(1,true),(2,true),(3,true),(4,true),(5,true),(6,true),(7,true),(8,true),(9,true),(10,false),(11,true)]
        (fun z=>Below W.heap.size W z) (by kernel_rfl) (by kernel_rfl) (by kernel_rfl) rfl (by intro c a d v w h;cases d<;>exact h) ?_
       have hs:Below W.heap.size W wr.drew:=HBK.out.drew
       refine z8 (some 54) (.pointer (some ⟨w.heap.size,5,none⟩)) _ rfl rfl (by exact wantA rfl) hs (fun z hz=>by go_simp) ?_
       go_frame
       refine z8 (some 55) (.slice (some ⟨b,o',none⟩) its.length c) _ rfl rfl (by exact wantA rfl) hs (fun z hz=>by have dd:=(hz.cell (p:=⟨w.heap.size,5,none⟩) HLT.out).trans D5.out;go_simp) ?_
       go_frame
       refine zk (some 56) (.int .i64 j) _ _ rfl rfl rfl (by exact wantA rfl) hs rfl ?_
       go_frame
       refine z8 (some 57) (.pointer (some ⟨b,o'+j*6,none⟩)) _ rfl rfl (by exact wantA rfl) hs (fun z hz=>by go_simp) ?_
       go_frame
       refine z8 (some 58) (.agg ⟨ks⟩) _ rfl rfl (by exact wantA rfl) hs (fun z hz=>zw 26 rfl b (o'+j*6) ks _ rfl (zd HKS.out hz HKB.out) Tryz.underlying26 rfl (by rw[HKL.out.1];kernel_rfl)) ?_
       go_frame
       refine z8 (some 59) (.pointer (some ⟨pb,2,none⟩)) _ rfl rfl (by exact wantA rfl) hs (fun z hz=>by go_simp) ?_
       go_frame
       refine z8 (some 60) (.slice (some ⟨b',o'',none⟩) ts.length c') _ rfl rfl (by exact wantA rfl) hs (fun z hz=>by have dd:=(hz.cell (p:=⟨pb,2,none⟩) HS2.out).trans E2.out;go_simp) ?_
       go_frame
       refine zk (some 61) (.int .i64 j) _ _ rfl rfl rfl (by exact wantA rfl) hs rfl ?_
       go_frame
       refine z8 (some 62) (.pointer (some ⟨b',(o''+j*3),none⟩)) _ rfl rfl (by exact wantA rfl) hs (fun z hz=>by go_simp) ?_
       go_frame
       refine z8 (some 63) (.agg ⟨ks'⟩) _ rfl rfl (by exact wantA rfl) hs (fun z hz=>zw 45 rfl b' (o''+j*3) ks' _ rfl (zd HKS'.out hz HKB'.out) Tryz.underlying45 rfl (by rw[HKL'.out.1];kernel_rfl)) ?_
       go_frame
       refine zx (some 64) 44 Tryz.func44 (by kernel_rfl) (by kernel_rfl) [.agg ⟨ks⟩,.agg ⟨ks'⟩] _ _ _ rfl rfl rfl (by exact wantA rfl) rfl ?_
       refine(HC.out _ hs).mono ?_
       rintro e z1 ⟨rfl,hb1⟩
       have hs2:Below W.heap.size W z1:=hs.trans (hb1.mono hs.size)
       refine⟨.bool false,rfl,hs2,?_⟩
       clear hb1
       go_frame
       refine z8 (some 65) (.bool true) _ rfl rfl (by exact wantA rfl) hs2 (fun z hz=>by go_simp) ?_
       go_frame
       refine zR ?_
       have HB3:=I hs2
       clear hs hs2
       go_wp2
       go_ret
       exact⟨za HV2.out.symm,HBW.out.trans (HB3.out.mono HBW.out.size)⟩
   ·have hz0:listC cmpS ns ns'≠0:=fun h=>hnn (z2I.1 h)
    have HR:Hid (res= false):=I (HV.out.trans (by rw[decide_eq_false hnn];exact Bool.false_and _))
    generalize listC cmpS ns ns'= cv at*
    have t2:(cv !=0)= true:=by simpa using hz0
    clear hnn HV hz0
    go_wp2_with (go_at_call 79;refine HSE.out.mono ?_;rintro en z ⟨rfl,hzm⟩;have HB4:Hid (Below W.heap.size W z):=I (by obtain⟨m,rfl⟩:=hzm;exact zC (Below.refl _ _) _);clear hzm;have c5':=(HB4.out.cell (p:=⟨w.heap.size,5,none⟩) HLT.out).trans D5.out)
    go_ret
    exact⟨za HR.out.symm,HBW.out.trans (HB4.out.mono HBW.out.size)⟩
  have HR:Hid (res= true):=I (HO2.out.trans (if_neg k6))
  have s5:(k ==5)= false:=by simpa using k5
  have s6:(k ==6)= false:=by simpa using k6
  have s7:(k ==7)= false:=by simpa using hk7
  clear HO2 k5 k6 hk7
  go_enter Tryz.func44,Tryz.ntmps44
  go_upto_region 1 with (fail)
  have HA0:=I (zq w [.int .i64 k,.int .i64 n,.float .f64 f,.string s,vn,.slice A its.length c] 26)
  have HB1:=I (ze w (.cells ⟨[.int .i64 k,.int .i64 n,.float .f64 f,.string s,vn,.slice A its.length c]⟩ 26))
  have HS1:=I (zt w (.cells ⟨[.int .i64 k,.int .i64 n,.float .f64 f,.string s,vn,.slice A its.length c]⟩ 26))
  have HSE:Hid ((w.alloc (.cells ⟨[.int .i64 k,.int .i64 n,.float .f64 f,.string s,vn,.slice A its.length c]⟩ 26)).heap.size= w.heap.size+1):=I (by simp)
  generalize w.alloc (.cells ⟨[.int .i64 k,.int .i64 n,.float .f64 f,.string s,vn,.slice A its.length c]⟩ 26)= W1 at*
  have HB:=I (zq W1 [.int .i64 k,vn',.slice A' ts.length c'] 45)
  have HB2:=I (ze W1 (.cells ⟨[.int .i64 k,vn',.slice A' ts.length c']⟩ 45))
  have HS2:=I (zt W1 (.cells ⟨[.int .i64 k,vn',.slice A' ts.length c']⟩ 45))
  generalize W1.alloc (.cells ⟨[.int .i64 k,vn',.slice A' ts.length c']⟩ 45)= W at*
  have HAW:=I (zd HA0.out HB2.out HS1.out)
  have HBW:=I (HB1.out.trans (HB2.out.mono HB1.out.size))
  have HLT:=I (Nat.lt_of_lt_of_le HS1.out HB2.out.size)
  rw[HSE.out] at HB HS2
  obtain⟨pb,hpb⟩:∃ pb,w.heap.size+1= pb:=⟨_,rfl⟩
  rw[hpb] at HB HS2
  rw[hpb]
  clear HA0 HB1 HS1 HSE HB2 hpb
  have d0:W.cell? ⟨w.heap.size,0,none⟩= some (.int .i64 k):=by have:=HAW.out 0 _ rfl;simpa using this
  have e0:W.cell? ⟨pb,0,none⟩= some (.int .i64 k):=by have:=HB.out 0 _ rfl;simpa using this
  have D5:Hid (W.cell? ⟨w.heap.size,5,none⟩= some (.slice A its.length c)):=I (by have:=HAW.out 5 _ rfl;simpa using this)
  have E2:Hid (W.cell? ⟨pb,2,none⟩= some (.slice A' ts.length c')):=I (by have:=HB.out 2 _ rfl;simpa using this)
  go_wp2
  go_ret
  exact⟨za HR.out.symm,HBW.out⟩
def z28 (x:VT):Bool:=decide (cntV x 0<=200) && zo x 1
def typeT (t:TT):Bool:=decide (cntT t 0<=200) && zF t 1
def fitT (x:VT) (t:TT):Bool:=z28 x && (typeT t && fitsV x t)
theorem zbE (x:VT) (t:TT) (cs cs':List Value) (w:World) (hv:ValAt w w.heap.size cs x) (hv':TypAt w w.heap.size cs' t):
  Calls Tryz.prog 18 #[.agg ⟨cs⟩,.agg ⟨cs'⟩] w fun en w'=>en= .returned (.bool (fitT x t))/\Below w.heap.size w w':=by
 have HV:=I hv
 have HV':=I hv'
 have HL:=I (zi hv)
 have HL':=I (z0z hv')
 have HO:Hid (fitT x t=(z28 x && (typeT t && fitsV x t))):=I rfl
 generalize hres:fitT x t= res at*
 clear hv hv' hres
 go_enter Tryz.func18,Tryz.ntmps18
 go_upto_region 1 with (fail)
 have HA0:=I (zq w cs 26)
 have HB1:=I (ze w (.cells ⟨cs⟩ 26))
 have HS1:=I (zt w (.cells ⟨cs⟩ 26))
 have HSE:Hid ((w.alloc (.cells ⟨cs⟩ 26)).heap.size= w.heap.size+1):=I (by simp)
 generalize w.alloc (.cells ⟨cs⟩ 26)= W1 at*
 have HB:=I (zq W1 cs' 45)
 have HB2:=I (ze W1 (.cells ⟨cs'⟩ 45))
 have HS2:=I (zt W1 (.cells ⟨cs'⟩ 45))
 generalize W1.alloc (.cells ⟨cs'⟩ 45)= W at*
 have HAW:=I (zd HA0.out HB2.out HS1.out)
 have HBW:=I (HB1.out.trans (HB2.out.mono HB1.out.size))
 have HLT:=I (Nat.lt_of_lt_of_le HS1.out HB2.out.size)
 rw[HSE.out] at HB HS2
 obtain⟨pb,hpb⟩:∃ pb,w.heap.size+1= pb:=⟨_,rfl⟩
 rw[hpb] at HB HS2
 rw[hpb]
 clear HA0 HB1 HS1 HSE HB2 hpb
 have HVW:=I (HV.out.next HBW.out)
 have HC1:=I (z22 x cs W HVW.out)
 change Hid (Calls _ _ _ _ fun e w'=>e= .returned (.bool (z28 x))/\_) at HC1
 have HC2:=I (fun(z:World) (hz:Below W.heap.size W z)=>z2N t cs' z (HV'.out.next (HBW.out.trans (hz.mono HBW.out.size))))
 change Hid (∀ z:World,_->Calls _ _ _ _ fun e w'=>e= .returned (.bool (typeT t))/\_) at HC2
 cases hr1:z28 x with
 |false=>
  have HR:Hid (res= false):=I (HO.out.trans (by simp[hr1]))
  rw[hr1] at HC1
  go_wp2_with (first|((with_reducible refine zc 26 _ rfl ?hwa w.heap.size 0 cs _ rfl HAW.out Tryz.underlying26 rfl ?hia ?_);(case hwa=>(exact wantA rfl));(case hia=>rw[HL.out.1];kernel_rfl))|(go_at_call 21;refine HC1.out.mono ?_;rintro e z1 ⟨rfl,hbz⟩;have HBA:=I hbz;clear hbz))
  go_ret
  first|exact⟨za HR.out.symm,HBW.out.trans (HBA.out.mono HBW.out.size)⟩|exact⟨rfl,HBW.out.trans (HBA.out.mono HBW.out.size)⟩
 |true=>
  have HO2:Hid (res=(typeT t && fitsV x t)):=I (by rw[HO.out,hr1,Bool.true_and])
  rw[hr1] at HC1
  cases ht2:typeT t with
  |false=>
   have HR:Hid (res= false):=I (HO2.out.trans (by simp[ht2]))
   rw[ht2] at HC2
   go_wp2_with (first|((with_reducible refine zc 26 _ rfl ?hwa w.heap.size 0 cs _ rfl HAW.out Tryz.underlying26 rfl ?hia ?_);(case hwa=>(exact wantA rfl));(case hia=>rw[HL.out.1];kernel_rfl))|(go_at_call 21;refine HC1.out.mono ?_;rintro e z1 ⟨rfl,hbz⟩;have HBA:=I hbz;clear hbz)|((with_reducible refine zc 45 _ rfl ?hwb pb 0 cs' _ rfl (zd HB.out HBA.out HS2.out) Tryz.underlying45 rfl ?hib ?_);(case hwb=>(exact wantA rfl));(case hib=>rw[HL'.out.1];kernel_rfl))|(go_at_call 43;refine(HC2.out _ HBA.out).mono ?_;rintro e z2 ⟨rfl,hbz⟩;have HBC:=I (HBA.out.trans (hbz.mono HBA.out.size));clear hbz))
   go_ret
   first|exact⟨za HR.out.symm,HBW.out.trans (HBC.out.mono HBW.out.size)⟩|exact⟨rfl,HBW.out.trans (HBC.out.mono HBW.out.size)⟩
  |true=>
   have HR:Hid (res= fitsV x t):=I (HO2.out.trans (by rw[ht2];exact Bool.true_and _))
   rw[ht2] at HC2
   have hx1:zo x 1= true:=by unfold z28 at hr1;rw[Bool.and_eq_true] at hr1;exact hr1.2
   have ht1:zF t 1= true:=by unfold typeT at ht2;rw[Bool.and_eq_true] at ht2;exact ht2.2
   have HC3:=I (fun(z:World) (hz:Below W.heap.size W z)=>zad x t 1 1 cs cs' z hx1 ht1 (HVW.out.next hz) (HV'.out.next (HBW.out.trans (hz.mono HBW.out.size))))
   clear hx1 ht1 hr1 ht2
   go_wp2_with (first|((with_reducible refine zc 26 _ rfl ?hwc w.heap.size 0 cs _ rfl (zd HAW.out HBC.out HLT.out) Tryz.underlying26 rfl ?hic ?_);(case hwc=>(exact wantA rfl));(case hic=>rw[HL.out.1];kernel_rfl))|((with_reducible refine zc 45 _ rfl ?hwd pb 0 cs' _ rfl (zd HB.out HBC.out HS2.out) Tryz.underlying45 rfl ?I ?_);(case hwd=>(exact wantA rfl));(case I=>rw[HL'.out.1];kernel_rfl))|((with_reducible refine zc 26 _ rfl ?hwa w.heap.size 0 cs _ rfl HAW.out Tryz.underlying26 rfl ?hia ?_);(case hwa=>(exact wantA rfl));(case hia=>rw[HL.out.1];kernel_rfl))|(go_at_call 21;refine HC1.out.mono ?_;rintro e z1 ⟨rfl,hbz⟩;have HBA:=I hbz;clear hbz)|((with_reducible refine zc 45 _ rfl ?hwb pb 0 cs' _ rfl (zd HB.out HBA.out HS2.out) Tryz.underlying45 rfl ?hib ?_);(case hwb=>(exact wantA rfl));(case hib=>rw[HL'.out.1];kernel_rfl))|(go_at_call 43;refine(HC2.out _ HBA.out).mono ?_;rintro e z2 ⟨rfl,hbz⟩;have HBC:=I (HBA.out.trans (hbz.mono HBA.out.size));clear hbz)|(go_at_call 44;refine(HC3.out _ HBC.out).mono ?_;rintro e z3 ⟨rfl,hbz⟩;have HBD:=I (HBC.out.trans (hbz.mono HBC.out.size));clear hbz))
   go_ret
   exact⟨za HR.out.symm,HBW.out.trans (HBD.out.mono HBW.out.size)⟩
end
end Go.Proofs.YtmpbepjjbaeebaaGreatDoor
