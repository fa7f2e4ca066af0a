/- Parts of a proof: WO, WSh, WTy. -/
import Derived.Test.YtdjfpcmlffekkaaGreatDoorPackL12
import Derived.Test.YtdjfpcmlffekkaaGreatDoorPackL43
set_option maxHeartbeats 8000000
set_option maxRecDepth 100000
set_option linter.unusedVariables false
set_option linter.unusedSimpArgs false
namespace Go.Proofs.YtdjfpcmlffekkaaGreatDoor
section
open Go Go.RowKit P
section
variable {P:Program} {ops:Array Oper} {Q:Exit->Act->World->Prop} {S:World->Prop} {i:Nat} {r:List (Nat × Bool)} {a:Act} {w:World}
theorem zg (d:Option Tmp) (o:Oper) (hi:ops[i]?= some o) (hd:o.dst= d) (hw:Region.wanted o (yielded ops a.tmps)= false) (hS:S w) (h:wpOrd P ops S Q r (a.put d undef) w):wpOrd P ops S Q ((i,true)::r) a w:=by subst hd;exact zdk o hi hw hS h
theorem z0o (d:Option Tmp) (o:Oper) (hi:ops[i]?= some o) (hd:o.dst= d) (hw:Region.wanted o (yielded ops a.tmps)= false) (hS:S w) (h:wpOrd P ops S Q r (a.put d undef) w):wpOrd P ops S Q ((i,false)::r) a w:=by subst hd;exact zcU o hi hw hS h
end
theorem zbt {m:ModelT} {mb lb n:Nat} {R:Rel} {w0 u:World} {OA GA VA MA NA:Option Addr} {oc gc vc mc nc cb:Nat} {nb no:Nat} {x:NodeT} {XA CA:Option Addr} {xc cc:Nat} {ce cbx:List Value} (hs:CkS m mb lb n R w0 OA GA VA MA NA oc gc vc mc nc) (hd:CkD mb lb w0 cb u) (hf:NdF w0 nb no x XA CA xc cc ce cbx) (d:Need):
  Calls Tryz.prog 65 #[.pointer (some ⟨cb,0,none⟩),.pointer (some ⟨nb,no,none⟩),.agg ⟨encNd d⟩] u fun e u'=>e= .returned (.bool (waysB m.nodes x d))/\Below u.heap.size u u':=by
 have HB:=I (zd u (.cells ⟨encNd d⟩ 112))
 have HW:=I (Whole.new u (encNd d) 112)
 have HS:=I hs
 have HD:=I (hd.next HB.o)
 have HF:=I hf
 have HR:Hid (waysB m.nodes x d=((decide (d.least<=x.next.length) && decide ((x.next.length:Int)<=d.most)) &&
  ((if d.conds then decide ((x.conds.length:Int)<=5) && ((x.next.length:Int) ==x.conds.length+1) else(x.conds.length:Int) ==0) &&
  (x.next.all (wayB m.nodes) && (x.catch_ == -1 ||(d.catch_ && wayB m.nodes x.catch_)))))):=I rfl
 obtain⟨r,hr⟩:∃ r,waysB m.nodes x d= r:=⟨_,rfl⟩
 rw[hr] at HR
 rw[hr]
 have HNX:=I hf.next
 have hnl:x.next.length<=9223372036854775807:=hf.next.1
 have hnl2:(x.next.length:Int)<=9223372036854775807:=by omega
 have hcl:x.conds.length<=9223372036854775807:=hf.conds.1
 have hcl2:(x.conds.length:Int)<=9223372036854775807:=by omega
 clear hs hd hf hr
 go_enter Tryz.func65,Tryz.ntmps65
 go_upto_region 1 with (fail)
 generalize u.alloc (.cells ⟨encNd d⟩ 112)= W at*
 have HND:Hid (∀ z,Below W.heap.size W z->z.rangeAt u.heap.size 0 (encNd d)):=I fun z hz=>(HW.o.keep (hz.block _ HW.o.lt)).range
 have HWR:Hid (Below W.heap.size W W):=I (Below.refl _ _)
 have n0:W.cell? ⟨u.heap.size,0,none⟩= some (.int .i64 d.least):=HND.o W HWR.o 0 _ rfl
 have n1:W.cell? ⟨u.heap.size,1,none⟩= some (.int .i64 d.most):=HND.o W HWR.o 1 _ rfl
 have n2:W.cell? ⟨u.heap.size,2,none⟩= some (.bool d.conds):=HND.o W HWR.o 2 _ rfl
 have n7:W.cell? ⟨u.heap.size,7,none⟩= some (.bool d.catch_):=HND.o W HWR.o 7 _ rfl
 have x2:=HF.o.c2 HD.o.bel
 have x3:=HF.o.c3 HD.o.bel
 have x26:=HF.o.c26 HD.o.bel
 by_cases h1:(x.next.length:Int) < d.least
 ·have HV:Hid (r= false):=I (by rw[HR.o];have h3: ¬ d.least<=(x.next.length:Int):=(by omega);simp[h3])
  have h1b:decide ((x.next.length:Int) < d.least)= true:=by simpa using h1
  go_quiet (fail)
  go_wp2
  go_ret
  exact⟨zb HV.o.symm,zj HB.o _⟩
 have h1b:decide ((x.next.length:Int) < d.least)= false:=by simpa using h1
 by_cases h2:d.most <(x.next.length:Int)
 ·have HV:Hid (r= false):=I (by rw[HR.o];have h3: ¬ (x.next.length:Int)<=d.most:=(by omega);simp[h3])
  have h2b:decide (d.most <(x.next.length:Int))= true:=by simpa using h2
  go_quiet (fail)
  go_wp2
  go_ret
  exact⟨zb HV.o.symm,zj HB.o _⟩
 have h2b:decide (d.most <(x.next.length:Int))= false:=by simpa using h2
 have HR1:Hid (r=((if d.conds then decide ((x.conds.length:Int)<=5) && ((x.next.length:Int) ==x.conds.length+1) else(x.conds.length:Int) ==0) &&
  (x.next.all (wayB m.nodes) && (x.catch_ == -1 ||(d.catch_ && wayB m.nodes x.catch_))))):=I (by rw[HR.o];have h3:d.least<=(x.next.length:Int):=(by omega);have h4:(x.next.length:Int)<=d.most:=(by omega);simp[h3,h4])
 have HC:Hid (∀ z,Below W.heap.size W z->CkD mb lb w0 cb z):=I fun z hz=>HD.o.next hz
 clear n0 n1 n2 n7 x2 x3 x26
 have n0:W.cell? ⟨u.heap.size,0,none⟩= some (.int .i64 d.least):=HND.o W HWR.o 0 _ rfl
 have n1:W.cell? ⟨u.heap.size,1,none⟩= some (.int .i64 d.most):=HND.o W HWR.o 1 _ rfl
 have x2:=HF.o.c2 HD.o.bel
 go_quiet (fail)
 go_upto_region 3 with (fail)
 have HY:Hid (Below W.heap.size W (W.drewN nq)):=I ⟨rfl,rfl,rfl,Nat.le_refl _,fun _ _=>rfl⟩
 clear n0 n1 x2
 generalize W.drewN nq= Y at*
 obtain⟨dc,hdc⟩:∃ b,d.conds= b:=⟨_,rfl⟩
 rw[hdc] at HR1
 have n2:Y.cell? ⟨u.heap.size,2,none⟩= some (.bool dc):=hdc▸HND.o Y HY.o 2 _ rfl
 have y2:=HF.o.c2 (HC.o Y HY.o).bel
 have y3:=HF.o.c3 (HC.o Y HY.o).bel
 have HBY:Hid (Below u.heap.size u Y):=I (HB.o.trans (HY.o.mono HB.o.size))
 clear hdc
 obtain⟨gc2,hgc⟩:∃ b:Bool,(if dc then decide ((x.conds.length:Int)<=5) && ((x.next.length:Int) ==x.conds.length+1) else(x.conds.length:Int) ==0)= b:=⟨_,rfl⟩
 have HGC:=I hgc
 rw[hgc] at HR1
 clear hgc
 go_cut [63] (fun v z=>v= .bool (!gc2)/\Below Y.heap.size Y z)
 case first=>
  clear HR1
  cases dc with
  |true=>
   by_cases c5:5 <(x.conds.length:Int)
   ·have c5b:decide (5 <(x.conds.length:Int))= true:=by simpa using c5
    have hg:gc2= false:=by rw[← HGC.o];have h3: ¬ (x.conds.length:Int)<=5:=(by omega);simp[h3]
    go_quiet (fail)
    go_wp2
    go_meet
    case rel=>exact⟨by rw[hg];first|rfl|(simp;done)|(simp;have h:=C0.o;omega)|(simp;have h:=C0.o;exact List.length_eq_zero_iff.1 (by omega)),zj (Below.refl _ _) _⟩
   have c5b:decide (5 <(x.conds.length:Int))= false:=by simpa using c5
   have hw:IntKind.i64.wrap ((x.conds.length:Int)+1)=(x.conds.length:Int)+1:=by rw[IntKind.wrap_i64];omega
   by_cases ce:(x.next.length:Int)=(x.conds.length:Int)+1
   ·have ceb:((x.next.length:Int) !=(x.conds.length:Int)+1)= false:=by rw[ce];exact bne_self_eq_false _
    have hg:gc2= true:=by rw[← HGC.o];have h3:(x.conds.length:Int)<=5:=(by omega);simp[h3,ce]
    go_quiet (fail)
    go_wp2
    go_meet
    case rel=>exact⟨by rw[hg];first|rfl|(simp;done)|(simp;have h:=C0.o;omega)|(simp;have h:=C0.o;exact List.length_eq_zero_iff.1 (by omega)),zj (Below.refl _ _) _⟩
   ·have ceb:((x.next.length:Int) !=(x.conds.length:Int)+1)= true:=by rw[bne_iff_ne];exact ce
    have hg:gc2= false:=by rw[← HGC.o];simp[ce]
    go_quiet (fail)
    go_wp2
    go_meet
    case rel=>exact⟨by rw[hg];first|rfl|(simp;done)|(simp;have h:=C0.o;omega)|(simp;have h:=C0.o;exact List.length_eq_zero_iff.1 (by omega)),zj (Below.refl _ _) _⟩
  |false=>
   by_cases c0:0 <(x.conds.length:Int)
   ·have C0:=I c0
    have c0b:decide (0 <(x.conds.length:Int))= true:=by simpa using c0
    have hg:gc2= false:=by have h:=HGC.o;have h4:((x.conds.length:Int) ==0)= false:=(by rw[beq_eq_false_iff_ne];omega);rw[if_neg (by decide),h4] at h;exact h.symm
    go_quiet (fail)
    go_wp2
    go_meet
    case rel=>exact⟨by rw[hg];first|rfl|(simp;done)|(simp;have h:=C0.o;omega)|(simp;have h:=C0.o;exact List.length_eq_zero_iff.1 (by omega)),zj (Below.refl _ _) _⟩
   ·have C0:=I c0
    have c0b:decide (0 <(x.conds.length:Int))= false:=by simpa using c0
    have hg:gc2= true:=by have h:=HGC.o;have h3:(x.conds.length:Int)= 0:=(by omega);rw[if_neg (by decide),h3] at h;exact h.symm
    go_quiet (fail)
    go_wp2
    go_meet
    case rel=>exact⟨by rw[hg];first|rfl|(simp;done)|(simp;have h:=C0.o;omega)|(simp;have h:=C0.o;exact List.length_eq_zero_iff.1 (by omega)),zj (Below.refl _ _) _⟩
 case rest=>
 obtain⟨rfl,hyz⟩:=hcut
 obtain⟨V,hV⟩:∃ z,z= wc:=⟨_,rfl⟩
 subst hV
 have HWV:Hid (Below W.heap.size W V):=I (HY.o.trans (hyz.mono HY.o.size))
 have HBV:Hid (Below u.heap.size u V):=I (HB.o.trans (HWV.o.mono HB.o.size))
 have HDV:=I (HC.o V HWV.o)
 clear hyz n2 y2 y3
 cases gc2 with
 |false=>
  have HV:Hid (r= false):=I (by rw[HR1.o];rfl)
  go_wp2
  go_ret
  exact⟨zb HV.o.symm,HBV.o⟩
 |true=>
 have HR2:Hid (r=(x.next.all (wayB m.nodes) && (x.catch_ == -1 ||(d.catch_ && wayB m.nodes x.catch_)))):=I (by rw[HR1.o,Bool.true_and])
 obtain⟨-,XA',xc',e1,hnx⟩:=HNX.o
 injection e1 with e1 e2 e3
 subst e1 e3
 have HNR:=I hnx
 have y2:=HF.o.c2 HDV.o.bel
 clear hnx e2 HNX
 go_wp2
 clear y2
 go_loopg [69] x.next.length (fun q y z=>∃ j:Nat,j+q= x.next.length/\y= .int .i64 j/\Below V.heap.size V z/\(x.next.take j).all (wayB m.nodes)= true)
 case atStart=>exact⟨0,by omega,rfl,Below.refl _ _,by simp⟩
 case round=>
  obtain⟨j,hj,rfl,hb,hal⟩:=hrel
  have HBK:=I hb
  have HAL:=I hal
  have HDZ:=I (HDV.o.next hb)
  clear hb hal
  obtain⟨Z,hZ⟩:∃ z,z= wr:=⟨_,rfl⟩
  subst hZ
  have HBZ:Hid (Below u.heap.size u Z):=I (HBV.o.trans (HBK.o.mono HBV.o.size))
  cases gk with
  |zero=>
   obtain rfl:j= x.next.length:=by omega
   have hge: ¬ ((x.next.length:Int) <(x.next.length:Int)):=by omega
   have HR3:Hid (r=(x.catch_ == -1 ||(d.catch_ && wayB m.nodes x.catch_))):=I (by rw[HR2.o];have h:=HAL.o;rw[List.take_length] at h;rw[h,Bool.true_and])
   have x26:=HF.o.c26 HDZ.o.bel
   have n7:Z.cell? ⟨u.heap.size,7,none⟩= some (.bool d.catch_):=HND.o Z (HWV.o.trans (HBK.o.mono HWV.o.size)) 7 _ rfl
   have HWY:=I (z7V HS.o HDZ.o x.catch_)
   obtain⟨bw,hbw⟩:∃ b,wayB m.nodes x.catch_= b:=⟨_,rfl⟩
   obtain⟨dk,hdk⟩:∃ b,d.catch_= b:=⟨_,rfl⟩
   obtain⟨ck,hck⟩:∃ b,x.catch_= b:=⟨_,rfl⟩
   rw[hbw] at HWY HR3
   rw[hdk] at n7 HR3
   rw[hck] at x26 HR3 HWY
   clear hbw hdk hck
   by_cases h1:ck= -1
   ·subst h1
    have HV:Hid (r= true):=I (by rw[HR3.o];rfl)
    go_wp2
    go_ret
    exact⟨zb HV.o.symm,HBZ.o⟩
   have h1b:(ck == -1)= false:=by rw[beq_eq_false_iff_ne];exact h1
   have HR4:Hid (r=(dk && bw)):=I (by rw[HR3.o,h1b,Bool.false_or])
   cases dk with
   |false=>
    have HV:Hid (r= false):=I (by rw[HR4.o];rfl)
    go_wp2
    go_ret
    exact⟨zb HV.o.symm,HBZ.o⟩
   |true=>
    have HV:Hid (r= bw):=I (by rw[HR4.o,Bool.true_and])
    go_wp2_with (go_at_call 82;refine HWY.o.mono ?_;rintro e z5 ⟨rfl,hzw⟩;rw[hzw];clear hzw z5)
    go_ret
    exact⟨zb HV.o.symm,HBZ.o⟩
  |succ q=>
   have hlt:(j:Int) <(x.next.length:Int):=by omega
   have ilt:j < x.next.length:=by omega
   obtain⟨t,ht⟩:∃ t,x.next[j]?= some t:=⟨_,List.getElem?_eq_getElem ilt⟩
   obtain⟨b,o,rfl,hbl,hc⟩:=HNR.o (by omega)
   obtain⟨cs,hcl3,hcs,hvx,_⟩:=hc j t ht
   subst hvx
   have t0:Z.cell? ⟨b,o+j,none⟩= some (.int .i64 t):=by
    have h:=zc hcs HDZ.o.bel hbl 0 _ rfl
    rwa [Nat.mul_one,Nat.add_zero] at h
   have HWY:=I (z7V HS.o HDZ.o t)
   have HT:=I ht
   obtain⟨bw,hbw⟩:∃ b,wayB m.nodes t= b:=⟨_,rfl⟩
   rw[hbw] at HWY
   have HBW:=I hbw
   clear hc hcl3 hcs ht hbw hbl
   cases bw with
   |false=>
    have HV:Hid (r= false):=I (by
     rw[HR2.o]
     have:x.next.all (wayB m.nodes)= false:=by
      rw[List.all_eq_false]
      exact⟨t,List.mem_of_getElem? HT.o,by rw[HBW.o];decide⟩
     rw[this];rfl)
    go_wp2_with (go_at_call 82;refine HWY.o.mono ?_;rintro e z5 ⟨rfl,hzw⟩;rw[hzw];clear hzw z5)
    go_ret
    exact⟨zb HV.o.symm,HBZ.o⟩
   |true=>
    go_wp2_with (go_at_call 82;refine HWY.o.mono ?_;rintro e z5 ⟨rfl,hzw⟩;rw[hzw];clear hzw z5)
    go_roundg q
    case measure=>omega
    case rel=>exact⟨j+1,by omega,by go_num,HBK.o,by rw[List.take_add_one,HT.o,List.all_append,HAL.o];simp[HBW.o]⟩
end
section
open Go Go.RowKit P
theorem NeedPost.yes {k:Int} {d:Need} (hk:z1j k= some d) {w:World} {e:Ending} {w':World} (h:NeedPost k w e w'):e= .returned (.tuple #[.agg ⟨encNd d⟩,.bool true])/\Below w.heap.size w w':=by
 obtain⟨cs,he,_,_,hd,hb⟩:=h
 rw[hk] at he
 rw[he,hd d hk]
 exact⟨rfl,hb⟩
theorem NeedPost.no {k:Int} (hk:z1j k= none) {w:World} {e:Ending} {w':World} (h:NeedPost k w e w'):∃ cs,e= .returned (.tuple #[.agg ⟨cs⟩,.bool false])/\cs.length= 9/\(∀ v∈cs,v.oneCell'= true)/\Below w.heap.size w w':=by
 obtain⟨cs,he,hl,ho,_,hb⟩:=h
 rw[hk] at he
 exact⟨cs,he,hl,ho,hb⟩
theorem z8I {n:Nat} {R:Rel} {m:ModelT} {x:NodeT} {d:Need} (h:z1j x.kind= some d):z0S n R m x=(lqI n R x.label x.label && (waysB m.nodes x d && (z2T x d && (fromB n R x && (z0Q x.expr d.expr && (z0Q x.body d.body && (numB x.var d.v m.vars.length && numB x.msg d.msg m.msgs.length))))))):=by
 unfold z0S
 rw[h]
theorem z9Q {m:ModelT} {mb lb n:Nat} {R:Rel} {w0 u:World} {OA GA VA MA NA:Option Addr} {oc gc vc mc nc cb:Nat} {nb no:Nat} {x:NodeT} {XA CA:Option Addr} {xc cc:Nat} {ce cbx:List Value} (hs:CkS m mb lb n R w0 OA GA VA MA NA oc gc vc mc nc) (hd:CkD mb lb w0 cb u) (hf:NdF w0 nb no x XA CA xc cc ce cbx):
  Calls Tryz.prog 45 #[.pointer (some ⟨cb,0,none⟩),.pointer (some ⟨nb,no,none⟩)] u fun e u'=>e= .returned (.bool (z0S n R m x))/\Below u.heap.size u u':=by
 have HS:=I hs
 have HD:=I hd
 have HF:=I hf
 have d0:=hf.c0 hd.bel
 have HN:=I (z9R x.kind u)
 have HSP:=I (fun d h=>z8I (n:=n) (R:=R) (m:=m) (x:=x) (d:=d) h)
 have HS0:Hid (z1j x.kind= none->z0S n R m x= false):=I fun h=>by unfold z0S;rw[h]
 generalize z0S n R m x= r at HSP HS0 ⊢
 clear hs hd hf
 cases hnk:z1j x.kind with
 |none=>
  have HV:=I (HS0.o hnk)
  go_enter Tryz.func45,Tryz.ntmps45
  go_wp2_with (first|(go_at_call 64;refine HN.o.mono ?_;rintro e z he;obtain⟨cs,rfl,hl,ho,hb⟩:=he.no hnk;have HCL:=I hl;have HCO:=I ho;have HBZ:=I hb;clear hl ho hb he)|((with_reducible refine zJ 112 _ _ rfl ?hwx1 z ?zz1 (cs) ?hwld1 ?hz1 ?hx1 ?hy1 ?hi1 ?h11 ?_);(case hwld1=>rfl);(case hx1=>rfl);(case hy1=>rfl);(case hwx1=>(exact wA rfl));(case hz1=>rw[HCL.o];rfl);(case hi1=>rw[HCL.o];kernel_rfl);(case h11=>exact HCO.o);intro Z1 hZ;have HX1:=I hZ;clear hZ))
  go_ret
  exact⟨zb HV.o.symm,HBZ.o.trans (HX1.o.below.mono HBZ.o.size)⟩
 |some d=>
 have HR:=I (HSP.o d hnk)
 clear HSP HS0
 go_enter Tryz.func45,Tryz.ntmps45
 go_upto_region 2 with (first|(go_at_call 64;refine HN.o.mono ?_;rintro e z he;obtain⟨rfl,hb⟩:=he.yes hnk;have HBZ:=I hb;clear hb he)|((with_reducible refine zJ 112 _ _ rfl ?hwx2 z ?zz2 (encNd d) ?hwld2 ?hz2 ?hx2 ?hy2 ?hi2 ?h12 ?_);(case hwld2=>rfl);(case hx2=>rfl);(case hy2=>rfl);(case hwx2=>(exact wA rfl));(case hz2=>rfl);(case hi2=>kernel_rfl);(case h12=>exact Need.one d);intro Z1 hZ;have HX1:=I hZ;clear hZ))
 have HB1:Hid (Below u.heap.size u Z1):=I (HBZ.o.trans (HX1.o.below.mono HBZ.o.size))
 have HNR:=I HX1.o.range
 have HNS:=I HX1.o.size
 obtain⟨q,hq⟩:∃ q,z.heap.size= q:=⟨_,rfl⟩
 rw[hq] at HNR HNS
 rw[hq]
 clear hq d0 hnk
 have HD1:=I (HD.o.next HB1.o)
 have HL9:Hid ((encNd d).length= 9):=I rfl
 have x1:=HF.o.c1 HD1.o.bel
 have HLA:=I (z1b HS.o HD1.o x.label)
 obtain⟨b1,hb1⟩:∃ b,lqI n R x.label x.label= b:=⟨_,rfl⟩
 rw[hb1] at HLA HR
 clear hb1
 cases b1 with
 |false=>
  have HV:Hid (r= false):=I (by rw[HR.o];rfl)
  go_wp2_with (go_at_call 24;refine HLA.o.mono ?_;rintro e z5 ⟨rfl,hzw⟩;rw[hzw];clear hzw z5)
  go_ret
  exact⟨zb HV.o.symm,HB1.o⟩
 |true=>
 have HWA:=I (zbt HS.o HD1.o HF.o d)
 obtain⟨b2,hb2⟩:∃ b,waysB m.nodes x d= b:=⟨_,rfl⟩
 rw[hb2] at HWA HR
 clear hb2
 cases b2 with
 |false=>
  have HV:Hid (r= false):=I (by rw[HR.o];rfl)
  go_wp2_with (first|(go_at_call 24;refine HLA.o.mono ?_;rintro e z5 ⟨rfl,hzw⟩;rw[hzw];clear hzw z5)|((with_reducible refine za 112 _ rfl ?_ (q) (0) (encNd d) _ rfl HNR.o Tryz.underlying112 rfl ?_ ?_);(exact wA rfl);rw[HL9.o];kernel_rfl)|(go_at_call 65;refine(HWA.o).mono ?_;rintro e z2 ⟨rfl,hb⟩;have HB2:=I hb;clear hb))
  go_ret
  exact⟨zb HV.o.symm,HB1.o.trans (HB2.o.mono HB1.o.size)⟩
 |true=>
 have HWT:=I (fun z (hz:Below Z1.heap.size Z1 z)=>za1 HF.o (HD1.o.next hz).bel d)
 obtain⟨b3,hb3⟩:∃ b,z2T x d= b:=⟨_,rfl⟩
 rw[hb3] at HWT HR
 clear hb3
 cases b3 with
 |false=>
  have HV:Hid (r= false):=I (by rw[HR.o];rfl)
  go_wp2_with (first|(go_at_call 24;refine HLA.o.mono ?_;rintro e z5 ⟨rfl,hzw⟩;rw[hzw];clear hzw z5)|((with_reducible refine za 112 _ rfl ?_ (q) (0) (encNd d) _ rfl HNR.o Tryz.underlying112 rfl ?_ ?_);(exact wA rfl);rw[HL9.o];kernel_rfl)|(go_at_call 65;refine(HWA.o).mono ?_;rintro e z2 ⟨rfl,hb⟩;have HB2:=I hb;have HNR2:=I (zc HNR.o hb HNS.o);have HWT2:=I (HWT.o z2 hb);clear hb)|((with_reducible refine za 112 _ rfl ?_ (q) (0) (encNd d) _ rfl HNR2.o Tryz.underlying112 rfl ?_ ?_);(exact wA rfl);rw[HL9.o];kernel_rfl)|(go_at_call 66;refine(HWT2.o).mono ?_;rintro e z3 ⟨rfl,hb⟩;have HB3:=I hb;clear hb))
  go_ret
  exact⟨zb HV.o.symm,HB1.o.trans ((HB2.o.trans (HB3.o.mono HB2.o.size)).mono HB1.o.size)⟩
 |true=>
 go_upto_region 4 with (first|(go_at_call 24;refine HLA.o.mono ?_;rintro e z5 ⟨rfl,hzw⟩;rw[hzw];clear hzw z5)|((with_reducible refine za 112 _ rfl ?_ (q) (0) (encNd d) _ rfl HNR.o Tryz.underlying112 rfl ?_ ?_);(exact wA rfl);rw[HL9.o];kernel_rfl)|(go_at_call 65;refine(HWA.o).mono ?_;rintro e z2 ⟨rfl,hb⟩;have HB2:=I hb;have HNR2:=I (zc HNR.o hb HNS.o);have HWT2:=I (HWT.o z2 hb);clear hb)|((with_reducible refine za 112 _ rfl ?_ (q) (0) (encNd d) _ rfl HNR2.o Tryz.underlying112 rfl ?_ ?_);(exact wA rfl);rw[HL9.o];kernel_rfl)|(go_at_call 66;refine(HWT2.o).mono ?_;rintro e V ⟨rfl,hb⟩;have HB3:=I hb;clear hb))
 have HZV:Hid (Below Z1.heap.size Z1 V):=I (HB2.o.trans (HB3.o.mono HB2.o.size))
 have HBV:Hid (Below u.heap.size u V):=I (HB1.o.trans (HZV.o.mono HB1.o.size))
 have HDV:=I (HD1.o.next HZV.o)
 have HNQ:Hid (∀ z,Below V.heap.size V z->z.rangeAt q 0 (encNd d)):=I fun z hz=>zc (zc HNR.o HZV.o HNS.o) hz (Nat.lt_of_lt_of_le HNS.o HZV.o.size)
 have HC:Hid (∀ z,Below V.heap.size V z->CkD mb lb w0 cb z):=I fun z hz=>HDV.o.next hz
 have v0:=HF.o.c0 HDV.o.bel
 have v28:=HF.o.c28 HDV.o.bel
 have HLF:=I (z1b HS.o HDV.o x.from_)
 have HR1:Hid (r=(fromB n R x && (z0Q x.expr d.expr && (z0Q x.body d.body && (numB x.var d.v m.vars.length && numB x.msg d.msg m.msgs.length))))):=I (by rw[HR.o];rfl)
 have HFB:Hid (fromB n R x= if x.kind= 12 then lqI n R x.from_ x.from_ else x.from_ ==0):=I rfl
 obtain⟨fb,hfb⟩:∃ b,fromB n R x= b:=⟨_,rfl⟩
 rw[hfb] at HFB HR1
 clear x1 hfb HR HWT HWA HLA HN
 obtain⟨kd,hkd⟩:∃ k,x.kind= k:=⟨_,rfl⟩
 obtain⟨fr,hfr⟩:∃ k,x.from_= k:=⟨_,rfl⟩
 rw[hkd] at v0 HFB
 rw[hfr] at v28 HFB HLF
 clear hkd hfr
 go_cut [66] (fun v z=>v= .bool (!fb)/\z= V)
 case first=>
  by_cases h12:kd= 12
  ·subst h12
   have HFB2:Hid (fb= lqI n R fr fr):=I (by rw[HFB.o];exact if_pos rfl)
   rw[← HFB2.o] at HLF
   clear HFB HFB2 HR1
   cases fb<;>
   ·go_wp2_with (go_at_call 24;refine HLF.o.mono ?_;rintro e z5 ⟨rfl,hzw⟩;rw[hzw];clear hzw z5)
    go_meet
    case rel=>exact⟨rfl,rfl⟩
  ·have h12b:(kd ==12)= false:=by rw[beq_eq_false_iff_ne];exact h12
   have h12c:(kd !=12)= true:=by simpa using h12
   have HFB2:Hid (fb=(fr ==0)):=I (by rw[HFB.o];exact if_neg h12)
   clear HFB HR1
   by_cases hf0:fr= 0
   ·subst hf0
    have hfb:fb= true:=by rw[HFB2.o];rfl
    subst hfb
    go_wp2
    go_meet
    case rel=>exact⟨rfl,rfl⟩
   ·have hfb:fb= false:=by rw[HFB2.o,beq_eq_false_iff_ne];exact hf0
    subst hfb
    have hf0b:(fr !=0)= true:=by simpa using hf0
    go_wp2
    go_meet
    case rel=>exact⟨rfl,rfl⟩
 case rest=>
 obtain⟨rfl,hz⟩:=hcut
 have hz2:=hz.symm
 clear hz
 subst hz2
 cases fb with
 |false=>
  have HV:Hid (r= false):=I (by rw[HR1.o];rfl)
  go_wp2
  go_ret
  exact⟨zb HV.o.symm,HBV.o⟩
 |true=>
 have HR2:Hid (r=(z0Q x.expr d.expr && (z0Q x.body d.body && (numB x.var d.v m.vars.length && numB x.msg d.msg m.msgs.length)))):=I (by rw[HR1.o,Bool.true_and])
 have HNL:Hid (∀ z,Below V.heap.size V z->nb < z.heap.size):=I fun z hz=>Nat.lt_of_lt_of_le HF.o.lt (HC.o z hz).bel.size
 have HT1:=I (fun z (hz:Below V.heap.size V z)=>z5O x.expr ce nb (no+4) z d.expr (HF.o.rce (HC.o z hz).bel) (HNL.o z hz) ((HF.o.expr.under (HC.o z hz).bel).more (HC.o z hz).bel.size))
 have HT2:=I (fun z (hz:Below V.heap.size V z)=>z5O x.body cbx nb (no+14) z d.body (HF.o.rcb (HC.o z hz).bel) (HNL.o z hz) ((HF.o.body.under (HC.o z hz).bel).more (HC.o z hz).bel.size))
 have HT3:=I (fun z=>z83 x.var m.vars.length d.v z)
 have HT4:=I (fun z=>z83 x.msg m.msgs.length d.msg z)
 obtain⟨b1,hb1⟩:∃ b,z0Q x.expr d.expr= b:=⟨_,rfl⟩
 obtain⟨b2,hb2⟩:∃ b,z0Q x.body d.body= b:=⟨_,rfl⟩
 obtain⟨b3,hb3⟩:∃ b,numB x.var d.v m.vars.length= b:=⟨_,rfl⟩
 obtain⟨b4,hb4⟩:∃ b,numB x.msg d.msg m.msgs.length= b:=⟨_,rfl⟩
 rw[hb1] at HR2 HT1
 rw[hb2] at HR2 HT2
 rw[hb3] at HR2 HT3
 rw[hb4] at HR2 HT4
 clear hb1 hb2 hb3 hb4 v0 v28 HLF
 go_upto_region 6 with (fail)
 have hs:Below V.heap.size V V.drew:=(Below.refl _ _).drew
 refine zr [(0,true),(1,true),(2,true),(3,true),(4,true),(5,false),(6,true),(7,true),(8,true),(9,true),(10,true),(11,true),(12,false),(13,true),(14,true),(15,true),(16,true),(17,true),(18,true),(19,true),(20,true),(21,true),(22,true),(23,true),(24,true),(25,true),(26,true),(27,true),(28,true),(29,false),(30,true),(31,true),(32,true),(33,true),(34,true),(35,true),(36,true),(37,true),(38,true),(39,true),(40,true),(41,true),(42,true),(43,true),(44,true),(45,true),(46,false),(47,true),(48,true)] (fun z=>Below V.heap.size V z) (by kernel_rfl) (by kernel_rfl) (by kernel_rfl) rfl (by intro c a d v w h;cases d<;>exact h) ?_
 cases b1 with
 |false=>
  have HV:Hid (r= false):=I (by rw[HR2.o];rfl)
  refine zh (some 67) (.pointer (some ⟨nb,no,none⟩)) _ _ rfl rfl rfl (by exact wA rfl) hs rfl ?_
  go_frame
  refine z8 (some 68) (.pointer (some ⟨nb,no,none⟩)) _ rfl rfl (by exact wA rfl) hs (fun z hz=>by go_simp) ?_
  go_frame
  refine z8 (some 69) (.pointer (some ⟨nb,no+4,none⟩)) _ rfl rfl (by exact wA rfl) hs (fun z hz=>by go_simp) ?_
  go_frame
  refine z8 (some 70) (.pointer (some ⟨q,3,none⟩)) _ rfl rfl (by exact wA rfl) hs (fun z hz=>by go_simp) ?_
  go_frame
  refine z8 (some 71) (.bool d.expr) _ rfl rfl (by exact wA rfl) hs (fun z hz=>by have d1:=(by have h:=HNQ.o z hz 3 _ rfl;rwa [Nat.zero_add] at h:z.cell? ⟨q,3,none⟩= some (.bool d.expr));clear hz;go_simp) ?_
  go_frame
  refine zC (some 72) 67 Tryz.func67 (by kernel_rfl) (by kernel_rfl) [.pointer (some ⟨nb,no+4,none⟩),.bool d.expr] _ _ _ rfl rfl rfl (by exact wA rfl) rfl ?_
  refine(HT1.o _ hs).mono ?_
  rintro e v1 ⟨rfl,hb⟩
  have hs:Below V.heap.size V v1:=hs.trans (hb.mono hs.size)
  refine⟨_,rfl,hs,?_⟩
  go_frame
  refine zh (some 73) (.bool false) _ _ rfl rfl rfl (by exact wA rfl) hs rfl ?_
  go_frame
  refine zg (some 74) _ rfl rfl (ze rfl rfl rfl rfl (by decide)) hs ?_
  go_frame
  refine zg (some 75) _ rfl rfl (ze rfl rfl rfl rfl (by decide)) hs ?_
  go_frame
  refine zg (some 76) _ rfl rfl (ze rfl rfl rfl rfl (by decide)) hs ?_
  go_frame
  refine zg (some 77) _ rfl rfl (ze rfl rfl rfl rfl (by decide)) hs ?_
  go_frame
  refine zg (some 78) _ rfl rfl (ze rfl rfl rfl rfl (by decide)) hs ?_
  go_frame
  refine z0o (some 79) _ rfl rfl (ze rfl rfl rfl rfl (by decide)) hs ?_
  go_frame
  refine zE (some 80) (.bool false) _ _ _ _ false rfl rfl rfl rfl (by exact wA rfl) hs rfl ?_
  go_frame
  refine zh (some 81) (.bool false) _ _ rfl rfl rfl (by exact wA rfl) hs rfl ?_
  go_frame
  refine zg (some 82) _ rfl rfl (ze rfl rfl rfl rfl (by decide)) hs ?_
  go_frame
  refine zg (some 83) _ rfl rfl (ze rfl rfl rfl rfl (by decide)) hs ?_
  go_frame
  refine zg (some 84) _ rfl rfl (ze rfl rfl rfl rfl (by decide)) hs ?_
  go_frame
  refine zg (some 85) _ rfl rfl (ze rfl rfl rfl rfl (by decide)) hs ?_
  go_frame
  refine zg (some 86) _ rfl rfl (ze rfl rfl rfl rfl (by decide)) hs ?_
  go_frame
  refine zg (some 87) _ rfl rfl (ze rfl rfl rfl rfl (by decide)) hs ?_
  go_frame
  refine zg (some 88) _ rfl rfl (ze rfl rfl rfl rfl (by decide)) hs ?_
  go_frame
  refine zg (some 89) _ rfl rfl (ze rfl rfl rfl rfl (by decide)) hs ?_
  go_frame
  refine zg (some 90) _ rfl rfl (ze rfl rfl rfl rfl (by decide)) hs ?_
  go_frame
  refine zg (some 91) _ rfl rfl (ze rfl rfl rfl rfl (by decide)) hs ?_
  go_frame
  refine zg (some 92) _ rfl rfl (ze rfl rfl rfl rfl (by decide)) hs ?_
  go_frame
  refine zg (some 93) _ rfl rfl (ze rfl rfl rfl rfl (by decide)) hs ?_
  go_frame
  refine zg (some 94) _ rfl rfl (ze rfl rfl rfl rfl (by decide)) hs ?_
  go_frame
  refine zg (some 95) _ rfl rfl (ze rfl rfl rfl rfl (by decide)) hs ?_
  go_frame
  refine z0o (some 96) _ rfl rfl (ze rfl rfl rfl rfl (by decide)) hs ?_
  go_frame
  refine zE (some 97) (.bool false) _ _ _ _ false rfl rfl rfl rfl (by exact wA rfl) hs rfl ?_
  go_frame
  refine zh (some 98) (.bool false) _ _ rfl rfl rfl (by exact wA rfl) hs rfl ?_
  go_frame
  refine zg (some 99) _ rfl rfl (ze rfl rfl rfl rfl (by decide)) hs ?_
  go_frame
  refine zg (some 100) _ rfl rfl (ze rfl rfl rfl rfl (by decide)) hs ?_
  go_frame
  refine zg (some 101) _ rfl rfl (ze rfl rfl rfl rfl (by decide)) hs ?_
  go_frame
  refine zg (some 102) _ rfl rfl (ze rfl rfl rfl rfl (by decide)) hs ?_
  go_frame
  refine zg (some 103) _ rfl rfl (ze rfl rfl rfl rfl (by decide)) hs ?_
  go_frame
  refine zg (some 104) _ rfl rfl (ze rfl rfl rfl rfl (by decide)) hs ?_
  go_frame
  refine zg (some 105) _ rfl rfl (ze rfl rfl rfl rfl (by decide)) hs ?_
  go_frame
  refine zg (some 106) _ rfl rfl (ze rfl rfl rfl rfl (by decide)) hs ?_
  go_frame
  refine zg (some 107) _ rfl rfl (ze rfl rfl rfl rfl (by decide)) hs ?_
  go_frame
  refine zg (some 108) _ rfl rfl (ze rfl rfl rfl rfl (by decide)) hs ?_
  go_frame
  refine zg (some 109) _ rfl rfl (ze rfl rfl rfl rfl (by decide)) hs ?_
  go_frame
  refine zg (some 110) _ rfl rfl (ze rfl rfl rfl rfl (by decide)) hs ?_
  go_frame
  refine zg (some 111) _ rfl rfl (ze rfl rfl rfl rfl (by decide)) hs ?_
  go_frame
  refine zg (some 112) _ rfl rfl (ze rfl rfl rfl rfl (by decide)) hs ?_
  go_frame
  refine z0o (some 113) _ rfl rfl (ze rfl rfl rfl rfl (by decide)) hs ?_
  go_frame
  refine zE (some 114) (.bool false) _ _ _ _ false rfl rfl rfl rfl (by exact wA rfl) hs rfl ?_
  go_frame
  refine zQ (some 4) (.bool false) _ _ rfl rfl rfl (by exact wA rfl) hs rfl ?_
  go_frame
  refine zF ?_
  have HFIN:=I (HBV.o.trans (hs.mono HBV.o.size))
  go_wp2
  go_ret
  exact⟨zb HV.o.symm,HFIN.o⟩
 |true=>
 cases b2 with
 |false=>
  have HV:Hid (r= false):=I (by rw[HR2.o];rfl)
  refine zh (some 67) (.pointer (some ⟨nb,no,none⟩)) _ _ rfl rfl rfl (by exact wA rfl) hs rfl ?_
  go_frame
  refine z8 (some 68) (.pointer (some ⟨nb,no,none⟩)) _ rfl rfl (by exact wA rfl) hs (fun z hz=>by go_simp) ?_
  go_frame
  refine z8 (some 69) (.pointer (some ⟨nb,no+4,none⟩)) _ rfl rfl (by exact wA rfl) hs (fun z hz=>by go_simp) ?_
  go_frame
  refine z8 (some 70) (.pointer (some ⟨q,3,none⟩)) _ rfl rfl (by exact wA rfl) hs (fun z hz=>by go_simp) ?_
  go_frame
  refine z8 (some 71) (.bool d.expr) _ rfl rfl (by exact wA rfl) hs (fun z hz=>by have d1:=(by have h:=HNQ.o z hz 3 _ rfl;rwa [Nat.zero_add] at h:z.cell? ⟨q,3,none⟩= some (.bool d.expr));clear hz;go_simp) ?_
  go_frame
  refine zC (some 72) 67 Tryz.func67 (by kernel_rfl) (by kernel_rfl) [.pointer (some ⟨nb,no+4,none⟩),.bool d.expr] _ _ _ rfl rfl rfl (by exact wA rfl) rfl ?_
  refine(HT1.o _ hs).mono ?_
  rintro e v1 ⟨rfl,hb⟩
  have hs:Below V.heap.size V v1:=hs.trans (hb.mono hs.size)
  refine⟨_,rfl,hs,?_⟩
  go_frame
  refine zh (some 73) (.bool true) _ _ rfl rfl rfl (by exact wA rfl) hs rfl ?_
  go_frame
  refine zh (some 74) (.pointer (some ⟨nb,no,none⟩)) _ _ rfl rfl rfl (by exact wA rfl) hs rfl ?_
  go_frame
  refine z8 (some 75) (.pointer (some ⟨nb,no,none⟩)) _ rfl rfl (by exact wA rfl) hs (fun z hz=>by go_simp) ?_
  go_frame
  refine z8 (some 76) (.pointer (some ⟨nb,no+14,none⟩)) _ rfl rfl (by exact wA rfl) hs (fun z hz=>by go_simp) ?_
  go_frame
  refine z8 (some 77) (.pointer (some ⟨q,4,none⟩)) _ rfl rfl (by exact wA rfl) hs (fun z hz=>by go_simp) ?_
  go_frame
  refine z8 (some 78) (.bool d.body) _ rfl rfl (by exact wA rfl) hs (fun z hz=>by have d1:=(by have h:=HNQ.o z hz 4 _ rfl;rwa [Nat.zero_add] at h:z.cell? ⟨q,4,none⟩= some (.bool d.body));clear hz;go_simp) ?_
  go_frame
  refine zC (some 79) 67 Tryz.func67 (by kernel_rfl) (by kernel_rfl) [.pointer (some ⟨nb,no+14,none⟩),.bool d.body] _ _ _ rfl rfl rfl (by exact wA rfl) rfl ?_
  refine(HT2.o _ hs).mono ?_
  rintro e v2 ⟨rfl,hb⟩
  have hs:Below V.heap.size V v2:=hs.trans (hb.mono hs.size)
  refine⟨_,rfl,hs,?_⟩
  go_frame
  refine zE (some 80) (.bool false) _ _ _ _ true rfl rfl rfl rfl (by exact wA rfl) hs rfl ?_
  go_frame
  refine zh (some 81) (.bool false) _ _ rfl rfl rfl (by exact wA rfl) hs rfl ?_
  go_frame
  refine zg (some 82) _ rfl rfl (ze rfl rfl rfl rfl (by decide)) hs ?_
  go_frame
  refine zg (some 83) _ rfl rfl (ze rfl rfl rfl rfl (by decide)) hs ?_
  go_frame
  refine zg (some 84) _ rfl rfl (ze rfl rfl rfl rfl (by decide)) hs ?_
  go_frame
  refine zg (some 85) _ rfl rfl (ze rfl rfl rfl rfl (by decide)) hs ?_
  go_frame
  refine zg (some 86) _ rfl rfl (ze rfl rfl rfl rfl (by decide)) hs ?_
  go_frame
  refine zg (some 87) _ rfl rfl (ze rfl rfl rfl rfl (by decide)) hs ?_
  go_frame
  refine zg (some 88) _ rfl rfl (ze rfl rfl rfl rfl (by decide)) hs ?_
  go_frame
  refine zg (some 89) _ rfl rfl (ze rfl rfl rfl rfl (by decide)) hs ?_
  go_frame
  refine zg (some 90) _ rfl rfl (ze rfl rfl rfl rfl (by decide)) hs ?_
  go_frame
  refine zg (some 91) _ rfl rfl (ze rfl rfl rfl rfl (by decide)) hs ?_
  go_frame
  refine zg (some 92) _ rfl rfl (ze rfl rfl rfl rfl (by decide)) hs ?_
  go_frame
  refine zg (some 93) _ rfl rfl (ze rfl rfl rfl rfl (by decide)) hs ?_
  go_frame
  refine zg (some 94) _ rfl rfl (ze rfl rfl rfl rfl (by decide)) hs ?_
  go_frame
  refine zg (some 95) _ rfl rfl (ze rfl rfl rfl rfl (by decide)) hs ?_
  go_frame
  refine z0o (some 96) _ rfl rfl (ze rfl rfl rfl rfl (by decide)) hs ?_
  go_frame
  refine zE (some 97) (.bool false) _ _ _ _ false rfl rfl rfl rfl (by exact wA rfl) hs rfl ?_
  go_frame
  refine zh (some 98) (.bool false) _ _ rfl rfl rfl (by exact wA rfl) hs rfl ?_
  go_frame
  refine zg (some 99) _ rfl rfl (ze rfl rfl rfl rfl (by decide)) hs ?_
  go_frame
  refine zg (some 100) _ rfl rfl (ze rfl rfl rfl rfl (by decide)) hs ?_
  go_frame
  refine zg (some 101) _ rfl rfl (ze rfl rfl rfl rfl (by decide)) hs ?_
  go_frame
  refine zg (some 102) _ rfl rfl (ze rfl rfl rfl rfl (by decide)) hs ?_
  go_frame
  refine zg (some 103) _ rfl rfl (ze rfl rfl rfl rfl (by decide)) hs ?_
  go_frame
  refine zg (some 104) _ rfl rfl (ze rfl rfl rfl rfl (by decide)) hs ?_
  go_frame
  refine zg (some 105) _ rfl rfl (ze rfl rfl rfl rfl (by decide)) hs ?_
  go_frame
  refine zg (some 106) _ rfl rfl (ze rfl rfl rfl rfl (by decide)) hs ?_
  go_frame
  refine zg (some 107) _ rfl rfl (ze rfl rfl rfl rfl (by decide)) hs ?_
  go_frame
  refine zg (some 108) _ rfl rfl (ze rfl rfl rfl rfl (by decide)) hs ?_
  go_frame
  refine zg (some 109) _ rfl rfl (ze rfl rfl rfl rfl (by decide)) hs ?_
  go_frame
  refine zg (some 110) _ rfl rfl (ze rfl rfl rfl rfl (by decide)) hs ?_
  go_frame
  refine zg (some 111) _ rfl rfl (ze rfl rfl rfl rfl (by decide)) hs ?_
  go_frame
  refine zg (some 112) _ rfl rfl (ze rfl rfl rfl rfl (by decide)) hs ?_
  go_frame
  refine z0o (some 113) _ rfl rfl (ze rfl rfl rfl rfl (by decide)) hs ?_
  go_frame
  refine zE (some 114) (.bool false) _ _ _ _ false rfl rfl rfl rfl (by exact wA rfl) hs rfl ?_
  go_frame
  refine zQ (some 4) (.bool false) _ _ rfl rfl rfl (by exact wA rfl) hs rfl ?_
  go_frame
  refine zF ?_
  have HFIN:=I (HBV.o.trans (hs.mono HBV.o.size))
  go_wp2
  go_ret
  exact⟨zb HV.o.symm,HFIN.o⟩
 |true=>
 cases b3 with
 |false=>
  have HV:Hid (r= false):=I (by rw[HR2.o];rfl)
  refine zh (some 67) (.pointer (some ⟨nb,no,none⟩)) _ _ rfl rfl rfl (by exact wA rfl) hs rfl ?_
  go_frame
  refine z8 (some 68) (.pointer (some ⟨nb,no,none⟩)) _ rfl rfl (by exact wA rfl) hs (fun z hz=>by go_simp) ?_
  go_frame
  refine z8 (some 69) (.pointer (some ⟨nb,no+4,none⟩)) _ rfl rfl (by exact wA rfl) hs (fun z hz=>by go_simp) ?_
  go_frame
  refine z8 (some 70) (.pointer (some ⟨q,3,none⟩)) _ rfl rfl (by exact wA rfl) hs (fun z hz=>by go_simp) ?_
  go_frame
  refine z8 (some 71) (.bool d.expr) _ rfl rfl (by exact wA rfl) hs (fun z hz=>by have d1:=(by have h:=HNQ.o z hz 3 _ rfl;rwa [Nat.zero_add] at h:z.cell? ⟨q,3,none⟩= some (.bool d.expr));clear hz;go_simp) ?_
  go_frame
  refine zC (some 72) 67 Tryz.func67 (by kernel_rfl) (by kernel_rfl) [.pointer (some ⟨nb,no+4,none⟩),.bool d.expr] _ _ _ rfl rfl rfl (by exact wA rfl) rfl ?_
  refine(HT1.o _ hs).mono ?_
  rintro e v1 ⟨rfl,hb⟩
  have hs:Below V.heap.size V v1:=hs.trans (hb.mono hs.size)
  refine⟨_,rfl,hs,?_⟩
  go_frame
  refine zh (some 73) (.bool true) _ _ rfl rfl rfl (by exact wA rfl) hs rfl ?_
  go_frame
  refine zh (some 74) (.pointer (some ⟨nb,no,none⟩)) _ _ rfl rfl rfl (by exact wA rfl) hs rfl ?_
  go_frame
  refine z8 (some 75) (.pointer (some ⟨nb,no,none⟩)) _ rfl rfl (by exact wA rfl) hs (fun z hz=>by go_simp) ?_
  go_frame
  refine z8 (some 76) (.pointer (some ⟨nb,no+14,none⟩)) _ rfl rfl (by exact wA rfl) hs (fun z hz=>by go_simp) ?_
  go_frame
  refine z8 (some 77) (.pointer (some ⟨q,4,none⟩)) _ rfl rfl (by exact wA rfl) hs (fun z hz=>by go_simp) ?_
  go_frame
  refine z8 (some 78) (.bool d.body) _ rfl rfl (by exact wA rfl) hs (fun z hz=>by have d1:=(by have h:=HNQ.o z hz 4 _ rfl;rwa [Nat.zero_add] at h:z.cell? ⟨q,4,none⟩= some (.bool d.body));clear hz;go_simp) ?_
  go_frame
  refine zC (some 79) 67 Tryz.func67 (by kernel_rfl) (by kernel_rfl) [.pointer (some ⟨nb,no+14,none⟩),.bool d.body] _ _ _ rfl rfl rfl (by exact wA rfl) rfl ?_
  refine(HT2.o _ hs).mono ?_
  rintro e v2 ⟨rfl,hb⟩
  have hs:Below V.heap.size V v2:=hs.trans (hb.mono hs.size)
  refine⟨_,rfl,hs,?_⟩
  go_frame
  refine zE (some 80) (.bool true) _ _ _ _ true rfl rfl rfl rfl (by exact wA rfl) hs rfl ?_
  go_frame
  refine zh (some 81) (.bool true) _ _ rfl rfl rfl (by exact wA rfl) hs rfl ?_
  go_frame
  refine zh (some 82) (.pointer (some ⟨nb,no,none⟩)) _ _ rfl rfl rfl (by exact wA rfl) hs rfl ?_
  go_frame
  refine z8 (some 83) (.pointer (some ⟨nb,no,none⟩)) _ rfl rfl (by exact wA rfl) hs (fun z hz=>by go_simp) ?_
  go_frame
  refine z8 (some 84) (.pointer (some ⟨nb,no+24,none⟩)) _ rfl rfl (by exact wA rfl) hs (fun z hz=>by go_simp) ?_
  go_frame
  refine z8 (some 85) (.int .i64 x.var) _ rfl rfl (by exact wA rfl) hs (fun z hz=>by have d1:=HF.o.c24 (HC.o z hz).bel;clear hz;go_simp) ?_
  go_frame
  refine z8 (some 86) (.pointer (some ⟨q,5,none⟩)) _ rfl rfl (by exact wA rfl) hs (fun z hz=>by go_simp) ?_
  go_frame
  refine z8 (some 87) (.bool d.v) _ rfl rfl (by exact wA rfl) hs (fun z hz=>by have d1:=(by have h:=HNQ.o z hz 5 _ rfl;rwa [Nat.zero_add] at h:z.cell? ⟨q,5,none⟩= some (.bool d.v));clear hz;go_simp) ?_
  go_frame
  refine zh (some 88) (.pointer (some ⟨cb,0,none⟩)) _ _ rfl rfl rfl (by exact wA rfl) hs rfl ?_
  go_frame
  refine z8 (some 89) (.pointer (some ⟨cb,0,none⟩)) _ rfl rfl (by exact wA rfl) hs (fun z hz=>by go_simp) ?_
  go_frame
  refine z8 (some 90) (.pointer (some ⟨cb,0,none⟩)) _ rfl rfl (by exact wA rfl) hs (fun z hz=>by go_simp) ?_
  go_frame
  refine z8 (some 91) (.pointer (some ⟨mb,0,none⟩)) _ rfl rfl (by exact wA rfl) hs (fun z hz=>by have d1:=(HC.o z hz).c0;clear hz;go_simp) ?_
  go_frame
  refine z8 (some 92) (.pointer (some ⟨mb,0,none⟩)) _ rfl rfl (by exact wA rfl) hs (fun z hz=>by go_simp) ?_
  go_frame
  refine z8 (some 93) (.pointer (some ⟨mb,3,none⟩)) _ rfl rfl (by exact wA rfl) hs (fun z hz=>by go_simp) ?_
  go_frame
  refine z8 (some 94) (.slice VA m.vars.length vc) _ rfl rfl (by exact wA rfl) hs (fun z hz=>by have d1:=HS.o.cell (HC.o z hz).bel (j:=3) rfl;clear hz;go_simp) ?_
  go_frame
  refine z8 (some 95) (.int .i64 m.vars.length) _ rfl rfl (by exact wA rfl) hs (fun z hz=>by go_simp) ?_
  go_frame
  refine zC (some 96) 68 Tryz.func68 (by kernel_rfl) (by kernel_rfl) [.int .i64 x.var,.bool d.v,.int .i64 m.vars.length] _ _ _ rfl rfl rfl (by exact wA rfl) rfl ?_
  refine(HT3.o _).mono ?_
  rintro e z5 ⟨rfl,hzw⟩
  rw[hzw]
  clear hzw z5
  refine⟨_,rfl,hs,?_⟩
  go_frame
  refine zE (some 97) (.bool false) _ _ _ _ true rfl rfl rfl rfl (by exact wA rfl) hs rfl ?_
  go_frame
  refine zh (some 98) (.bool false) _ _ rfl rfl rfl (by exact wA rfl) hs rfl ?_
  go_frame
  refine zg (some 99) _ rfl rfl (ze rfl rfl rfl rfl (by decide)) hs ?_
  go_frame
  refine zg (some 100) _ rfl rfl (ze rfl rfl rfl rfl (by decide)) hs ?_
  go_frame
  refine zg (some 101) _ rfl rfl (ze rfl rfl rfl rfl (by decide)) hs ?_
  go_frame
  refine zg (some 102) _ rfl rfl (ze rfl rfl rfl rfl (by decide)) hs ?_
  go_frame
  refine zg (some 103) _ rfl rfl (ze rfl rfl rfl rfl (by decide)) hs ?_
  go_frame
  refine zg (some 104) _ rfl rfl (ze rfl rfl rfl rfl (by decide)) hs ?_
  go_frame
  refine zg (some 105) _ rfl rfl (ze rfl rfl rfl rfl (by decide)) hs ?_
  go_frame
  refine zg (some 106) _ rfl rfl (ze rfl rfl rfl rfl (by decide)) hs ?_
  go_frame
  refine zg (some 107) _ rfl rfl (ze rfl rfl rfl rfl (by decide)) hs ?_
  go_frame
  refine zg (some 108) _ rfl rfl (ze rfl rfl rfl rfl (by decide)) hs ?_
  go_frame
  refine zg (some 109) _ rfl rfl (ze rfl rfl rfl rfl (by decide)) hs ?_
  go_frame
  refine zg (some 110) _ rfl rfl (ze rfl rfl rfl rfl (by decide)) hs ?_
  go_frame
  refine zg (some 111) _ rfl rfl (ze rfl rfl rfl rfl (by decide)) hs ?_
  go_frame
  refine zg (some 112) _ rfl rfl (ze rfl rfl rfl rfl (by decide)) hs ?_
  go_frame
  refine z0o (some 113) _ rfl rfl (ze rfl rfl rfl rfl (by decide)) hs ?_
  go_frame
  refine zE (some 114) (.bool false) _ _ _ _ false rfl rfl rfl rfl (by exact wA rfl) hs rfl ?_
  go_frame
  refine zQ (some 4) (.bool false) _ _ rfl rfl rfl (by exact wA rfl) hs rfl ?_
  go_frame
  refine zF ?_
  have HFIN:=I (HBV.o.trans (hs.mono HBV.o.size))
  go_wp2
  go_ret
  exact⟨zb HV.o.symm,HFIN.o⟩
 |true=>
 have HV:Hid (r= b4):=I (by rw[HR2.o];rfl)
 refine zh (some 67) (.pointer (some ⟨nb,no,none⟩)) _ _ rfl rfl rfl (by exact wA rfl) hs rfl ?_
 go_frame
 refine z8 (some 68) (.pointer (some ⟨nb,no,none⟩)) _ rfl rfl (by exact wA rfl) hs (fun z hz=>by go_simp) ?_
 go_frame
 refine z8 (some 69) (.pointer (some ⟨nb,no+4,none⟩)) _ rfl rfl (by exact wA rfl) hs (fun z hz=>by go_simp) ?_
 go_frame
 refine z8 (some 70) (.pointer (some ⟨q,3,none⟩)) _ rfl rfl (by exact wA rfl) hs (fun z hz=>by go_simp) ?_
 go_frame
 refine z8 (some 71) (.bool d.expr) _ rfl rfl (by exact wA rfl) hs (fun z hz=>by have d1:=(by have h:=HNQ.o z hz 3 _ rfl;rwa [Nat.zero_add] at h:z.cell? ⟨q,3,none⟩= some (.bool d.expr));clear hz;go_simp) ?_
 go_frame
 refine zC (some 72) 67 Tryz.func67 (by kernel_rfl) (by kernel_rfl) [.pointer (some ⟨nb,no+4,none⟩),.bool d.expr] _ _ _ rfl rfl rfl (by exact wA rfl) rfl ?_
 refine(HT1.o _ hs).mono ?_
 rintro e v1 ⟨rfl,hb⟩
 have hs:Below V.heap.size V v1:=hs.trans (hb.mono hs.size)
 refine⟨_,rfl,hs,?_⟩
 go_frame
 refine zh (some 73) (.bool true) _ _ rfl rfl rfl (by exact wA rfl) hs rfl ?_
 go_frame
 refine zh (some 74) (.pointer (some ⟨nb,no,none⟩)) _ _ rfl rfl rfl (by exact wA rfl) hs rfl ?_
 go_frame
 refine z8 (some 75) (.pointer (some ⟨nb,no,none⟩)) _ rfl rfl (by exact wA rfl) hs (fun z hz=>by go_simp) ?_
 go_frame
 refine z8 (some 76) (.pointer (some ⟨nb,no+14,none⟩)) _ rfl rfl (by exact wA rfl) hs (fun z hz=>by go_simp) ?_
 go_frame
 refine z8 (some 77) (.pointer (some ⟨q,4,none⟩)) _ rfl rfl (by exact wA rfl) hs (fun z hz=>by go_simp) ?_
 go_frame
 refine z8 (some 78) (.bool d.body) _ rfl rfl (by exact wA rfl) hs (fun z hz=>by have d1:=(by have h:=HNQ.o z hz 4 _ rfl;rwa [Nat.zero_add] at h:z.cell? ⟨q,4,none⟩= some (.bool d.body));clear hz;go_simp) ?_
 go_frame
 refine zC (some 79) 67 Tryz.func67 (by kernel_rfl) (by kernel_rfl) [.pointer (some ⟨nb,no+14,none⟩),.bool d.body] _ _ _ rfl rfl rfl (by exact wA rfl) rfl ?_
 refine(HT2.o _ hs).mono ?_
 rintro e v2 ⟨rfl,hb⟩
 have hs:Below V.heap.size V v2:=hs.trans (hb.mono hs.size)
 refine⟨_,rfl,hs,?_⟩
 go_frame
 refine zE (some 80) (.bool true) _ _ _ _ true rfl rfl rfl rfl (by exact wA rfl) hs rfl ?_
 go_frame
 refine zh (some 81) (.bool true) _ _ rfl rfl rfl (by exact wA rfl) hs rfl ?_
 go_frame
 refine zh (some 82) (.pointer (some ⟨nb,no,none⟩)) _ _ rfl rfl rfl (by exact wA rfl) hs rfl ?_
 go_frame
 refine z8 (some 83) (.pointer (some ⟨nb,no,none⟩)) _ rfl rfl (by exact wA rfl) hs (fun z hz=>by go_simp) ?_
 go_frame
 refine z8 (some 84) (.pointer (some ⟨nb,no+24,none⟩)) _ rfl rfl (by exact wA rfl) hs (fun z hz=>by go_simp) ?_
 go_frame
 refine z8 (some 85) (.int .i64 x.var) _ rfl rfl (by exact wA rfl) hs (fun z hz=>by have d1:=HF.o.c24 (HC.o z hz).bel;clear hz;go_simp) ?_
 go_frame
 refine z8 (some 86) (.pointer (some ⟨q,5,none⟩)) _ rfl rfl (by exact wA rfl) hs (fun z hz=>by go_simp) ?_
 go_frame
 refine z8 (some 87) (.bool d.v) _ rfl rfl (by exact wA rfl) hs (fun z hz=>by have d1:=(by have h:=HNQ.o z hz 5 _ rfl;rwa [Nat.zero_add] at h:z.cell? ⟨q,5,none⟩= some (.bool d.v));clear hz;go_simp) ?_
 go_frame
 refine zh (some 88) (.pointer (some ⟨cb,0,none⟩)) _ _ rfl rfl rfl (by exact wA rfl) hs rfl ?_
 go_frame
 refine z8 (some 89) (.pointer (some ⟨cb,0,none⟩)) _ rfl rfl (by exact wA rfl) hs (fun z hz=>by go_simp) ?_
 go_frame
 refine z8 (some 90) (.pointer (some ⟨cb,0,none⟩)) _ rfl rfl (by exact wA rfl) hs (fun z hz=>by go_simp) ?_
 go_frame
 refine z8 (some 91) (.pointer (some ⟨mb,0,none⟩)) _ rfl rfl (by exact wA rfl) hs (fun z hz=>by have d1:=(HC.o z hz).c0;clear hz;go_simp) ?_
 go_frame
 refine z8 (some 92) (.pointer (some ⟨mb,0,none⟩)) _ rfl rfl (by exact wA rfl) hs (fun z hz=>by go_simp) ?_
 go_frame
 refine z8 (some 93) (.pointer (some ⟨mb,3,none⟩)) _ rfl rfl (by exact wA rfl) hs (fun z hz=>by go_simp) ?_
 go_frame
 refine z8 (some 94) (.slice VA m.vars.length vc) _ rfl rfl (by exact wA rfl) hs (fun z hz=>by have d1:=HS.o.cell (HC.o z hz).bel (j:=3) rfl;clear hz;go_simp) ?_
 go_frame
 refine z8 (some 95) (.int .i64 m.vars.length) _ rfl rfl (by exact wA rfl) hs (fun z hz=>by go_simp) ?_
 go_frame
 refine zC (some 96) 68 Tryz.func68 (by kernel_rfl) (by kernel_rfl) [.int .i64 x.var,.bool d.v,.int .i64 m.vars.length] _ _ _ rfl rfl rfl (by exact wA rfl) rfl ?_
 refine(HT3.o _).mono ?_
 rintro e z5 ⟨rfl,hzw⟩
 rw[hzw]
 clear hzw z5
 refine⟨_,rfl,hs,?_⟩
 go_frame
 refine zE (some 97) (.bool true) _ _ _ _ true rfl rfl rfl rfl (by exact wA rfl) hs rfl ?_
 go_frame
 refine zh (some 98) (.bool true) _ _ rfl rfl rfl (by exact wA rfl) hs rfl ?_
 go_frame
 refine zh (some 99) (.pointer (some ⟨nb,no,none⟩)) _ _ rfl rfl rfl (by exact wA rfl) hs rfl ?_
 go_frame
 refine z8 (some 100) (.pointer (some ⟨nb,no,none⟩)) _ rfl rfl (by exact wA rfl) hs (fun z hz=>by go_simp) ?_
 go_frame
 refine z8 (some 101) (.pointer (some ⟨nb,no+25,none⟩)) _ rfl rfl (by exact wA rfl) hs (fun z hz=>by go_simp) ?_
 go_frame
 refine z8 (some 102) (.int .i64 x.msg) _ rfl rfl (by exact wA rfl) hs (fun z hz=>by have d1:=HF.o.c25 (HC.o z hz).bel;clear hz;go_simp) ?_
 go_frame
 refine z8 (some 103) (.pointer (some ⟨q,6,none⟩)) _ rfl rfl (by exact wA rfl) hs (fun z hz=>by go_simp) ?_
 go_frame
 refine z8 (some 104) (.bool d.msg) _ rfl rfl (by exact wA rfl) hs (fun z hz=>by have d1:=(by have h:=HNQ.o z hz 6 _ rfl;rwa [Nat.zero_add] at h:z.cell? ⟨q,6,none⟩= some (.bool d.msg));clear hz;go_simp) ?_
 go_frame
 refine zh (some 105) (.pointer (some ⟨cb,0,none⟩)) _ _ rfl rfl rfl (by exact wA rfl) hs rfl ?_
 go_frame
 refine z8 (some 106) (.pointer (some ⟨cb,0,none⟩)) _ rfl rfl (by exact wA rfl) hs (fun z hz=>by go_simp) ?_
 go_frame
 refine z8 (some 107) (.pointer (some ⟨cb,0,none⟩)) _ rfl rfl (by exact wA rfl) hs (fun z hz=>by go_simp) ?_
 go_frame
 refine z8 (some 108) (.pointer (some ⟨mb,0,none⟩)) _ rfl rfl (by exact wA rfl) hs (fun z hz=>by have d1:=(HC.o z hz).c0;clear hz;go_simp) ?_
 go_frame
 refine z8 (some 109) (.pointer (some ⟨mb,0,none⟩)) _ rfl rfl (by exact wA rfl) hs (fun z hz=>by go_simp) ?_
 go_frame
 refine z8 (some 110) (.pointer (some ⟨mb,4,none⟩)) _ rfl rfl (by exact wA rfl) hs (fun z hz=>by go_simp) ?_
 go_frame
 refine z8 (some 111) (.slice MA m.msgs.length mc) _ rfl rfl (by exact wA rfl) hs (fun z hz=>by have d1:=HS.o.cell (HC.o z hz).bel (j:=4) rfl;clear hz;go_simp) ?_
 go_frame
 refine z8 (some 112) (.int .i64 m.msgs.length) _ rfl rfl (by exact wA rfl) hs (fun z hz=>by go_simp) ?_
 go_frame
 refine zC (some 113) 68 Tryz.func68 (by kernel_rfl) (by kernel_rfl) [.int .i64 x.msg,.bool d.msg,.int .i64 m.msgs.length] _ _ _ rfl rfl rfl (by exact wA rfl) rfl ?_
 refine(HT4.o _).mono ?_
 rintro e z5 ⟨rfl,hzw⟩
 rw[hzw]
 clear hzw z5
 refine⟨_,rfl,hs,?_⟩
 go_frame
 refine zE (some 114) (.bool b4) _ _ _ _ true rfl rfl rfl rfl (by exact wA rfl) hs rfl ?_
 go_frame
 refine zQ (some 4) (.bool b4) _ _ rfl rfl rfl (by exact wA rfl) hs rfl ?_
 go_frame
 refine zF ?_
 have HFIN:=I (HBV.o.trans (hs.mono HBV.o.size))
 go_wp2
 go_ret
 exact⟨zb HV.o.symm,HFIN.o⟩
end
section
open Go Go.RowKit P
theorem CkD.but {mb lb:Nat} {w0:World} {cb:Nat} {u u':World} {q:Nat} (h:CkD mb lb w0 cb u) (hb:But u u' q q) (hq:w0.heap.size<=q) (hne:cb≠q):CkD mb lb w0 cb u':=
 ⟨h.bel.trans (hb.below h.bel.size hq hq),(World.cell?_of_block (a:=⟨cb,0,none⟩) (hb.block cb h.lt hne hne)).trans h.c0,(World.cell?_of_block (a:=⟨cb,1,none⟩) (hb.block cb h.lt hne hne)).trans h.c1,Nat.lt_of_lt_of_le h.lt hb.size⟩
def zM8:List Value:=[.string ⟨#[]⟩,.int .i64 0,.int .i64 0,.slice none 0 0,.slice none 0 0,.int .i64 0,.slice none 0 0,.slice none 0 0]
theorem z6f {p:Nat->Prop} {w:World}:KeptT p w zT3 (pT 0):=z0y (zx 0 (by decide +kernel))
theorem zaL {w:World} {B:Nat} {ks:List Value} {x:MsgT} (h:MsgAt w B ks x):∃ a b ck cd,ks=[a,b] ++ ck ++ cd/\ck.length= 3/\cd.length= 3/\TypAt w B ck x.key/\TypAt w B cd x.body/\a.oneCell'= true/\b.oneCell'= true:=by
 obtain⟨⟨ck,cd,rfl,h1,h2,h3,h4⟩,_,_⟩:=h
 exact⟨_,_,ck,cd,rfl,h1,h2,h3,h4,rfl,rfl⟩
theorem z4w {u:World} {q:Nat} {a b:Value} {ck cd:List Value} (h:u.rangeAt q 0 ([a,b] ++ ck ++ cd)) (h1:ck.length= 3):u.rangeAt q 2 ck/\u.rangeAt q 5 cd:=by
 constructor
 ·intro j v hv
  have:=h (2+j) v (by rw[List.append_assoc,List.getElem?_append_right (by simp)];simp only[List.length_cons,List.length_nil];rw[show 2+j - (0+1+1)= j by omega,List.getElem?_append_left (List.getElem?_eq_some_iff.1 hv).1];exact hv)
  rwa [show 0+ (2+j)= 2+j by omega] at this
 ·intro j v hv
  have:=h (5+j) v (by rw[List.getElem?_append_right (by simp[h1]<;>omega)];simp only[List.length_append,List.length_cons,List.length_nil,h1];rw[show 5+j - (0+1+1+3)= j by omega];exact hv)
  rwa [show 0+ (5+j)= 5+j by omega] at this
theorem z9w {m:ModelT} {mb lb n:Nat} {R:Rel} {w0 u:World} {OA GA VA MA NA:Option Addr} {oc gc vc mc nc cb:Nat} {nb no:Nat} {x:NodeT} {XA CA:Option Addr} {xc cc:Nat} {ce cbx:List Value} (hs:CkS m mb lb n R w0 OA GA VA MA NA oc gc vc mc nc) (hd:CkD mb lb w0 cb u) (hf:NdF w0 nb no x XA CA xc cc ce cbx) (hsh:(0<=x.var->x.var < m.vars.length)/\(0<=x.msg->x.msg < m.msgs.length)):
  Calls Tryz.prog 46 #[.pointer (some ⟨cb,0,none⟩),.pointer (some ⟨nb,no,none⟩)] u fun e u'=>e= .returned (.bool (zM m x))/\Below u.heap.size u u':=by
 have HS:=I hs
 have HD:=I hd
 have HF:=I hf
 have HSH:=I hsh
 have HR0:Hid (zM m x=(x.conds.all (fun c=>isE m.vars c (pT 1)) && kindB m x)):=I rfl
 generalize zM m x= r at HR0 ⊢
 have hcl:x.conds.length<=9223372036854775807:=hf.conds.1
 have hcl2:(x.conds.length:Int)<=9223372036854775807:=by omega
 obtain⟨-,CA',cc',e1,hcd⟩:=id hf.conds
 injection e1 with e1 e2 e3
 subst e1 e3
 have HCD:=I hcd
 have d3:=hf.c3 hd.bel
 clear hs hd hf hsh hcd e2
 go_enter Tryz.func46,Tryz.ntmps46
 go_upto_region 2 with (fail)
 clear d3
 go_loopg [16] x.conds.length (fun q y z=>∃ j:Nat,j+q= x.conds.length/\y= .int .i64 j/\Below u.heap.size u z/\(x.conds.take j).all (fun c=>isE m.vars c (pT 1))= true)
 case atStart=>exact⟨0,by omega,rfl,Below.refl _ _,by simp⟩
 case round=>
  obtain⟨j,hj,rfl,hb,hal⟩:=hrel
  have HBK:=I hb
  have HAL:=I hal
  have HDV:=I (HD.o.next hb)
  clear hb hal
  obtain⟨V,hV⟩:∃ z,z= wr:=⟨_,rfl⟩
  subst hV
  cases gk with
  |succ q=>
   have hlt:(j:Int) <(x.conds.length:Int):=by omega
   have ilt:j < x.conds.length:=by omega
   obtain⟨t,ht⟩:∃ t,x.conds[j]?= some t:=⟨_,List.getElem?_eq_getElem ilt⟩
   obtain⟨b,o,rfl,hbl,hc⟩:=HCD.o (by omega)
   obtain⟨ks,hkl,hks,hkx⟩:=hc j t ht
   have HKR:Hid (V.rangeAt b (o+j*10) ks):=I (zc hks HDV.o.bel hbl)
   have HKL:=I hkl
   have HKX:=I ((hkx.under HDV.o.bel).more HDV.o.bel.size)
   have HKO:=I HKX.o.one
   have HT:=I ht
   clear hc hkl hks hkx ht hbl
   go_upto_region 4 with (first|((with_reducible refine za 54 _ rfl ?_ (b) (o+j*10) (ks) _ rfl HKR.o Tryz.underlying54 rfl ?_ ?_);(exact wA rfl);rw[HKL.o];kernel_rfl)|((with_reducible refine zJ 54 _ _ rfl ?hwx9 V ?zz9 (ks) ?hwld9 ?hz9 ?hx9 ?hy9 ?hi9 ?h19 ?_);(case hwld9=>rfl);(case hx9=>rfl);(case hy9=>rfl);(case hwx9=>(exact wA rfl));(case hz9=>rw[HKL.o];rfl);(case hi9=>rw[HKL.o];kernel_rfl);(case h19=>exact HKO.o);intro Z1 hZ;have HX1:=I hZ;clear hZ))
   have HBX:=I HX1.o.below
   have HIS:=I (z4d HS.o (HDV.o.next HBX.o) t (pT 1) ks (tyC 1 (.slice none 0 0) (.slice none 0 0)) ((HKX.o.under HBX.o).more HBX.o.size) (z0y (p:=fun _=>True) (zx 1 (by decide +kernel))).typ)
   have HRX:=I HX1.o.range
   obtain⟨bw,hbw⟩:∃ b,isE m.vars t (pT 1)= b:=⟨_,rfl⟩
   rw[hbw] at HIS
   have HBW:=I hbw
   clear hbw
   have HBZ1:Hid (Below u.heap.size u Z1):=I (HBK.o.trans (HBX.o.mono HBK.o.size))
   cases bw with
   |false=>
    have HV:Hid (r= false):=I (by
     rw[HR0.o]
     have:x.conds.all (fun c=>isE m.vars c (pT 1))= false:=by
      rw[List.all_eq_false]
      exact⟨t,List.mem_of_getElem? HT.o,by rw[HBW.o];decide⟩
     rw[this];rfl)
    go_wp2_with (first|((with_reducible refine za 54 _ rfl ?_ (V.heap.size) (0) (ks) _ rfl HRX.o Tryz.underlying54 rfl ?_ ?_);(exact wA rfl);rw[HKL.o];kernel_rfl)|(go_at_call 69;refine(HIS.o).mono ?_;rintro e y ⟨rfl,hb⟩;have HBY:=I hb;clear hb))
    go_ret
    exact⟨zb HV.o.symm,HBZ1.o.trans (HBY.o.mono HBZ1.o.size)⟩
   |true=>
    go_wp2_with (first|((with_reducible refine za 54 _ rfl ?_ (V.heap.size) (0) (ks) _ rfl HRX.o Tryz.underlying54 rfl ?_ ?_);(exact wA rfl);rw[HKL.o];kernel_rfl)|(go_at_call 69;refine(HIS.o).mono ?_;rintro e y ⟨rfl,hb⟩;have HBY:=I hb;clear hb))
    go_roundg q
    case measure=>omega
    case rel=>exact⟨j+1,by omega,by go_num,HBZ1.o.trans (HBY.o.mono HBZ1.o.size),by rw[List.take_add_one,HT.o,List.all_append,HAL.o];simp[HBW.o]⟩
  |zero=>
  obtain rfl:j= x.conds.length:=by omega
  have hge: ¬ ((x.conds.length:Int) <(x.conds.length:Int)):=by omega
  have HRK:Hid (r= kindB m x):=I (by rw[HR0.o];have h:=HAL.o;rw[List.take_length] at h;rw[h,Bool.true_and])
  clear HR0 HCD
  go_upto_region 9 with (fail)
  have hz3:(#[Value.int IntKind.i64 0,Value.slice none 0 0,Value.slice none 0 0]:Array Value)= zT3.toArray:=rfl
  have hz8:(#[.string ⟨#[]⟩,.int .i64 0,.int .i64 0,.slice none 0 0,.slice none 0 0,.int .i64 0,.slice none 0 0,.slice none 0 0]:Array Value)= zM8.toArray:=rfl
  rw[hz3,hz8]
  clear hz3 hz8
  have g1:=zd V (.cells zT3.toArray 41)
  have h1:=Whole.new V zT3 41
  have s1:(V.alloc (.cells zT3.toArray 41)).heap.size= V.heap.size+1:=by simp
  generalize V.alloc (.cells zT3.toArray 41)= W1 at*
  have g2:=zd W1 (.cells zM8.toArray 65)
  have h2:=Whole.new W1 zM8 65
  generalize W1.alloc (.cells zM8.toArray 65)= W at*
  rw[s1] at h2
  (try rw[s1])
  have HW7:=I (h1.keep (g2.block _ (by omega)))
  have HW8:=I h2
  have HVW:=I (g1.trans (g2.mono g1.size))
  clear g1 g2 h1 h2 s1
  obtain⟨q7,hq7⟩:∃ q,V.heap.size= q:=⟨_,rfl⟩
  have HQ0:Hid (w0.heap.size<=q7):=I (hq7▸HDV.o.bel.size)
  have HQU:Hid (u.heap.size<=q7):=I (hq7▸HBK.o.size)
  rw[hq7] at HW7 HW8
  rw[hq7]
  clear hq7
  obtain⟨q8,hq8⟩:∃ q,q7+1= q:=⟨_,rfl⟩
  have HQ8:=I hq8
  rw[hq8] at HW8
  rw[hq8]
  clear hq8
  have HBW:Hid (Below u.heap.size u W):=I (HBK.o.trans (HVW.o.mono HBK.o.size))
  have HDW:=I (HDV.o.next HVW.o)
  have d24:=HF.o.c24 HDW.o.bel
  have HCBQ:Hid (cb≠q7/\cb≠q8):=I (by have h1:=HD.o.lt;have h2:=HQU.o;have h3:=HQ8.o;omega)
  have HC:Hid (∀ z,CkD mb lb w0 cb z->CkD mb lb w0 cb z):=I fun z hz=>hz
  have hq8lt:q8 < W.heap.size:=HW8.o.lt
  have HNE:Hid (q7≠q8):=I (by have:=HQ8.o;omega)
  have HQ80:Hid (w0.heap.size<=q8/\u.heap.size<=q8):=I (by have h1:=HQ0.o;have h2:=HQU.o;have h3:=HQ8.o;omega)
  go_upto_if 30 with (fail)
  go_cut [] (fun z=>∃ ct,Whole 41 z q7 ct/\ct.length= 3/\KeptT (fun b=>b < w0.heap.size) z ct (ownW m x)/\Whole 65 z q8 zM8/\Below u.heap.size u z/\CkD mb lb w0 cb z)
  case first=>
   by_cases h0:0<=x.var
   ·obtain⟨j,hj⟩:∃ j:Nat,x.var=(j:Int):=⟨x.var.toNat,by omega⟩
    have HJ:=I hj
    have hjl:j < m.vars.length:=by have:=HSH.o.1 h0;omega
    obtain⟨y,hy⟩:∃ y,m.vars[j]?= some y:=⟨_,List.getElem?_eq_getElem hjl⟩
    have HOW:Hid (ownW m x= y.type):=I (by unfold ownW;rw[if_pos h0,hj];simp[hy])
    obtain⟨-,VA',vc',e1,hva⟩:=HS.o.vars
    injection e1 with e1 e2 e3
    subst e1 e3
    obtain⟨vb,vo,rfl,hvl,hc⟩:=hva (by omega)
    obtain⟨ks,_,hks,hkv⟩:=hc j y hy
    obtain⟨ct,hctl,hctt,hcto⟩:=z8h hkv
    have HCT:Hid (∀ z,CkD mb lb w0 cb z->z.rangeAt vb (vo+j*11+2) ct):=I fun z hz i v hv=>by
     have h:=zc hks hz.bel hvl (2+i) v (hcto i v hv)
     rwa [show vo+j*11+ (2+i)= vo+j*11+2+i by omega] at h
    have HLT:=I hctl
    have HOT:=I (zk hctt).2
    have HKT:=I hctt
    have hjl2:(j:Int) <(m.vars.length:Int):=by omega
    have hj0:(0:Int)<=(j:Int):=by omega
    have hjn: ¬ (j:Int) < 0:=by omega
    rw[hj] at d24
    clear hc hks hkv hctl hctt hcto hva e2 hy hvl hj
    go_upto_region 10 with (fail)
    have hs:CkD mb lb w0 cb W.drew:=⟨HDW.o.bel.drew,HDW.o.c0,HDW.o.c1,HDW.o.lt⟩
    have HWD:Hid (Whole 41 W.drew q7 zT3/\Whole 65 W.drew q8 zM8/\Below u.heap.size u W.drew):=I ⟨HW7.o,HW8.o,HBW.o.drew⟩
    refine zr [(0,true),(1,true),(2,true),(3,true),(4,true),(5,true),(6,true),(7,true),(8,true),(9,true),(10,true),(11,true),(12,true),(13,true),(14,false)] (fun z=>CkD mb lb w0 cb z) (by kernel_rfl) (by kernel_rfl) (by kernel_rfl) rfl (by intro c a d v w h;cases d<;>exact h) ?_
    refine zh (some 31) (.pointer (some ⟨cb,0,none⟩)) _ _ rfl rfl rfl (by exact wA rfl) hs rfl ?_
    go_frame
    refine z8 (some 32) (.pointer (some ⟨cb,0,none⟩)) _ rfl rfl (by exact wA rfl) hs (fun z hz=>by go_simp) ?_
    go_frame
    refine z8 (some 33) (.pointer (some ⟨cb,0,none⟩)) _ rfl rfl (by exact wA rfl) hs (fun z hz=>by go_simp) ?_
    go_frame
    refine z8 (some 34) (.pointer (some ⟨mb,0,none⟩)) _ rfl rfl (by exact wA rfl) hs (fun z hz=>by have d1:=(HC.o z hz).c0;clear hz;go_simp) ?_
    go_frame
    refine z8 (some 35) (.pointer (some ⟨mb,0,none⟩)) _ rfl rfl (by exact wA rfl) hs (fun z hz=>by go_simp) ?_
    go_frame
    refine z8 (some 36) (.pointer (some ⟨mb,3,none⟩)) _ rfl rfl (by exact wA rfl) hs (fun z hz=>by go_simp) ?_
    go_frame
    refine z8 (some 37) (.slice (some ⟨vb,vo,none⟩) m.vars.length vc) _ rfl rfl (by exact wA rfl) hs (fun z hz=>by have d1:=HS.o.cell (HC.o z hz).bel (j:=3) rfl;clear hz;go_simp) ?_
    go_frame
    refine zh (some 38) (.pointer (some ⟨nb,no,none⟩)) _ _ rfl rfl rfl (by exact wA rfl) hs rfl ?_
    go_frame
    refine z8 (some 39) (.pointer (some ⟨nb,no,none⟩)) _ rfl rfl (by exact wA rfl) hs (fun z hz=>by go_simp) ?_
    go_frame
    refine z8 (some 40) (.pointer (some ⟨nb,no+24,none⟩)) _ rfl rfl (by exact wA rfl) hs (fun z hz=>by go_simp) ?_
    go_frame
    refine z8 (some 41) (.int .i64 j) _ rfl rfl (by exact wA rfl) hs (fun z hz=>by have d1:=HF.o.c24 (HC.o z hz).bel;rw[HJ.o] at d1;clear hz;go_simp) ?_
    go_frame
    refine z8 (some 42) (.pointer (some ⟨vb,vo+j*11,none⟩)) _ rfl rfl (by exact wA rfl) hs (fun z hz=>by go_simp) ?_
    go_frame
    refine z8 (some 43) (.pointer (some ⟨vb,vo+j*11+2,none⟩)) _ rfl rfl (by exact wA rfl) hs (fun z hz=>by go_simp) ?_
    go_frame
    refine z8 (some 44) (.agg ⟨ct⟩) _ rfl rfl (by exact wA rfl) hs (fun z hz=>zt 41 rfl (vb) (vo+j*11+2) (ct) _ rfl (HCT.o z hz) Tryz.underlying41 rfl (by rw[HLT.o];kernel_rfl)) ?_
    go_frame
    refine z1C none 41 _ _ _ rfl rfl rfl (by exact wA rfl) q7 zT3 ct HWD.o.1 (by rw[HLT.o];rfl) rfl rfl (by rw[HLT.o];kernel_rfl) HOT.o ?_
    intro Z hZ hbZ
    have hdZ:=hs.but hbZ HQ0.o HCBQ.o.1
    refine⟨hdZ,?_⟩
    go_frame
    refine zF ?_
    go_wp2
    go_meet
    case rel=>exact⟨ct,hZ,HLT.o,by rw[HOW.o];exact KeptT.low HKT.o hdZ.bel,HWD.o.2.1.keep (hbZ.block _ HWD.o.2.1.lt (Ne.symm HNE.o) (Ne.symm HNE.o)),HWD.o.2.2.trans (hbZ.below HWD.o.2.2.size HQU.o HQU.o),hdZ⟩
   ·have h0b:decide (0<=x.var)= false:=by simpa using h0
    have HOW:Hid (ownW m x= pT 0):=I (by unfold ownW;rw[if_neg h0])
    go_wp2
    go_meet
    case rel=>exact⟨zT3,HW7.o,rfl,by rw[HOW.o];exact z6f,HW8.o,HBW.o,HDW.o⟩
  case rest=>
  obtain⟨ct,hw7,hl7,hk7,hw8,hbu,hdz⟩:=hcut
  obtain⟨Y,hY⟩:∃ z,z= wc:=⟨_,rfl⟩
  subst hY
  have HW7:=I hw7
  have HL7:=I hl7
  have HK7:=I hk7
  have HW8:=I hw8
  have HBY:=I hbu
  have HDY:=I hdz
  have d25:=HF.o.c25 hdz.bel
  clear hw7 hl7 hk7 hw8 hbu hdz d24 hq8lt
  go_upto_if 49 with (fail)
  go_cut [] (fun z=>∃ a b ck cd,Whole 65 z q8 ([a,b] ++ ck ++ cd)/\ck.length= 3/\cd.length= 3/\KeptT (fun b=>b < w0.heap.size) z ck (keyW m x)/\KeptT (fun b=>b < w0.heap.size) z cd (bodyW m x)/\Whole 41 z q7 ct/\KeptT (fun b=>b < w0.heap.size) z ct (ownW m x)/\Below u.heap.size u z/\CkD mb lb w0 cb z)
  case first=>
   by_cases h0:0<=x.msg
   ·obtain⟨j,hj⟩:∃ j:Nat,x.msg=(j:Int):=⟨x.msg.toNat,by omega⟩
    have HJ:=I hj
    have hjl:j < m.msgs.length:=by have:=HSH.o.2 h0;omega
    obtain⟨y,hy⟩:∃ y,m.msgs[j]?= some y:=⟨_,List.getElem?_eq_getElem hjl⟩
    have HKW:Hid (keyW m x= y.key/\bodyW m x= y.body):=I (by unfold keyW bodyW;rw[if_pos h0,if_pos h0,hj];simp[hy])
    obtain⟨-,MA',mc',e1,hva⟩:=HS.o.msgs
    injection e1 with e1 e2 e3
    subst e1 e3
    obtain⟨vb,vo,rfl,hvl,hc⟩:=hva (by omega)
    obtain⟨ks,hkl,hks,hkv⟩:=hc j y hy
    obtain⟨a,b,ck,cd,rfl,hck,hcd,htk,htd,ha1,hb1⟩:=zaL hkv
    have HCT:Hid (∀ z,CkD mb lb w0 cb z->z.rangeAt vb (vo+j*8) ([a,b] ++ ck ++ cd)):=I fun z hz=>zc hks hz.bel hvl
    have HLT:Hid (([a,b] ++ ck ++ cd).length= 8):=I hkl
    have HLK:=I (And.intro hck hcd)
    have HOT:Hid (∀ v∈[a,b] ++ ck ++ cd,v.oneCell'= true):=I (by
     intro v hv
     rcases List.mem_append.1 hv with hv|hv
     ·rcases List.mem_append.1 hv with hv|hv
      ·simp only[List.mem_cons,List.not_mem_nil,or_false] at hv
       rcases hv with rfl|rfl
       ·exact ha1
       ·exact hb1
      ·exact(zk htk).2 v hv
     ·exact(zk htd).2 v hv)
    have HKT:=I (And.intro htk htd)
    have hjl2:(j:Int) <(m.msgs.length:Int):=by omega
    have hj0:(0:Int)<=(j:Int):=by omega
    have hjn: ¬ (j:Int) < 0:=by omega
    rw[hj] at d25
    clear hc hks hkv hkl hck hcd htk htd ha1 hb1 hva e2 hy hvl hj
    go_upto_region 12 with (fail)
    have hs:CkD mb lb w0 cb Y.drew:=⟨HDY.o.bel.drew,HDY.o.c0,HDY.o.c1,HDY.o.lt⟩
    have HWD:Hid (Whole 41 Y.drew q7 ct/\Whole 65 Y.drew q8 zM8/\Below u.heap.size u Y.drew/\KeptT (fun b=>b < w0.heap.size) Y.drew ct (ownW m x)):=I ⟨HW7.o,HW8.o,HBY.o.drew,HK7.o.to (fun b h1 h2=>⟨h1,rfl⟩) (Nat.le_refl _)⟩
    refine zr [(0,true),(1,true),(2,true),(3,true),(4,true),(5,true),(6,true),(7,true),(8,true),(9,true),(10,true),(11,true),(12,true),(13,false)] (fun z=>CkD mb lb w0 cb z) (by kernel_rfl) (by kernel_rfl) (by kernel_rfl) rfl (by intro c a d v w h;cases d<;>exact h) ?_
    refine zh (some 50) (.pointer (some ⟨cb,0,none⟩)) _ _ rfl rfl rfl (by exact wA rfl) hs rfl ?_
    go_frame
    refine z8 (some 51) (.pointer (some ⟨cb,0,none⟩)) _ rfl rfl (by exact wA rfl) hs (fun z hz=>by go_simp) ?_
    go_frame
    refine z8 (some 52) (.pointer (some ⟨cb,0,none⟩)) _ rfl rfl (by exact wA rfl) hs (fun z hz=>by go_simp) ?_
    go_frame
    refine z8 (some 53) (.pointer (some ⟨mb,0,none⟩)) _ rfl rfl (by exact wA rfl) hs (fun z hz=>by have d1:=(HC.o z hz).c0;clear hz;go_simp) ?_
    go_frame
    refine z8 (some 54) (.pointer (some ⟨mb,0,none⟩)) _ rfl rfl (by exact wA rfl) hs (fun z hz=>by go_simp) ?_
    go_frame
    refine z8 (some 55) (.pointer (some ⟨mb,4,none⟩)) _ rfl rfl (by exact wA rfl) hs (fun z hz=>by go_simp) ?_
    go_frame
    refine z8 (some 56) (.slice (some ⟨vb,vo,none⟩) m.msgs.length mc) _ rfl rfl (by exact wA rfl) hs (fun z hz=>by have d1:=HS.o.cell (HC.o z hz).bel (j:=4) rfl;clear hz;go_simp) ?_
    go_frame
    refine zh (some 57) (.pointer (some ⟨nb,no,none⟩)) _ _ rfl rfl rfl (by exact wA rfl) hs rfl ?_
    go_frame
    refine z8 (some 58) (.pointer (some ⟨nb,no,none⟩)) _ rfl rfl (by exact wA rfl) hs (fun z hz=>by go_simp) ?_
    go_frame
    refine z8 (some 59) (.pointer (some ⟨nb,no+25,none⟩)) _ rfl rfl (by exact wA rfl) hs (fun z hz=>by go_simp) ?_
    go_frame
    refine z8 (some 60) (.int .i64 j) _ rfl rfl (by exact wA rfl) hs (fun z hz=>by have d1:=HF.o.c25 (HC.o z hz).bel;rw[HJ.o] at d1;clear hz;go_simp) ?_
    go_frame
    refine z8 (some 61) (.pointer (some ⟨vb,vo+j*8,none⟩)) _ rfl rfl (by exact wA rfl) hs (fun z hz=>by go_simp) ?_
    go_frame
    refine z8 (some 62) (.agg ⟨[a,b] ++ ck ++ cd⟩) _ rfl rfl (by exact wA rfl) hs (fun z hz=>zt 65 rfl (vb) (vo+j*8) ([a,b] ++ ck ++ cd) _ rfl (HCT.o z hz) Tryz.underlying65 rfl (by rw[HLT.o];kernel_rfl)) ?_
    go_frame
    refine z1C none 65 _ _ _ rfl rfl rfl (by exact wA rfl) q8 zM8 ([a,b] ++ ck ++ cd) HWD.o.2.1 (by rw[HLT.o];rfl) rfl rfl (by rw[HLT.o];kernel_rfl) HOT.o ?_
    intro Z hZ hbZ
    have hdZ:=hs.but hbZ HQ80.o.1 HCBQ.o.2
    refine⟨hdZ,?_⟩
    go_frame
    refine zF ?_
    go_wp2
    go_meet
    case rel=>exact⟨a,b,ck,cd,hZ,HLK.o.1,HLK.o.2,by rw[HKW.o.1];exact KeptT.low HKT.o.1 hdZ.bel,by rw[HKW.o.2];exact KeptT.low HKT.o.2 hdZ.bel,HWD.o.1.keep (hbZ.block _ HWD.o.1.lt HNE.o HNE.o),HWD.o.2.2.2.to (fun b h1 h2=>⟨h1,hbZ.block b h2 (by have:=HQ80.o.1;omega) (by have:=HQ80.o.1;omega)⟩) hbZ.size,HWD.o.2.2.1.trans (hbZ.below HWD.o.2.2.1.size HQ80.o.2 HQ80.o.2),hdZ⟩
   ·have h0b:decide (0<=x.msg)= false:=by simpa using h0
    have HKW:Hid (keyW m x= pT 0/\bodyW m x= pT 0):=I (by unfold keyW bodyW;rw[if_neg h0,if_neg h0];exact⟨rfl,rfl⟩)
    go_wp2
    go_meet
    case rel=>exact⟨_,_,zT3,zT3,HW8.o,rfl,rfl,by rw[HKW.o.1];exact z6f,by rw[HKW.o.2];exact z6f,HW7.o,HK7.o,HBY.o,HDY.o⟩
  case rest=>
  obtain⟨a8,b8,ck,cd,hw8,hlk,hld,hkk,hkd,hw7,hk7,hbu,hdz⟩:=hcut
  obtain⟨Z,hZ⟩:∃ z,z= wc:=⟨_,rfl⟩
  subst hZ
  have HLK:=I hlk
  have HLD:=I hld
  have HBZ:=I hbu
  have HDZ:=I hdz
  have HC:Hid (∀ z,Below Z.heap.size Z z->CkD mb lb w0 cb z):=I fun z hz=>HDZ.o.next hz
  have HR7:Hid (∀ z,Below Z.heap.size Z z->z.rangeAt q7 0 ct):=I fun z hz=>(hw7.keep (hz.block _ hw7.lt)).range
  have HR8:Hid (∀ z,Below Z.heap.size Z z->z.rangeAt q8 2 ck):=I fun z hz=>(z4w (hw8.keep (hz.block _ hw8.lt)).range hlk).1
  have HR9:Hid (∀ z,Below Z.heap.size Z z->z.rangeAt q8 5 cd):=I fun z hz=>(z4w (hw8.keep (hz.block _ hw8.lt)).range hlk).2
  have HTO:Hid (∀ z,Below Z.heap.size Z z->TypAt z z.heap.size ct (ownW m x)):=I fun z hz=>(hk7.next hz).typ
  have HTK:Hid (∀ z,Below Z.heap.size Z z->TypAt z z.heap.size ck (keyW m x)):=I fun z hz=>(hkk.next hz).typ
  have HTD:Hid (∀ z,Below Z.heap.size Z z->TypAt z z.heap.size cd (bodyW m x)):=I fun z hz=>(hkd.next hz).typ
  have HXE:Hid (∀ z,Below Z.heap.size Z z->ExpAt z z.heap.size ce x.expr):=I fun z hz=>(HF.o.expr.under (HC.o z hz).bel).more (HC.o z hz).bel.size
  have HXB:Hid (∀ z,Below Z.heap.size Z z->ExpAt z z.heap.size cbx x.body):=I fun z hz=>(HF.o.body.under (HC.o z hz).bel).more (HC.o z hz).bel.size
  have HTB:Hid (TabP Z):=I (HS.o.tab.next hdz.bel)
  have d0:=HF.o.c0 hdz.bel
  clear hw8 hlk hld hkk hkd hw7 hk7 hbu hdz d25
  have HIO0:=I (fun z (hz:Below Z.heap.size Z z)=>z4d HS.o (HC.o z hz) x.expr (ownW m x) ce ct (HXE.o z hz) (HTO.o z hz))
  have HIK0:=I (fun z (hz:Below Z.heap.size Z z)=>z4d HS.o (HC.o z hz) x.expr (keyW m x) ce ck (HXE.o z hz) (HTK.o z hz))
  have HIB0:=I (fun z (hz:Below Z.heap.size Z z)=>z4d HS.o (HC.o z hz) x.body (bodyW m x) cbx cd (HXB.o z hz) (HTD.o z hz))
  have HIT0:=I (fun z (hz:Below Z.heap.size Z z)=>z9b (bodyW m x) (ownW m x) cd ct z (HTD.o z hz) (HTO.o z hz))
  have HKB:Hid (kindB m x= if x.kind= 3 then isE m.vars x.expr (ownW m x) else if x.kind= 9\/x.kind= 11 then isE m.vars x.expr (keyW m x) && isT (bodyW m x) (ownW m x) else if x.kind= 10 then isE m.vars x.expr (keyW m x) && isE m.vars x.body (bodyW m x) else if x.kind= 12 then isE m.vars x.expr (ownW m x) && ((z0r x.body).2 && fitT (z0r x.body).1 (ownW m x)) else true):=I rfl
  obtain⟨bo,hbo⟩:∃ b,isE m.vars x.expr (ownW m x)= b:=⟨_,rfl⟩
  obtain⟨bk,hbk⟩:∃ b,isE m.vars x.expr (keyW m x)= b:=⟨_,rfl⟩
  obtain⟨bb,hbb⟩:∃ b,isE m.vars x.body (bodyW m x)= b:=⟨_,rfl⟩
  obtain⟨bt,hbt⟩:∃ b,isT (bodyW m x) (ownW m x)= b:=⟨_,rfl⟩
  have HIO:=HIO0
  have HIK:=HIK0
  have HIB:=HIB0
  have HIT:=HIT0
  rw[hbo] at HIO
  rw[hbk] at HIK
  rw[hbb] at HIB
  rw[hbt] at HIT
  have HKR:Hid (r= if x.kind= 3 then bo else if x.kind= 9\/x.kind= 11 then bk && bt else if x.kind= 10 then bk && bb else if x.kind= 12 then bo && ((z0r x.body).2 && fitT (z0r x.body).1 (ownW m x)) else true):=I (by rw[HRK.o,HKB.o,hbo,hbk,hbb,hbt])
  clear hbo hbk hbb hbt HKB HRK HIO0 HIK0 HIB0 HIT0
  obtain⟨kd,hkd⟩:∃ k,x.kind= k:=⟨_,rfl⟩
  rw[hkd] at d0 HKR
  clear hkd
  by_cases k3:kd= 3
  ·subst k3
   have HV:Hid (r= bo):=I (by rw[HKR.o];rfl)
   go_upto_region 15 with (fail)
   clear d0
   have hs:Below Z.heap.size Z Z.drew:=(Below.refl _ _).drew
   refine zr [(0,true),(1,true),(2,true),(3,true),(4,true),(5,true),(6,false),(7,true)] (fun z=>Below Z.heap.size Z z) (by kernel_rfl) (by kernel_rfl) (by kernel_rfl) rfl (by intro c a d v w h;cases d<;>exact h) ?_
   refine zh (some 69) (.pointer (some ⟨cb,0,none⟩)) _ _ rfl rfl rfl (by exact wA rfl) hs rfl ?_
   go_frame
   refine zh (some 70) (.pointer (some ⟨nb,no,none⟩)) _ _ rfl rfl rfl (by exact wA rfl) hs rfl ?_
   go_frame
   refine z8 (some 71) (.pointer (some ⟨nb,no,none⟩)) _ rfl rfl (by exact wA rfl) hs (fun z hz=>by go_simp) ?_
   go_frame
   refine z8 (some 72) (.pointer (some ⟨nb,no+4,none⟩)) _ rfl rfl (by exact wA rfl) hs (fun z hz=>by go_simp) ?_
   go_frame
   refine z8 (some 73) (.agg ⟨ce⟩) _ rfl rfl (by exact wA rfl) hs (fun z hz=>zt 54 rfl (nb) (no+4) (ce) _ rfl (HF.o.rce (HC.o z hz).bel) Tryz.underlying54 rfl (by rw[HF.o.lce];kernel_rfl)) ?_
   go_frame
   refine z8 (some 74) (.agg ⟨ct⟩) _ rfl rfl (by exact wA rfl) hs (fun z hz=>zt 41 rfl (q7) (0) (ct) _ rfl (HR7.o z hz) Tryz.underlying41 rfl (by rw[HL7.o];kernel_rfl)) ?_
   go_frame
   refine zC (some 75) 69 Tryz.func69 (by kernel_rfl) (by kernel_rfl) [.pointer (some ⟨cb,0,none⟩),.agg ⟨ce⟩,.agg ⟨ct⟩] _ _ _ rfl rfl rfl (by exact wA rfl) rfl ?_
   refine(HIO.o _ hs).mono ?_
   rintro e v1 ⟨rfl,hb⟩
   have hs:Below Z.heap.size Z v1:=hs.trans (hb.mono hs.size)
   refine⟨_,rfl,hs,?_⟩
   go_frame
   refine zQ (some 4) (.bool bo) _ _ rfl rfl rfl (by exact wA rfl) hs rfl ?_
   go_frame
   refine zF ?_
   have HFIN:=I (HBZ.o.trans (hs.mono HBZ.o.size))
   go_wp2
   go_ret
   exact⟨zb HV.o.symm,HFIN.o⟩
  have q3:(kd ==3)= false:=by rw[beq_eq_false_iff_ne];exact k3
  by_cases k9:kd= 9
  ·subst k9
   have HVV:Hid (r=(bk && bt)):=I (by rw[HKR.o];rfl)
   go_upto_region 18 with (fail)
   clear d0
   have hs:Below Z.heap.size Z Z.drew:=(Below.refl _ _).drew
   refine zr [(0,true),(1,true),(2,true),(3,true),(4,true),(5,true),(6,true),(7,false),(8,true),(9,true),(10,true),(11,true),(12,false),(13,true),(14,true)] (fun z=>Below Z.heap.size Z z) (by kernel_rfl) (by kernel_rfl) (by kernel_rfl) rfl (by intro c a d v w h;cases d<;>exact h) ?_
   refine zh (some 79) (.pointer (some ⟨cb,0,none⟩)) _ _ rfl rfl rfl (by exact wA rfl) hs rfl ?_
   go_frame
   refine zh (some 80) (.pointer (some ⟨nb,no,none⟩)) _ _ rfl rfl rfl (by exact wA rfl) hs rfl ?_
   go_frame
   refine z8 (some 81) (.pointer (some ⟨nb,no,none⟩)) _ rfl rfl (by exact wA rfl) hs (fun z hz=>by go_simp) ?_
   go_frame
   refine z8 (some 82) (.pointer (some ⟨nb,no+4,none⟩)) _ rfl rfl (by exact wA rfl) hs (fun z hz=>by go_simp) ?_
   go_frame
   refine z8 (some 83) (.agg ⟨ce⟩) _ rfl rfl (by exact wA rfl) hs (fun z hz=>zt 54 rfl (nb) (no+4) (ce) _ rfl (HF.o.rce (HC.o z hz).bel) Tryz.underlying54 rfl (by rw[HF.o.lce];kernel_rfl)) ?_
   go_frame
   refine z8 (some 84) (.pointer (some ⟨q8,2,none⟩)) _ rfl rfl (by exact wA rfl) hs (fun z hz=>by go_simp) ?_
   go_frame
   refine z8 (some 85) (.agg ⟨ck⟩) _ rfl rfl (by exact wA rfl) hs (fun z hz=>zt 41 rfl (q8) (2) (ck) _ rfl (HR8.o z hz) Tryz.underlying41 rfl (by rw[HLK.o];kernel_rfl)) ?_
   go_frame
   refine zC (some 86) 69 Tryz.func69 (by kernel_rfl) (by kernel_rfl) [.pointer (some ⟨cb,0,none⟩),.agg ⟨ce⟩,.agg ⟨ck⟩] _ _ _ rfl rfl rfl (by exact wA rfl) rfl ?_
   refine(HIK.o _ hs).mono ?_
   rintro e v1 ⟨rfl,hb⟩
   have hs:Below Z.heap.size Z v1:=hs.trans (hb.mono hs.size)
   refine⟨_,rfl,hs,?_⟩
   go_frame
   cases bk with
   |false=>
    have HV:Hid (r= false):=I (by rw[HVV.o];rfl)
    refine zh (some 87) (.bool false) _ _ rfl rfl rfl (by exact wA rfl) hs rfl ?_
    go_frame
    refine zg (some 88) _ rfl rfl (ze rfl rfl rfl rfl (by decide)) hs ?_
    go_frame
    refine zg (some 89) _ rfl rfl (ze rfl rfl rfl rfl (by decide)) hs ?_
    go_frame
    refine zg (some 90) _ rfl rfl (ze rfl rfl rfl rfl (by decide)) hs ?_
    go_frame
    refine z0o (some 91) _ rfl rfl (ze rfl rfl rfl rfl (by decide)) hs ?_
    go_frame
    refine zE (some 92) (.bool false) _ _ _ _ false rfl rfl rfl rfl (by exact wA rfl) hs rfl ?_
    go_frame
    refine zQ (some 4) (.bool false) _ _ rfl rfl rfl (by exact wA rfl) hs rfl ?_
    go_frame
    refine zF ?_
    have HFIN:=I (HBZ.o.trans (hs.mono HBZ.o.size))
    go_wp2
    go_ret
    exact⟨zb HV.o.symm,HFIN.o⟩
   |true=>
    have HV:Hid (r= bt):=I (by rw[HVV.o,Bool.true_and])
    refine zh (some 87) (.bool true) _ _ rfl rfl rfl (by exact wA rfl) hs rfl ?_
    go_frame
    refine z8 (some 88) (.pointer (some ⟨q8,5,none⟩)) _ rfl rfl (by exact wA rfl) hs (fun z hz=>by go_simp) ?_
    go_frame
    refine z8 (some 89) (.agg ⟨cd⟩) _ rfl rfl (by exact wA rfl) hs (fun z hz=>zt 41 rfl (q8) (5) (cd) _ rfl (HR9.o z hz) Tryz.underlying41 rfl (by rw[HLD.o];kernel_rfl)) ?_
    go_frame
    refine z8 (some 90) (.agg ⟨ct⟩) _ rfl rfl (by exact wA rfl) hs (fun z hz=>zt 41 rfl (q7) (0) (ct) _ rfl (HR7.o z hz) Tryz.underlying41 rfl (by rw[HL7.o];kernel_rfl)) ?_
    go_frame
    refine zC (some 91) 70 Tryz.func70 (by kernel_rfl) (by kernel_rfl) [.agg ⟨cd⟩,.agg ⟨ct⟩] _ _ _ rfl rfl rfl (by exact wA rfl) rfl ?_
    refine(HIT.o _ hs).mono ?_
    rintro e v2 ⟨rfl,hb⟩
    have hs:Below Z.heap.size Z v2:=hs.trans (hb.mono hs.size)
    refine⟨_,rfl,hs,?_⟩
    go_frame
    refine zE (some 92) (.bool bt) _ _ _ _ true rfl rfl rfl rfl (by exact wA rfl) hs rfl ?_
    go_frame
    refine zQ (some 4) (.bool bt) _ _ rfl rfl rfl (by exact wA rfl) hs rfl ?_
    go_frame
    refine zF ?_
    have HFIN:=I (HBZ.o.trans (hs.mono HBZ.o.size))
    go_wp2
    go_ret
    exact⟨zb HV.o.symm,HFIN.o⟩
  have q9:(kd ==9)= false:=by rw[beq_eq_false_iff_ne];exact k9
  by_cases k11:kd= 11
  ·subst k11
   have HVV:Hid (r=(bk && bt)):=I (by rw[HKR.o];rfl)
   go_upto_region 18 with (fail)
   clear d0
   have hs:Below Z.heap.size Z Z.drew:=(Below.refl _ _).drew
   refine zr [(0,true),(1,true),(2,true),(3,true),(4,true),(5,true),(6,true),(7,false),(8,true),(9,true),(10,true),(11,true),(12,false),(13,true),(14,true)] (fun z=>Below Z.heap.size Z z) (by kernel_rfl) (by kernel_rfl) (by kernel_rfl) rfl (by intro c a d v w h;cases d<;>exact h) ?_
   refine zh (some 79) (.pointer (some ⟨cb,0,none⟩)) _ _ rfl rfl rfl (by exact wA rfl) hs rfl ?_
   go_frame
   refine zh (some 80) (.pointer (some ⟨nb,no,none⟩)) _ _ rfl rfl rfl (by exact wA rfl) hs rfl ?_
   go_frame
   refine z8 (some 81) (.pointer (some ⟨nb,no,none⟩)) _ rfl rfl (by exact wA rfl) hs (fun z hz=>by go_simp) ?_
   go_frame
   refine z8 (some 82) (.pointer (some ⟨nb,no+4,none⟩)) _ rfl rfl (by exact wA rfl) hs (fun z hz=>by go_simp) ?_
   go_frame
   refine z8 (some 83) (.agg ⟨ce⟩) _ rfl rfl (by exact wA rfl) hs (fun z hz=>zt 54 rfl (nb) (no+4) (ce) _ rfl (HF.o.rce (HC.o z hz).bel) Tryz.underlying54 rfl (by rw[HF.o.lce];kernel_rfl)) ?_
   go_frame
   refine z8 (some 84) (.pointer (some ⟨q8,2,none⟩)) _ rfl rfl (by exact wA rfl) hs (fun z hz=>by go_simp) ?_
   go_frame
   refine z8 (some 85) (.agg ⟨ck⟩) _ rfl rfl (by exact wA rfl) hs (fun z hz=>zt 41 rfl (q8) (2) (ck) _ rfl (HR8.o z hz) Tryz.underlying41 rfl (by rw[HLK.o];kernel_rfl)) ?_
   go_frame
   refine zC (some 86) 69 Tryz.func69 (by kernel_rfl) (by kernel_rfl) [.pointer (some ⟨cb,0,none⟩),.agg ⟨ce⟩,.agg ⟨ck⟩] _ _ _ rfl rfl rfl (by exact wA rfl) rfl ?_
   refine(HIK.o _ hs).mono ?_
   rintro e v1 ⟨rfl,hb⟩
   have hs:Below Z.heap.size Z v1:=hs.trans (hb.mono hs.size)
   refine⟨_,rfl,hs,?_⟩
   go_frame
   cases bk with
   |false=>
    have HV:Hid (r= false):=I (by rw[HVV.o];rfl)
    refine zh (some 87) (.bool false) _ _ rfl rfl rfl (by exact wA rfl) hs rfl ?_
    go_frame
    refine zg (some 88) _ rfl rfl (ze rfl rfl rfl rfl (by decide)) hs ?_
    go_frame
    refine zg (some 89) _ rfl rfl (ze rfl rfl rfl rfl (by decide)) hs ?_
    go_frame
    refine zg (some 90) _ rfl rfl (ze rfl rfl rfl rfl (by decide)) hs ?_
    go_frame
    refine z0o (some 91) _ rfl rfl (ze rfl rfl rfl rfl (by decide)) hs ?_
    go_frame
    refine zE (some 92) (.bool false) _ _ _ _ false rfl rfl rfl rfl (by exact wA rfl) hs rfl ?_
    go_frame
    refine zQ (some 4) (.bool false) _ _ rfl rfl rfl (by exact wA rfl) hs rfl ?_
    go_frame
    refine zF ?_
    have HFIN:=I (HBZ.o.trans (hs.mono HBZ.o.size))
    go_wp2
    go_ret
    exact⟨zb HV.o.symm,HFIN.o⟩
   |true=>
    have HV:Hid (r= bt):=I (by rw[HVV.o,Bool.true_and])
    refine zh (some 87) (.bool true) _ _ rfl rfl rfl (by exact wA rfl) hs rfl ?_
    go_frame
    refine z8 (some 88) (.pointer (some ⟨q8,5,none⟩)) _ rfl rfl (by exact wA rfl) hs (fun z hz=>by go_simp) ?_
    go_frame
    refine z8 (some 89) (.agg ⟨cd⟩) _ rfl rfl (by exact wA rfl) hs (fun z hz=>zt 41 rfl (q8) (5) (cd) _ rfl (HR9.o z hz) Tryz.underlying41 rfl (by rw[HLD.o];kernel_rfl)) ?_
    go_frame
    refine z8 (some 90) (.agg ⟨ct⟩) _ rfl rfl (by exact wA rfl) hs (fun z hz=>zt 41 rfl (q7) (0) (ct) _ rfl (HR7.o z hz) Tryz.underlying41 rfl (by rw[HL7.o];kernel_rfl)) ?_
    go_frame
    refine zC (some 91) 70 Tryz.func70 (by kernel_rfl) (by kernel_rfl) [.agg ⟨cd⟩,.agg ⟨ct⟩] _ _ _ rfl rfl rfl (by exact wA rfl) rfl ?_
    refine(HIT.o _ hs).mono ?_
    rintro e v2 ⟨rfl,hb⟩
    have hs:Below Z.heap.size Z v2:=hs.trans (hb.mono hs.size)
    refine⟨_,rfl,hs,?_⟩
    go_frame
    refine zE (some 92) (.bool bt) _ _ _ _ true rfl rfl rfl rfl (by exact wA rfl) hs rfl ?_
    go_frame
    refine zQ (some 4) (.bool bt) _ _ rfl rfl rfl (by exact wA rfl) hs rfl ?_
    go_frame
    refine zF ?_
    have HFIN:=I (HBZ.o.trans (hs.mono HBZ.o.size))
    go_wp2
    go_ret
    exact⟨zb HV.o.symm,HFIN.o⟩
  have q11:(kd ==11)= false:=by rw[beq_eq_false_iff_ne];exact k11
  by_cases k10:kd= 10
  ·subst k10
   have HVV:Hid (r=(bk && bb)):=I (by rw[HKR.o];rfl)
   go_upto_region 20 with (fail)
   clear d0
   have hs:Below Z.heap.size Z Z.drew:=(Below.refl _ _).drew
   refine zr [(0,true),(1,true),(2,true),(3,true),(4,true),(5,true),(6,true),(7,false),(8,true),(9,true),(10,true),(11,true),(12,true),(13,true),(14,true),(15,true),(16,false),(17,true),(18,true)] (fun z=>Below Z.heap.size Z z) (by kernel_rfl) (by kernel_rfl) (by kernel_rfl) rfl (by intro c a d v w h;cases d<;>exact h) ?_
   refine zh (some 95) (.pointer (some ⟨cb,0,none⟩)) _ _ rfl rfl rfl (by exact wA rfl) hs rfl ?_
   go_frame
   refine zh (some 96) (.pointer (some ⟨nb,no,none⟩)) _ _ rfl rfl rfl (by exact wA rfl) hs rfl ?_
   go_frame
   refine z8 (some 97) (.pointer (some ⟨nb,no,none⟩)) _ rfl rfl (by exact wA rfl) hs (fun z hz=>by go_simp) ?_
   go_frame
   refine z8 (some 98) (.pointer (some ⟨nb,no+4,none⟩)) _ rfl rfl (by exact wA rfl) hs (fun z hz=>by go_simp) ?_
   go_frame
   refine z8 (some 99) (.agg ⟨ce⟩) _ rfl rfl (by exact wA rfl) hs (fun z hz=>zt 54 rfl (nb) (no+4) (ce) _ rfl (HF.o.rce (HC.o z hz).bel) Tryz.underlying54 rfl (by rw[HF.o.lce];kernel_rfl)) ?_
   go_frame
   refine z8 (some 100) (.pointer (some ⟨q8,2,none⟩)) _ rfl rfl (by exact wA rfl) hs (fun z hz=>by go_simp) ?_
   go_frame
   refine z8 (some 101) (.agg ⟨ck⟩) _ rfl rfl (by exact wA rfl) hs (fun z hz=>zt 41 rfl (q8) (2) (ck) _ rfl (HR8.o z hz) Tryz.underlying41 rfl (by rw[HLK.o];kernel_rfl)) ?_
   go_frame
   refine zC (some 102) 69 Tryz.func69 (by kernel_rfl) (by kernel_rfl) [.pointer (some ⟨cb,0,none⟩),.agg ⟨ce⟩,.agg ⟨ck⟩] _ _ _ rfl rfl rfl (by exact wA rfl) rfl ?_
   refine(HIK.o _ hs).mono ?_
   rintro e v1 ⟨rfl,hb⟩
   have hs:Below Z.heap.size Z v1:=hs.trans (hb.mono hs.size)
   refine⟨_,rfl,hs,?_⟩
   go_frame
   cases bk with
   |false=>
    have HV:Hid (r= false):=I (by rw[HVV.o];rfl)
    refine zh (some 103) (.bool false) _ _ rfl rfl rfl (by exact wA rfl) hs rfl ?_
    go_frame
    refine zg (some 104) _ rfl rfl (ze rfl rfl rfl rfl (by decide)) hs ?_
    go_frame
    refine zg (some 105) _ rfl rfl (ze rfl rfl rfl rfl (by decide)) hs ?_
    go_frame
    refine zg (some 106) _ rfl rfl (ze rfl rfl rfl rfl (by decide)) hs ?_
    go_frame
    refine zg (some 107) _ rfl rfl (ze rfl rfl rfl rfl (by decide)) hs ?_
    go_frame
    refine zg (some 108) _ rfl rfl (ze rfl rfl rfl rfl (by decide)) hs ?_
    go_frame
    refine zg (some 109) _ rfl rfl (ze rfl rfl rfl rfl (by decide)) hs ?_
    go_frame
    refine zg (some 110) _ rfl rfl (ze rfl rfl rfl rfl (by decide)) hs ?_
    go_frame
    refine z0o (some 111) _ rfl rfl (ze rfl rfl rfl rfl (by decide)) hs ?_
    go_frame
    refine zE (some 112) (.bool false) _ _ _ _ false rfl rfl rfl rfl (by exact wA rfl) hs rfl ?_
    go_frame
    refine zQ (some 4) (.bool false) _ _ rfl rfl rfl (by exact wA rfl) hs rfl ?_
    go_frame
    refine zF ?_
    have HFIN:=I (HBZ.o.trans (hs.mono HBZ.o.size))
    go_wp2
    go_ret
    exact⟨zb HV.o.symm,HFIN.o⟩
   |true=>
    have HV:Hid (r= bb):=I (by rw[HVV.o,Bool.true_and])
    refine zh (some 103) (.bool true) _ _ rfl rfl rfl (by exact wA rfl) hs rfl ?_
    go_frame
    refine zh (some 104) (.pointer (some ⟨cb,0,none⟩)) _ _ rfl rfl rfl (by exact wA rfl) hs rfl ?_
    go_frame
    refine zh (some 105) (.pointer (some ⟨nb,no,none⟩)) _ _ rfl rfl rfl (by exact wA rfl) hs rfl ?_
    go_frame
    refine z8 (some 106) (.pointer (some ⟨nb,no,none⟩)) _ rfl rfl (by exact wA rfl) hs (fun z hz=>by go_simp) ?_
    go_frame
    refine z8 (some 107) (.pointer (some ⟨nb,no+14,none⟩)) _ rfl rfl (by exact wA rfl) hs (fun z hz=>by go_simp) ?_
    go_frame
    refine z8 (some 108) (.agg ⟨cbx⟩) _ rfl rfl (by exact wA rfl) hs (fun z hz=>zt 54 rfl (nb) (no+14) (cbx) _ rfl (HF.o.rcb (HC.o z hz).bel) Tryz.underlying54 rfl (by rw[HF.o.lcb];kernel_rfl)) ?_
    go_frame
    refine z8 (some 109) (.pointer (some ⟨q8,5,none⟩)) _ rfl rfl (by exact wA rfl) hs (fun z hz=>by go_simp) ?_
    go_frame
    refine z8 (some 110) (.agg ⟨cd⟩) _ rfl rfl (by exact wA rfl) hs (fun z hz=>zt 41 rfl (q8) (5) (cd) _ rfl (HR9.o z hz) Tryz.underlying41 rfl (by rw[HLD.o];kernel_rfl)) ?_
    go_frame
    refine zC (some 111) 69 Tryz.func69 (by kernel_rfl) (by kernel_rfl) [.pointer (some ⟨cb,0,none⟩),.agg ⟨cbx⟩,.agg ⟨cd⟩] _ _ _ rfl rfl rfl (by exact wA rfl) rfl ?_
    refine(HIB.o _ hs).mono ?_
    rintro e v2 ⟨rfl,hb⟩
    have hs:Below Z.heap.size Z v2:=hs.trans (hb.mono hs.size)
    refine⟨_,rfl,hs,?_⟩
    go_frame
    refine zE (some 112) (.bool bb) _ _ _ _ true rfl rfl rfl rfl (by exact wA rfl) hs rfl ?_
    go_frame
    refine zQ (some 4) (.bool bb) _ _ rfl rfl rfl (by exact wA rfl) hs rfl ?_
    go_frame
    refine zF ?_
    have HFIN:=I (HBZ.o.trans (hs.mono HBZ.o.size))
    go_wp2
    go_ret
    exact⟨zb HV.o.symm,HFIN.o⟩
  have q10:(kd ==10)= false:=by rw[beq_eq_false_iff_ne];exact k10
  by_cases k12:kd= 12
  ·subst k12
   have HVV0:Hid (r=(bo && ((z0r x.body).2 && fitT (z0r x.body).1 (ownW m x)))):=I (by rw[HKR.o];rfl)
   have HCO:=I (z8L x.body cbx Z HTB.o (HXB.o Z (Below.refl _ _)))
   have HXR:=I (HF.o.rcb HDZ.o.bel)
   go_upto_region 23 with (first|((with_reducible refine za 54 _ rfl ?_ (nb) (no+14) (cbx) _ rfl HXR.o Tryz.underlying54 rfl ?_ ?_);(exact wA rfl);rw[HF.o.lcb];kernel_rfl)|(go_at_call 71;refine HCO.o.mono ?_;rintro e yc ⟨cv,rfl,hv,hb⟩;have HVC:=I hv;have HLV:=I (zo hv).1;have HOV:=I (zo hv).2;have HBC:=I hb;clear hv hb)|((with_reducible refine zJ 52 _ _ rfl ?hwx13 yc ?zz13 (cv) ?hwld13 ?hz13 ?hx13 ?hy13 ?hi13 ?h113 ?_);(case hwld13=>rfl);(case hx13=>rfl);(case hy13=>rfl);(case hwx13=>(exact wA rfl));(case hz13=>rw[HLV.o];rfl);(case hi13=>rw[HLV.o];kernel_rfl);(case h113=>exact HOV.o);intro Y2 hZ;have HX9:=I hZ;clear hZ))
   clear d0
   have HZY:Hid (Below Z.heap.size Z Y2):=I (HBC.o.trans (HX9.o.below.mono HBC.o.size))
   have HBY2:Hid (Below u.heap.size u Y2):=I (HBZ.o.trans (HZY.o.mono HBZ.o.size))
   have HR9Y:Hid (∀ z,Below Y2.heap.size Y2 z->z.rangeAt yc.heap.size 0 cv):=I fun z hz=>zc HX9.o.range hz HX9.o.size
   have HCY:Hid (∀ z,Below Y2.heap.size Y2 z->CkD mb lb w0 cb z):=I fun z hz=>HC.o z (HZY.o.trans (hz.mono HZY.o.size))
   have HR7Y:Hid (∀ z,Below Y2.heap.size Y2 z->z.rangeAt q7 0 ct):=I fun z hz=>HR7.o z (HZY.o.trans (hz.mono HZY.o.size))
   have HIOY:Hid (∀ z,Below Y2.heap.size Y2 z->Calls Tryz.prog 69 #[.pointer (some ⟨cb,0,none⟩),.agg ⟨ce⟩,.agg ⟨ct⟩] z fun e w'=>e= .returned (.bool bo)/\Below z.heap.size z w'):=I fun z hz=>HIO.o z (HZY.o.trans (hz.mono HZY.o.size))
   have HFI0:=I (fun z (hz:Below Y2.heap.size Y2 z)=>z8g (z0r x.body).1 (ownW m x) cv ct z ((HVC.o.under (HX9.o.below.trans (hz.mono HX9.o.below.size))).more (HX9.o.below.trans (hz.mono HX9.o.below.size)).size) (HTO.o z (HZY.o.trans (hz.mono HZY.o.size))))
   obtain⟨bc,hbc⟩:∃ b,(z0r x.body).2= b:=⟨_,rfl⟩
   obtain⟨bf,hbf⟩:∃ b,fitT (z0r x.body).1 (ownW m x)= b:=⟨_,rfl⟩
   have HFI:=HFI0
   rw[hbf] at HFI
   have HVV:Hid (r=(bo && (bc && bf))):=I (by rw[← hbc,← hbf];exact HVV0.o)
   (try rw[hbc])
   clear hbc hbf HFI0 HVV0
   obtain⟨q9,hq9⟩:∃ q,yc.heap.size= q:=⟨_,rfl⟩
   rw[hq9] at HR9Y
   rw[hq9]
   clear hq9 HX9
   have hs:Below Y2.heap.size Y2 Y2.drew:=(Below.refl _ _).drew
   refine zr [(0,true),(1,true),(2,true),(3,true),(4,true),(5,true),(6,false),(7,true),(8,true),(9,true),(10,true),(11,true),(12,true),(13,false),(14,true),(15,true)] (fun z=>Below Y2.heap.size Y2 z) (by kernel_rfl) (by kernel_rfl) (by kernel_rfl) rfl (by intro c a d v w h;cases d<;>exact h) ?_
   refine zh (some 123) (.pointer (some ⟨cb,0,none⟩)) _ _ rfl rfl rfl (by exact wA rfl) hs rfl ?_
   go_frame
   refine zh (some 124) (.pointer (some ⟨nb,no,none⟩)) _ _ rfl rfl rfl (by exact wA rfl) hs rfl ?_
   go_frame
   refine z8 (some 125) (.pointer (some ⟨nb,no,none⟩)) _ rfl rfl (by exact wA rfl) hs (fun z hz=>by go_simp) ?_
   go_frame
   refine z8 (some 126) (.pointer (some ⟨nb,no+4,none⟩)) _ rfl rfl (by exact wA rfl) hs (fun z hz=>by go_simp) ?_
   go_frame
   refine z8 (some 127) (.agg ⟨ce⟩) _ rfl rfl (by exact wA rfl) hs (fun z hz=>zt 54 rfl (nb) (no+4) (ce) _ rfl (HF.o.rce (HCY.o z hz).bel) Tryz.underlying54 rfl (by rw[HF.o.lce];kernel_rfl)) ?_
   go_frame
   refine z8 (some 128) (.agg ⟨ct⟩) _ rfl rfl (by exact wA rfl) hs (fun z hz=>zt 41 rfl (q7) (0) (ct) _ rfl (HR7Y.o z hz) Tryz.underlying41 rfl (by rw[HL7.o];kernel_rfl)) ?_
   go_frame
   refine zC (some 129) 69 Tryz.func69 (by kernel_rfl) (by kernel_rfl) [.pointer (some ⟨cb,0,none⟩),.agg ⟨ce⟩,.agg ⟨ct⟩] _ _ _ rfl rfl rfl (by exact wA rfl) rfl ?_
   refine(HIOY.o _ hs).mono ?_
   rintro e v1 ⟨rfl,hb⟩
   have hs:Below Y2.heap.size Y2 v1:=hs.trans (hb.mono hs.size)
   refine⟨_,rfl,hs,?_⟩
   go_frame
   cases bo with
   |false=>
    have HV:Hid (r= false):=I (by rw[HVV.o];rfl)
    refine zh (some 130) (.bool false) _ _ rfl rfl rfl (by exact wA rfl) hs rfl ?_
    go_frame
    refine zg (some 131) _ rfl rfl (ze rfl rfl rfl rfl (by decide)) hs ?_
    go_frame
    refine zE (some 132) (.bool false) _ _ _ _ false rfl rfl rfl rfl (by exact wA rfl) hs rfl ?_
    go_frame
    refine zh (some 133) (.bool false) _ _ rfl rfl rfl (by exact wA rfl) hs rfl ?_
    go_frame
    refine zg (some 134) _ rfl rfl (ze rfl rfl rfl rfl (by decide)) hs ?_
    go_frame
    refine zg (some 135) _ rfl rfl (ze rfl rfl rfl rfl (by decide)) hs ?_
    go_frame
    refine z0o (some 136) _ rfl rfl (ze rfl rfl rfl rfl (by decide)) hs ?_
    go_frame
    refine zE (some 137) (.bool false) _ _ _ _ false rfl rfl rfl rfl (by exact wA rfl) hs rfl ?_
    go_frame
    refine zQ (some 4) (.bool false) _ _ rfl rfl rfl (by exact wA rfl) hs rfl ?_
    go_frame
    refine zF ?_
    have HFIN:=I (HBY2.o.trans (hs.mono HBY2.o.size))
    go_wp2
    go_ret
    exact⟨zb HV.o.symm,HFIN.o⟩
   |true=>
   cases bc with
   |false=>
    have HV:Hid (r= false):=I (by rw[HVV.o];rfl)
    refine zh (some 130) (.bool true) _ _ rfl rfl rfl (by exact wA rfl) hs rfl ?_
    go_frame
    refine zh (some 131) (.bool false) _ _ rfl rfl rfl (by exact wA rfl) hs rfl ?_
    go_frame
    refine zE (some 132) (.bool false) _ _ _ _ true rfl rfl rfl rfl (by exact wA rfl) hs rfl ?_
    go_frame
    refine zh (some 133) (.bool false) _ _ rfl rfl rfl (by exact wA rfl) hs rfl ?_
    go_frame
    refine zg (some 134) _ rfl rfl (ze rfl rfl rfl rfl (by decide)) hs ?_
    go_frame
    refine zg (some 135) _ rfl rfl (ze rfl rfl rfl rfl (by decide)) hs ?_
    go_frame
    refine z0o (some 136) _ rfl rfl (ze rfl rfl rfl rfl (by decide)) hs ?_
    go_frame
    refine zE (some 137) (.bool false) _ _ _ _ false rfl rfl rfl rfl (by exact wA rfl) hs rfl ?_
    go_frame
    refine zQ (some 4) (.bool false) _ _ rfl rfl rfl (by exact wA rfl) hs rfl ?_
    go_frame
    refine zF ?_
    have HFIN:=I (HBY2.o.trans (hs.mono HBY2.o.size))
    go_wp2
    go_ret
    exact⟨zb HV.o.symm,HFIN.o⟩
   |true=>
    have HV:Hid (r= bf):=I (by rw[HVV.o];rfl)
    refine zh (some 130) (.bool true) _ _ rfl rfl rfl (by exact wA rfl) hs rfl ?_
    go_frame
    refine zh (some 131) (.bool true) _ _ rfl rfl rfl (by exact wA rfl) hs rfl ?_
    go_frame
    refine zE (some 132) (.bool true) _ _ _ _ true rfl rfl rfl rfl (by exact wA rfl) hs rfl ?_
    go_frame
    refine zh (some 133) (.bool true) _ _ rfl rfl rfl (by exact wA rfl) hs rfl ?_
    go_frame
    refine z8 (some 134) (.agg ⟨cv⟩) _ rfl rfl (by exact wA rfl) hs (fun z hz=>zt 52 rfl (q9) (0) (cv) _ rfl (HR9Y.o z hz) Tryz.underlying52 rfl (by rw[HLV.o];kernel_rfl)) ?_
    go_frame
    refine z8 (some 135) (.agg ⟨ct⟩) _ rfl rfl (by exact wA rfl) hs (fun z hz=>zt 41 rfl (q7) (0) (ct) _ rfl (HR7Y.o z hz) Tryz.underlying41 rfl (by rw[HL7.o];kernel_rfl)) ?_
    go_frame
    refine zC (some 136) 43 Tryz.func43 (by kernel_rfl) (by kernel_rfl) [.agg ⟨cv⟩,.agg ⟨ct⟩] _ _ _ rfl rfl rfl (by exact wA rfl) rfl ?_
    refine(HFI.o _ hs).mono ?_
    rintro e v2 ⟨rfl,hb⟩
    have hs:Below Y2.heap.size Y2 v2:=hs.trans (hb.mono hs.size)
    refine⟨_,rfl,hs,?_⟩
    go_frame
    refine zE (some 137) (.bool bf) _ _ _ _ true rfl rfl rfl rfl (by exact wA rfl) hs rfl ?_
    go_frame
    refine zQ (some 4) (.bool bf) _ _ rfl rfl rfl (by exact wA rfl) hs rfl ?_
    go_frame
    refine zF ?_
    have HFIN:=I (HBY2.o.trans (hs.mono HBY2.o.size))
    go_wp2
    go_ret
    exact⟨zb HV.o.symm,HFIN.o⟩
  have q12:(kd ==12)= false:=by rw[beq_eq_false_iff_ne];exact k12
  have HV:Hid (r= true):=I (by rw[HKR.o,if_neg k3,if_neg (by omega),if_neg k10,if_neg k12])
  go_wp2
  go_ret
  exact⟨zb HV.o.symm,HBZ.o⟩
end
end Go.Proofs.YtdjfpcmlffekkaaGreatDoor
