/- Parts of a proof: ECnt, IndexV, VisP, LabsP, Lex3, Lex4, Lex5, Lex6, Parse. -/
import Derived.Test.YteolfamhmfidbaaGreatDoorPackI13
set_option maxHeartbeats 8000000
set_option maxRecDepth 100000
set_option linter.unusedVariables false
set_option linter.unusedSimpArgs false
namespace Go.Proofs.YteolfamhmfidbaaGreatDoor
section
open Go Go.RowKit
mutual
def cntE:ET->Nat->Nat
 | .mk _ _ _ _ its,n=>cntEL its (n+1)
def cntEL:List ET->Nat->Nat
 |[],n=>n
 |a::l,n=>if 500<=n then n else cntEL l (cntE a n)
end
theorem z8g:∀ (l:List ET) (n:Nat),(∀ x∈l,∀ m,m < 500->cntE x m<=500)->n<=500->cntEL l n<=500
 |[],n,_,h=>by rw[cntEL];exact h
 |a::l,n,h,hn=>by
  rw[cntEL]
  by_cases h5:500<=n
  ·rw[if_pos h5];exact hn
  ·rw[if_neg h5];exact z8g l _ (fun x hx=>h x (List.mem_cons_of_mem _ hx)) (h a (List.mem_cons_self ..) n (by omega))
theorem z1w (t:ET):∀ m,m < 500->cntE t m<=500:=by
 induction t using ET.ind with
 |h k s v ns its ih=>exact fun m hm=>by rw[cntE];exact z8g its _ ih (by omega)
theorem z3j {l:List ET} {k:Nat} {x:ET} (h:l[k]?= some x):l.drop k= x::l.drop (k+1):=by
 obtain⟨h1,h2⟩:=List.getElem?_eq_some_iff.1 h
 rw[List.drop_eq_getElem_cons h1,h2]
theorem z2p {l:List ET} {k m:Nat} {x:ET} (h:l[k]?= some x):cntEL (l.drop k) m= if 500<=m then m else cntEL (l.drop (k+1)) (cntE x m):=by
 rw[z3j h,cntEL]
theorem z2V {l:List ET} {m:Nat}:cntEL (l.drop l.length) m= m:=by
 rw[List.drop_eq_nil_of_le (Nat.le_refl _),cntEL]
theorem eslen {w:World} {B:Nat} {cs:List Value} {x:ET} (h:ExpAt w B cs x):cs.length= 10:=by
 cases h;rfl
theorem z8C:∀ (t:ET) (m:Nat) (cs:List Value) (p o:Nat) (w:World),m < 500->w.rangeAt p o cs->ExpAt w w.heap.size cs t->
  Calls Tryz.prog 92 #[.pointer (some ⟨p,o,none⟩),.int .i64 m] w fun e w'=>e= .returned (.int .i64 (cntE t m:Nat))/\w'= w:=by
 intro t
 induction t using ET.ind with
 |h k s t ns its ih=>
  intro m cs p o w hm hr hv
  have IH:=I ih
  obtain⟨v0,v1,v2,v3,v4,v5,vn,vi,rfl,_,_,_,_,hil,hi⟩:=hv.inv
  obtain⟨_,A,c,rfl,hA⟩:=hi
  unfold maxLen at hil
  have HA:=I hA
  have d5:=hr 9 _ rfl
  have HS:=I (fun k m x=>z2p (l:=its) (k:=k) (m:=m) (x:=x))
  have HE:=I (fun m=>z2V (l:=its) (m:=m))
  have HLE:=I (fun x m hm=>z1w x m hm)
  have H0:Hid (cntEL (its.drop 0) (m+1)= cntE (.mk k s t ns its) m):=I (by rw[cntE];rfl)
  have hm2:(m:Int) < 500:=by omega
  clear ih hA hr hv
  generalize cntE (.mk k s t ns its) m= res at*
  go_enter Tryz.func92,Tryz.ntmps92
  go_wp2
  go_loopg [1,13] its.length (fun q n x u=>∃ (j m:Nat),j+q= its.length/\x= .int .i64 j/\n= .int .i64 m/\m<=500/\u= w/\cntEL (its.drop j) m= res)
  case atStart=>exact⟨0,m+1,by omega,rfl,by go_num,by omega,rfl,H0.o⟩
  case round=>
   obtain⟨j,m,hj,rfl,rfl,hm5,rfl,hres⟩:=hrel
   have HR:=I hres
   clear hres
   cases gk with
   |zero=>
    obtain rfl:j= its.length:=by omega
    have hge: ¬ ((its.length:Int) <(its.length:Int)):=by omega
    have HV:=I (HR.o.symm.trans (HE.o m))
    go_wp2
    go_ret
    exact⟨by rw[HV.o];rfl,rfl⟩
   |succ q=>
    have hlt:(j:Int) <(its.length:Int):=by omega
    obtain⟨x,hx⟩:∃ x,its[j]?= some x:=⟨_,List.getElem?_eq_getElem (by omega)⟩
    obtain⟨b,o',rfl,hbl,hc⟩:=HA.o (by omega)
    obtain⟨ks,hkl,hks,hvx⟩:=hc j x hx
    have HV:=I (HR.o.symm.trans (HS.o j m x hx))
    by_cases h5:500<=m
    ·have HV2:=I (HV.o.trans (if_pos h5))
     have t1:(500:Int)<=(m:Int):=by omega
     clear hc hks hvx hx HV
     go_wp2
     go_ret
     exact⟨by rw[HV2.o];rfl,rfl⟩
    ·have HV2:=I (HV.o.trans (if_neg h5))
     have t1: ¬ ((500:Int)<=(m:Int)):=by omega
     have HC:=I (IH.o x (List.mem_of_getElem? hx) m ks b (o'+j*10) wr (by omega) hks hvx)
     have hle:=HLE.o x m (by omega)
     clear hc hks hvx hx HV h5
     go_wp2_with (go_at_call 92;refine HC.o.mono ?_;rintro e z ⟨rfl,rfl⟩)
     go_roundg q
     case measure=>omega
     case rel=>exact⟨j+1,_,by omega,by go_num,rfl,hle,rfl,HV2.o.symm⟩
theorem zaD (t:ET) (cs:List Value) (w:World) (hv:ExpAt w w.heap.size cs t):Calls Tryz.prog 56 #[.agg ⟨cs⟩] w fun e w'=>e= .returned (.int .i64 (cntE t 0:Nat))/\Below w.heap.size w w':=by
 have HB1:=I (zc w (.cells ⟨cs⟩ 30))
 have HC:=I (z8C t 0 cs w.heap.size 0 (w.alloc (.cells ⟨cs⟩ 30)) (by decide) (zm w cs 30) ((hv.under HB1.o).more HB1.o.size))
 go_enter Tryz.func56,Tryz.ntmps56
 go_wp2_with (go_at_call 92;refine HC.o.mono ?_;rintro e z ⟨rfl,rfl⟩)
 go_ret
 exact⟨rfl,HB1.o⟩
theorem z9C:∀ (t:ET) (m:Nat) (cs:List Value) (w:World),m < 500->ExpAt w w.heap.size cs t->
  Calls Tryz.prog 53 #[.agg ⟨cs⟩,.int .i64 m] w fun e w'=>e= .returned (.int .i64 (cntE t m:Nat))/\Below w.heap.size w w':=by
 intro t
 induction t using ET.ind with
 |h k s t ns its ih=>
  intro m cs w hm hv
  have IH:=I ih
  obtain⟨v0,v1,v2,v3,v4,v5,vn,vi,rfl,_,_,_,_,hil,hi⟩:=hv.inv
  obtain⟨_,A,c,rfl,hA⟩:=hi
  unfold maxLen at hil
  have HA:=I hA
  have HS:=I (fun k m x=>z2p (l:=its) (k:=k) (m:=m) (x:=x))
  have HE:=I (fun m=>z2V (l:=its) (m:=m))
  have HLE:=I (fun x m hm=>z1w x m hm)
  have HCE:Hid (∀ k m,500<=m->cntEL (its.drop k) m= m):=I (fun k m h=>by
   cases its.drop k with
   |nil=>rw[cntEL]
   |cons a l=>rw[cntEL,if_pos h])
  have H0:Hid (cntEL (its.drop 0) (m+1)= cntE (.mk k s t ns its) m):=I (by rw[cntE];rfl)
  clear ih hA hv
  generalize cntE (.mk k s t ns its) m= res at*
  go_enter Tryz.func53,Tryz.ntmps53
  go_upto_region 1 with (fail)
  have hb0:=zc w (.cells ⟨[.int .i64 k,.string s,v0,v1,v2,v3,v4,v5,vn,.slice A its.length c]⟩ 30)
  have hz0:=zx w (.cells ⟨[.int .i64 k,.string s,v0,v1,v2,v3,v4,v5,vn,.slice A its.length c]⟩ 30)
  have c5:=zr w ⟨[.int .i64 k,.string s,v0,v1,v2,v3,v4,v5,vn,.slice A its.length c]⟩ 30 9
  generalize w.alloc (.cells ⟨[.int .i64 k,.string s,v0,v1,v2,v3,v4,v5,vn,.slice A its.length c]⟩ 30)= W at*
  have HB:=I hb0
  have C5:=I c5
  have HSZ:=I hz0
  clear hb0 c5 hz0
  have hm2:(m:Int) < 500:=by omega
  go_wp2
  go_loopg [1,5] its.length (fun g u i wr=>∃ (j m:Nat),j+g= its.length/\i= .int .i64 j/\u= .int .i64 m/\m<=500/\Below W.heap.size W wr/\cntEL (its.drop j) m= res)
  case atStart=>exact⟨0,m+1,by omega,rfl,by go_num,by omega,Below.refl _ _,H0.o⟩
  case round=>
   obtain⟨j,m,hj,rfl,rfl,hm5,hb,hres⟩:=hrel
   have HB1:=I hb
   have HR:=I hres
   have d5:=(hb.cell (p:=⟨w.heap.size,9,none⟩) HSZ.o).trans C5.o
   clear hb hres
   simp only[List.getElem?_toArray,List.getElem?_cons_succ,List.getElem?_cons_zero] at d5
   have hm5':(m:Int)<=500:=by omega
   cases gk with
   |zero=>
    obtain rfl:j= its.length:=by omega
    have hge: ¬ ((its.length:Int) <(its.length:Int)):=by omega
    have HV:=I (HR.o.symm.trans (HE.o m))
    go_wp2
    go_ret
    exact⟨by rw[HV.o];go_num,HB.o.trans (HB1.o.mono HB.o.size)⟩
   |succ g=>
    have hlt:(j:Int) <(its.length:Int):=by omega
    by_cases h0:m < 500
    ·have hz2:w.heap.size<=wr.heap.size:=Nat.le_trans HB.o.size HB1.o.size
     obtain⟨y,hy⟩:∃ y,its[j]?= some y:=⟨_,List.getElem?_eq_getElem (by omega)⟩
     obtain⟨b,o,rfl,hbb,hc⟩:=HA.o (by omega)
     obtain⟨cs,hcl,hr,hR⟩:=hc j y hy
     have hB2:=HB.o.trans (HB1.o.mono HB.o.size)
     have HV:=I (HR.o.symm.trans (HS.o j m y hy))
     have HV2:=I (HV.o.trans (if_neg (by omega)))
     have HR1:=I (za hr hB2 hbb)
     have HC:=I (IH.o y (List.mem_of_getElem? hy) m cs wr h0 ((hR.under hB2).more hB2.size))
     have HCL:=I hcl
     have hle:=HLE.o y m h0
     have h0':(m:Int) < 500:=by omega
     clear hc hr hR hB2 hy HV h0
     go_wp2_with (first|((with_reducible refine z7 30 _ rfl ?_ b (o+j*10) cs _ rfl HR1.o Tryz.underlying30 rfl ?_ ?_);(exact wA rfl);rw[HCL.o];kernel_rfl)|(go_at_call 53;refine HC.o.mono ?_;rintro e w' ⟨rfl,hb⟩;have HB2:=I hb;clear hb))
     go_roundg g
     case measure=>omega
     case rel=>exact⟨j+1,_,by omega,by go_num,rfl,hle,HB1.o.trans (HB2.o.mono HB1.o.size),HV2.o.symm⟩
    ·have HV:=I (HR.o.symm.trans (HCE.o j m (by omega)))
     have h0': ¬ ((m:Int) < 500):=by omega
     have hm500:m= 500:=by omega
     go_wp2
     all_goals
      go_ret
      exact⟨by rw[HV.o,hm500];rfl,HB.o.trans (HB1.o.mono HB.o.size)⟩
theorem z4W (t:ET) (cs:List Value) (w:World) (hv:ExpAt w w.heap.size cs t):Calls Tryz.prog 26 #[.agg ⟨cs⟩] w fun e w'=>e= .returned (.int .i64 (cntE t 0:Nat))/\Below w.heap.size w w':=by
 have HCL:=I (eslen hv)
 have HV:=I hv
 clear hv
 go_enter Tryz.func26,Tryz.ntmps26
 go_upto_region 1 with (fail)
 have HB:=I (zc w (.cells ⟨cs⟩ 30))
 have HR:=I (zm w cs 30)
 generalize w.alloc (.cells ⟨cs⟩ 30)= W at*
 have HC:=I (z9C t 0 cs W (by omega) ((HV.o.under HB.o).more HB.o.size))
 go_wp2_with (first|((with_reducible refine z7 30 _ rfl ?_ w.heap.size 0 cs _ rfl HR.o Tryz.underlying30 rfl ?_ ?_);(exact wA rfl);rw[HCL.o];kernel_rfl)|(go_at_call 53;refine HC.o.mono ?_;rintro e w' ⟨rfl,hb⟩;have HB2:=I hb;clear hb))
 go_ret
 exact⟨rfl,HB.o.trans (HB2.o.mono HB.o.size)⟩
end
section
open Go Go.RowKit
def z1y (s:ByteArray) (x:VarT):Bool:=x.name.toList ==s.toList
def findV:List VarT->ByteArray->Int
 |[],_=> -1
 |x::l,s=>if z1y s x= true then 0 else if findV l s= -1 then -1 else findV l s+1
theorem z5s {s:ByteArray}:∀ {l:List VarT},(∀ (k:Nat) x,l[k]?= some x->z1y s x= false)->findV l s= -1
 |[],_=>rfl
 |x::l,h=>by
  unfold findV
  rw[if_neg (by rw[h 0 x rfl];decide),z5s fun k y hy=>h (k+1) y hy,if_pos rfl]
theorem z4e {s:ByteArray}:∀ {l:List VarT} (j:Nat) (x:VarT),l[j]?= some x->z1y s x= true->(∀ k,k < j->∀ y,l[k]?= some y->z1y s y= false)->findV l s=(j:Int)
 |[],j,x,h,_,_=>by simp at h
 |a::l,0,x,h,hx,_=>by
  obtain rfl:a= x:=by simpa using h
  unfold findV
  rw[if_pos hx];rfl
 |a::l,j+1,x,h,hx,hno=>by
  have ih:=z4e (l:=l) j x (by simpa using h) hx fun k hk y hy=>hno (k+1) (by omega) y (by simpa using hy)
  unfold findV
  rw[if_neg (by rw[hno 0 (by omega) a rfl];decide),ih,if_neg (by omega)]
  omega
theorem z5t {w:World} {B:Nat} {ks:List Value} {x:VarT} (h:VarAt w B ks x):∃ a b c d e f g i j,ks=[.string x.name,.int .i64 x.label,a,b,c,d,e,f,g,i,j]:=by
 obtain⟨ct,ci,rfl,h3,h6,_,_⟩:=h.ex
 match ct,ci,h3,h6 with
 |[a,b,c],[d,e,f,g,i,j],_,_=>exact⟨a,b,c,d,e,f,g,i,j,rfl⟩
theorem zex (nm s:ByteArray) (lb:Int) (a b c d e f g i j:Value) (pb:Nat) (w:World) (hp:w.cell? ⟨pb,0,none⟩= some (.string s)) (hlp:pb < w.heap.size):
  Calls Tryz.prog 30 #[.agg #[.string nm,.int .i64 lb,a,b,c,d,e,f,g,i,j],.pointer (some ⟨pb,0,none⟩)] w fun r w'=>r= .returned (.bool (nm.toList ==s.toList))/\Below w.heap.size w w':=by
 have HB:=I (zc w (.cells #[.string nm,.int .i64 lb,a,b,c,d,e,f,g,i,j] 50))
 have HP:=I hp
 have HL:=I hlp
 have d0:=zr w #[.string nm,.int .i64 lb,a,b,c,d,e,f,g,i,j] 50 0
 simp only[List.getElem?_toArray,List.getElem?_cons_zero] at d0
 clear hp hlp
 go_enter Tryz.func30,Tryz.ntmps30
 go_upto_region 1 with (fail)
 have d2:=(HB.o.cell (p:=⟨pb,0,none⟩) HL.o).trans HP.o
 generalize w.alloc (.cells #[.string nm,.int .i64 lb,a,b,c,d,e,f,g,i,j] 50)= W at*
 go_wp2
 go_ret
 exact⟨rfl,HB.o⟩
theorem zay (E:List VarT) (s:ByteArray) (v:Value) (pb:Nat) (w:World) (hv:SlAt w w.heap.size 11 (VarAt w w.heap.size) v E) (hE:E.length<=10000) (hp:w.cell? ⟨pb,0,none⟩= some (.string s)) (hlp:pb < w.heap.size):
  Calls Tryz.prog 29 #[v,.func (.func 30) #[] #[.pointer (some ⟨pb,0,none⟩)]] w fun e w'=>e= .returned (.int .i64 (findV E s))/\Below w.heap.size w w':=by
 obtain⟨hel,EA,ec,rfl,hea⟩:=hv
 have HEB:=I hea
 have HO1:=I (fun nm lb a b c d e f g i j u (hu:Below w.heap.size w u)=>zex nm s lb a b c d e f g i j pb u ((hu.cell (p:=⟨pb,0,none⟩) hlp).trans hp) (Nat.lt_of_lt_of_le hlp hu.size))
 clear hp hlp
 have hle2:(E.length:Int)<=10000:=by omega
 clear hea hel
 go_enter Tryz.func29,Tryz.ntmps29
 go_wp2
 go_loopg [8] E.length (fun q x u=>∃ j:Nat,j+q= E.length/\x= .int .i64 j/\Below w.heap.size w u/\∀ k,k < j->∀ e,E[k]?= some e->z1y s e= false)
 case atStart=>exact⟨0,by omega,rfl,Below.refl _ _,fun k hk=>absurd hk (Nat.not_lt_zero k)⟩
 case round=>
  obtain⟨jj,hj,rfl,hb,hno⟩:=hrel
  have HBK:=I hb
  have HNO:=I hno
  clear hb hno
  cases gk with
  |zero=>
   obtain rfl:jj= E.length:=by omega
   have hge: ¬ ((E.length:Int) <(E.length:Int)):=by omega
   have HR:Hid (findV E s= -1):=I (z5s fun k e he=>HNO.o k (List.getElem?_eq_some_iff.1 he).1 e he)
   go_wp2
   go_ret
   exact⟨by rw[HR.o];try rfl,HBK.o⟩
  |succ q=>
   have hlt2:(jj:Int) <(E.length:Int):=by omega
   obtain⟨x,he⟩:∃ e,E[jj]?= some e:=⟨_,List.getElem?_eq_getElem (by omega)⟩
   obtain⟨bb,o,rfl,hbl,hc⟩:=HEB.o (by omega)
   obtain⟨ks,hkl,hks,hva⟩:=hc jj x he
   obtain⟨a,b,c,d,e,f,g,i,j,rfl⟩:=z5t hva
   have HRE:=I (za hks HBK.o hbl)
   have HE:=I he
   have HC1:=I (HO1.o x.name x.label a b c d e f g i j wr HBK.o)
   clear hc he hks hva hkl
   cases ho:(x.name.toList ==s.toList) with
   |true=>
    have HR:Hid (findV E s= jj):=I (z4e jj x HE.o ho fun k hk e' he'=>HNO.o k hk e' he')
    rw[ho] at HC1
    clear ho
    go_wp2_with (first|((with_reducible refine z7 50 _ rfl ?_ bb (o+jj*11) [.string x.name,.int .i64 x.label,a,b,c,d,e,f,g,i,j] _ rfl HRE.o Tryz.underlying50 rfl ?_ ?_);exact wA rfl;kernel_rfl)|(go_at_call 30;refine HC1.o.mono ?_;rintro e' w4 ⟨rfl,hb4⟩;have HB4:=I hb4;clear hb4))
    go_ret
    exact⟨by rw[HR.o];try rfl,HBK.o.trans (HB4.o.mono HBK.o.size)⟩
   |false=>
    have HNX:Hid (∀ k,k < jj+1->∀ e,E[k]?= some e->z1y s e= false):=I fun k hk e' he'=>by
     by_cases ek:k= jj
     ·subst ek
      have:=HE.o
      rw[he'] at this
      injection this with this
      rw[this];exact ho
     ·exact HNO.o k (by omega) e' he'
    rw[ho] at HC1
    clear ho
    go_wp2_with (first|((with_reducible refine z7 50 _ rfl ?_ bb (o+jj*11) [.string x.name,.int .i64 x.label,a,b,c,d,e,f,g,i,j] _ rfl HRE.o Tryz.underlying50 rfl ?_ ?_);exact wA rfl;kernel_rfl)|(go_at_call 30;refine HC1.o.mono ?_;rintro e' w4 ⟨rfl,hb4⟩;have HB4:=I hb4;clear hb4))
    go_roundg q
    case measure=>omega
    case rel=>exact⟨jj+1,by omega,by go_num,HBK.o.trans (HB4.o.mono HBK.o.size),HNX.o⟩
end
section
open Go Go.RowKit
mutual
def visE:ET->Nat->List ByteArray
 | .mk k s v ns its,n=>(if k= 2 then[s] else[]) ++ visEL its (n+1)
def visEL:List ET->Nat->List ByteArray
 |[],_=>[]
 |a::l,n=>if 500<=n then[] else visE a n ++ visEL l (cntE a n)
end
theorem z6j {l:List ET} {j n:Nat} {x:ET} (h:l[j]?= some x):visEL (l.drop j) n= if 500<=n then[] else visE x n ++ visEL (l.drop (j+1)) (cntE x n):=by
 rw[z3j h,visEL]
theorem z70 {l:List ET} {n:Nat}:visEL (l.drop l.length) n=[]:=by
 rw[List.drop_eq_nil_of_le (Nat.le_refl _),visEL]
theorem z7I {l:List ET} {n:Nat} (h:500<=n):visEL l n=[]:=by
 cases l with
 |nil=>rw[visEL]
 |cons a l=>rw[visEL,if_pos h]
end
section
open Go Go.RowKit
def labOf (E:List VarT) (s:List UInt8):Option Int:=(E.find? fun x=>x.name.toList ==s).map (·.label)
def labsV (E:List VarT) (ok:Int->Bool):List (List UInt8)->List Int × Int
 |[]=>([],0)
 |s::r=>match labOf E s with
  |none=>([],11)
  |some a=>if ok a= true then(a::(labsV E ok r).1,(labsV E ok r).2) else([],3)
theorem z6n {E:List VarT} {s:ByteArray}:(findV E s= -1/\labOf E s.toList= none)\/(∃ (j:Nat) (x:VarT),findV E s=(j:Int)/\E[j]?= some x/\labOf E s.toList= some x.label):=by
 induction E with
 |nil=>exact Or.inl ⟨rfl,rfl⟩
 |cons a l ih=>
  unfold findV labOf
  cases h:z1y s a with
  |true=>
   refine Or.inr ⟨0,a,by rw[if_pos rfl];rfl,rfl,?_⟩
   rw[List.find?_cons_of_pos (by exact h)]
   rfl
  |false=>
   have hf:(a::l).find? (fun x=>x.name.toList ==s.toList)= l.find? (fun x=>x.name.toList ==s.toList):=List.find?_cons_of_neg (by
    have:(a.name.toList ==s.toList)= false:=h
    rw[this];decide)
   rw[hf,if_neg (by decide)]
   rcases ih with ⟨h1,h2⟩|⟨j,x,h1,h2,h3⟩
   ·exact Or.inl ⟨by rw[if_pos h1],h2⟩
   ·exact Or.inr ⟨j+1,x,by rw[h1,if_neg (by omega)];omega,by simpa using h2,h3⟩
end
section
open Go Go.RowKit
def dvalN (L:List UInt8) (i:Nat):Nat->Nat
 |0=>0
 |n+1=>10*dvalN L i n+ ((L[i+n]?.getD 48).toNat - 48)
theorem z5b {c:UInt8} (h:zR c= true):48<=c.toNat/\c.toNat<=57:=by
 unfold zR at h
 simp only[Bool.and_eq_true,decide_eq_true_eq] at h
 omega
theorem z9c {L:List UInt8} {i e:Nat} (h:z0h zR L i e):∀ n,i+n<=e->dvalN L i n < 10 ^ n
 |0,_=>by simp[dvalN]
 |n+1,hn=>by
  have ih:=z9c h n (by omega)
  obtain⟨c,hc,hd⟩:=h (i+n) (by omega) (by omega)
  have h2:=z5b hd
  unfold dvalN
  rw[hc,Nat.pow_succ]
  show 10*_+ (c.toNat - 48) < _
  omega
theorem z38 {L:List UInt8} {i e:Nat} (h:z0h zR L i e) {n:Nat} (hn:i+n<=e) (h18:n<=18):dvalN L i n < 1000000000000000000:=
 Nat.lt_of_lt_of_le (z9c h n hn) (by rw[show(1000000000000000000:Nat)= 10 ^ 18 from rfl];exact Nat.pow_le_pow_right (by omega) h18)
theorem zcU (s:ByteArray) (i e:Nat) (hie:i < e) (h18:e<=i+19) (hv63:dvalN s.data.toList i (e - i) < 9223372036854775808) (he:e<=s.size) (hsz:(s.size:Int)<=2000) (hc:z0h zR s.data.toList i e) (hs:z1J (fun c=>zR c ||(c.toNat:Int) ==112) s.data.toList e) (w:World):
  Calls Tryz.prog 158 #[.string s,.agg #[.int .i64 1,.int .i64 (i:Nat),.int .i64 (i:Nat),.int .i64 0,.float .f64 0,.string ⟨#[]⟩]] w fun r w'=>
   r= .returned (.tuple #[.agg #[.int .i64 2,.int .i64 (i:Nat),.int .i64 (e:Nat),.int .i64 (dvalN s.data.toList i (e - i):Nat),.float .f64 0,.string ⟨#[]⟩],.int .i64 0])/\Below w.heap.size w w':=by
 have HC:=I hc
 have HS:Hid (z1J zR s.data.toList e):=I fun c h=>by have:=hs c h;cases hd:zR c<;>simp_all
 have HL:Hid (s.data.toList.length= s.size):=I (by cases s;rfl)
 have HE:=I he
 have HR:=I (fun w=>zbQ s i e (by omega) he hsz hc HS.o w)
 have HIE:=I hie
 have H18:=I h18
 have HP:Hid (∀ c,s.data.toList[e]?= some c->((c.toNat:Int) ==112)= false):=I fun c h=>by have:=hs c h;cases hd:((c.toNat:Int) ==112)<;>simp_all
 have hsf:∀ (W:World) (a:Addr),(store a (.float .f64 0)).run Tryz.prog W= stored Tryz.prog W a (.float .f64 0) .plain:=fun W a=>run_store _ _ _ _ _ rfl
 have hwr:wrap64 ((e:Int) - (i:Int))=(e:Int) - (i:Int):=by unfold wrap64;omega
 have h19: ¬ ((e:Int) - (i:Int) > 19):=by omega
 have HV:=I hv63
 clear hc hs he hie hv63
 have key:∃ b:Bool,True:=⟨true,trivial⟩
 by_cases hend:e < s.size
 ·obtain⟨c,hc⟩:∃ c,s.data.toList[e]?= some c:=⟨_,List.getElem?_eq_getElem (by rw[HL.o];exact hend)⟩
  have dk:=fun h=>z0b (k:=e) (c:=c) hc h
  have hp:=HP.o c hc
  have hlt:(e:Int) <(s.size:Int):=by omega
  clear hc key
  go_enter Tryz.func158,Tryz.ntmps158
  go_upto_region 2 with (go_at_call 194;refine(HR.o _).mono ?_;rintro r z ⟨rfl,rfl⟩)
  go_upto_region 19 with (fail)
  go_loopg [10,11] (e - i) (fun q x y u=>∃ k:Nat,k<=e/\k+q= e/\i<=k/\x= .int .u64 (dvalN s.data.toList i (k - i):Nat)/\y= .int .i64 (k:Nat)/\u=(w.alloc (.cells #[.int .i64 2,.int .i64 (i:Nat),.int .i64 (e:Nat),.int .i64 0,.float .f64 0,.string ⟨#[]⟩] 165)).alloc (.cells #[.int .i64 0,.int .i64 0,.int .i64 0,.int .i64 0,.float .f64 0,.string ⟨#[]⟩] 165))
  case atStart=>exact⟨i,(by have:=HIE.o;omega),(by have:=HIE.o;omega),Nat.le_refl _,(by rw[Nat.sub_self];rfl),rfl,rfl⟩
  case round=>
   obtain⟨k,hke,hkq,hik,rfl,rfl,rfl⟩:=hrel
   cases gk with
   |zero=>
    obtain rfl:k= e:=by omega
    have hv:=HV.o
    obtain⟨v,hve⟩:∃ v,dvalN s.data.toList i (k - i)= v:=⟨_,rfl⟩
    have HVE:=I hve
    rw[hve] at hv
    rw[hve]
    clear hve
    have hge: ¬ ((v:Int)>=9223372036854775808):=by omega
    have hvw:wrap64 (v:Int)=(v:Int):=by unfold wrap64;omega
    clear hv HV
    clear hke hkq hik
    go_wp2
    (try simp only[Exit.inBlock,Exit.then])
    refine bodyPost_ret (z0q rfl _ _ (w.heap.size+1) #[.int .i64 2,.int .i64 (i:Nat),.int .i64 (k:Nat),.int .i64 (v:Nat),.float .f64 0,.string ⟨#[]⟩] rfl (.int .i64 0) rfl (heap_alloc2_new w _ _) rfl) rfl ?_
    exact⟨by rw[HVE.o],z0p w _ _⟩
   |succ q=>
    have he:=HE.o
    have h18:=H18.o
    obtain⟨c2,hc2,hd2⟩:=HC.o k hik (by omega)
    have dk2:=fun h=>z0b (k:=k) (c:=c2) hc2 h
    have hdig:=z5b hd2
    have hv:=z38 HC.o (n:=k - i) (by omega) (by omega)
    have hnext:Hid (((dvalN s.data.toList i (k+1 - i):Nat):Int)=(dvalN s.data.toList i (k - i):Nat) *10+ ((c2.toNat:Int) - 48)):=I (by
     rw[show k+1 - i=(k - i)+1 by omega]
     show((10*dvalN s.data.toList i (k - i)+ ((s.data.toList[i+ (k - i)]?.getD 48).toNat - 48):Nat):Int)= _
     rw[show i+ (k - i)= k by omega,hc2]
     show((10*dvalN s.data.toList i (k - i)+ (c2.toNat - 48):Nat):Int)= _
     omega)
    generalize dvalN s.data.toList i (k - i)= v at*
    have hlt2:(k:Int) <(e:Int):=by omega
    have hlt3:(k:Int) <(s.size:Int):=by omega
    clear hc2 hd2
    go_wp2
    go_roundg q
    case measure=>omega
    case rel=>exact⟨k+1,by omega,by omega,by omega,(by rw[hnext.o]),by go_num,rfl⟩
 ·have hlt: ¬ ((e:Int) <(s.size:Int)):=by omega
  clear key
  go_enter Tryz.func158,Tryz.ntmps158
  go_upto_region 2 with (go_at_call 194;refine(HR.o _).mono ?_;rintro r z ⟨rfl,rfl⟩)
  go_upto_region 19 with (fail)
  go_loopg [10,11] (e - i) (fun q x y u=>∃ k:Nat,k<=e/\k+q= e/\i<=k/\x= .int .u64 (dvalN s.data.toList i (k - i):Nat)/\y= .int .i64 (k:Nat)/\u=(w.alloc (.cells #[.int .i64 2,.int .i64 (i:Nat),.int .i64 (e:Nat),.int .i64 0,.float .f64 0,.string ⟨#[]⟩] 165)).alloc (.cells #[.int .i64 0,.int .i64 0,.int .i64 0,.int .i64 0,.float .f64 0,.string ⟨#[]⟩] 165))
  case atStart=>exact⟨i,(by have:=HIE.o;omega),(by have:=HIE.o;omega),Nat.le_refl _,(by rw[Nat.sub_self];rfl),rfl,rfl⟩
  case round=>
   obtain⟨k,hke,hkq,hik,rfl,rfl,rfl⟩:=hrel
   cases gk with
   |zero=>
    obtain rfl:k= e:=by omega
    have hv:=HV.o
    obtain⟨v,hve⟩:∃ v,dvalN s.data.toList i (k - i)= v:=⟨_,rfl⟩
    have HVE:=I hve
    rw[hve] at hv
    rw[hve]
    clear hve
    have hge: ¬ ((v:Int)>=9223372036854775808):=by omega
    have hvw:wrap64 (v:Int)=(v:Int):=by unfold wrap64;omega
    clear hv HV
    clear hke hkq hik
    go_wp2
    (try simp only[Exit.inBlock,Exit.then])
    refine bodyPost_ret (z0q rfl _ _ (w.heap.size+1) #[.int .i64 2,.int .i64 (i:Nat),.int .i64 (k:Nat),.int .i64 (v:Nat),.float .f64 0,.string ⟨#[]⟩] rfl (.int .i64 0) rfl (heap_alloc2_new w _ _) rfl) rfl ?_
    exact⟨by rw[HVE.o],z0p w _ _⟩
   |succ q=>
    have he:=HE.o
    have h18:=H18.o
    obtain⟨c2,hc2,hd2⟩:=HC.o k hik (by omega)
    have dk2:=fun h=>z0b (k:=k) (c:=c2) hc2 h
    have hdig:=z5b hd2
    have hv:=z38 HC.o (n:=k - i) (by omega) (by omega)
    have hnext:Hid (((dvalN s.data.toList i (k+1 - i):Nat):Int)=(dvalN s.data.toList i (k - i):Nat) *10+ ((c2.toNat:Int) - 48)):=I (by
     rw[show k+1 - i=(k - i)+1 by omega]
     show((10*dvalN s.data.toList i (k - i)+ ((s.data.toList[i+ (k - i)]?.getD 48).toNat - 48):Nat):Int)= _
     rw[show i+ (k - i)= k by omega,hc2]
     show((10*dvalN s.data.toList i (k - i)+ (c2.toNat - 48):Nat):Int)= _
     omega)
    generalize dvalN s.data.toList i (k - i)= v at*
    have hlt2:(k:Int) <(e:Int):=by omega
    have hlt3:(k:Int) <(s.size:Int):=by omega
    clear hc2 hd2
    go_wp2
    go_roundg q
    case measure=>omega
    case rel=>exact⟨k+1,by omega,by omega,by omega,(by rw[hnext.o]),by go_num,rfl⟩
theorem zce (s:ByteArray) (i e:Nat) (hie:i < e) (h18:e<=i+18) (he:e<=s.size) (hsz:(s.size:Int)<=2000) (hc:z0h zR s.data.toList i e) (hs:z1J (fun c=>zR c ||(c.toNat:Int) ==112) s.data.toList e) (w:World):
  Calls Tryz.prog 158 #[.string s,.agg #[.int .i64 1,.int .i64 (i:Nat),.int .i64 (i:Nat),.int .i64 0,.float .f64 0,.string ⟨#[]⟩]] w fun r w'=>
   r= .returned (.tuple #[.agg #[.int .i64 2,.int .i64 (i:Nat),.int .i64 (e:Nat),.int .i64 (dvalN s.data.toList i (e - i):Nat),.float .f64 0,.string ⟨#[]⟩],.int .i64 0])/\Below w.heap.size w w':=
 zcU s i e hie (by omega) (by have:=z38 hc (n:=e - i) (by omega) (by omega);omega) he hsz hc hs w
end
section
open Go Go.RowKit
def sigs:ByteArray:=⟨#[40,41,91,93,123,125,44,58,46,63,43,45,42,47,37,33,60]⟩
def pk (k:Nat):ByteArray:=sigs.extract k (k+1)
theorem zee (k:Nat) (hk:k < 17) (W:World):
  (Instr.sliceAt 9 (.string ⟨#[40,41,91,93,123,125,44,58,46,63,43,45,42,47,37,33,60]⟩) (some (.int .i64 (k:Nat))) (some (.int .i64 ((k:Int)+1))) none).run Tryz.prog W= .ok (.string (pk k)) W:=
 z1V sigs (pk k) k (k+1) (by omega) (by show k+1<=17;omega) rfl W
theorem zc8 (s one t2:ByteArray) (i j:Nat) (hi:i < s.size) (hsz:(s.size:Int)<=2000) (h1:s.extract i (i+1)= one) (h2:s.extract i (min (i+2) s.size)= t2)
  (n1:(t2.toList ==[61,61])= false) (n2:(t2.toList ==[60,61])= false) (n3:(t2.toList ==[38,38])= false) (n4:(t2.toList ==[124,124])= false)
  (hj:j < 17) (hno:∀ k,k < j->((pk k).toList ==one.toList)= false) (hyes:((pk j).toList ==one.toList)= true) (w:World):
  Calls Tryz.prog 162 #[.string s,.agg #[.int .i64 1,.int .i64 (i:Nat),.int .i64 (i:Nat),.int .i64 0,.float .f64 0,.string ⟨#[]⟩]] w fun r w'=>
   r= .returned (.tuple #[.agg #[.int .i64 6,.int .i64 (i:Nat),.int .i64 ((i:Int)+1),.int .i64 0,.float .f64 0,.string one],.int .i64 0])/\Below w.heap.size w w':=by
 have HN:=I hno
 have HY:=I hyes
 have HJ:=I hj
 have HPK:=I (fun k hk W=>zee k hk W)
 have hsl1:∀ W,(Instr.sliceAt 9 (.string s) (some (.int .i64 (i:Nat))) (some (.int .i64 ((i:Int)+1))) none).run Tryz.prog W= .ok (.string one) W:=fun W=>z1V s one i (i+1) (by omega) (by omega) h1 W
 have hsf:∀ (W:World) (a:Addr),(store a (.float .f64 0)).run Tryz.prog W= stored Tryz.prog W a (.float .f64 0) .plain:=fun W a=>run_store _ _ _ _ _ rfl
 by_cases h3:i+2<=s.size
 ·have hsl2:∀ W,(Instr.sliceAt 9 (.string s) (some (.int .i64 (i:Nat))) (some (.int .i64 ((i:Int)+2))) none).run Tryz.prog W= .ok (.string t2) W:=fun W=>z1V s t2 i (i+2) (by omega) (by omega) (by rw[← h2,Nat.min_eq_left h3]) W
  have hm:((i:Int)+2)<=(s.size:Int):=by omega
  clear hno hyes hj h1 h2
  go_enter Tryz.func162,Tryz.ntmps162
  go_upto_region 10 with (fail)
  go_loopg [9] j (fun q x u=>∃ k:Nat,k+q= j/\x= .int .i64 (k:Nat)/\u=(w.alloc (.cells #[.int .i64 6,.int .i64 (i:Nat),.int .i64 (i:Nat),.int .i64 0,.float .f64 0,.string ⟨#[]⟩] 165)).alloc (.cells #[.int .i64 0,.int .i64 0,.int .i64 0,.int .i64 0,.float .f64 0,.string ⟨#[]⟩] 165))
  case atStart=>exact⟨0,by omega,rfl,rfl⟩
  case round=>
   obtain⟨k,hkq,rfl,rfl⟩:=hrel
   have hj:=HJ.o
   have hpk:=fun W=>HPK.o k (by omega) W
   have hlt:(k:Int) < 17:=by omega
   cases gk with
   |zero=>
    obtain rfl:k= j:=by omega
    have hy:=HY.o
    clear hkq hj
    go_wp2
    (try simp only[Exit.inBlock,Exit.then])
    refine bodyPost_ret (z0q rfl _ _ (w.heap.size+1) #[.int .i64 6,.int .i64 (i:Nat),.int .i64 ((i:Int)+1),.int .i64 0,.float .f64 0,.string one] rfl (.int .i64 0) rfl (heap_alloc2_new w _ _) rfl) rfl ?_
    exact⟨rfl,z0p w _ _⟩
   |succ q=>
    have hn:=HN.o k (by omega)
    go_wp2
    go_roundg q
    case measure=>omega
    case rel=>exact⟨k+1,by omega,by go_num,rfl⟩
 ·have hsl2:∀ W,(Instr.sliceAt 9 (.string s) (some (.int .i64 (i:Nat))) (some (.int .i64 (s.size:Nat))) none).run Tryz.prog W= .ok (.string t2) W:=fun W=>z1V s t2 i s.size (by omega) (by omega) (by rw[← h2,Nat.min_eq_right (by omega)]) W
  have hm: ¬ (((i:Int)+2)<=(s.size:Int)):=by omega
  clear hno hyes hj h1 h2
  go_enter Tryz.func162,Tryz.ntmps162
  go_upto_region 10 with (fail)
  go_loopg [9] j (fun q x u=>∃ k:Nat,k+q= j/\x= .int .i64 (k:Nat)/\u=(w.alloc (.cells #[.int .i64 6,.int .i64 (i:Nat),.int .i64 (i:Nat),.int .i64 0,.float .f64 0,.string ⟨#[]⟩] 165)).alloc (.cells #[.int .i64 0,.int .i64 0,.int .i64 0,.int .i64 0,.float .f64 0,.string ⟨#[]⟩] 165))
  case atStart=>exact⟨0,by omega,rfl,rfl⟩
  case round=>
   obtain⟨k,hkq,rfl,rfl⟩:=hrel
   have hj:=HJ.o
   have hpk:=fun W=>HPK.o k (by omega) W
   have hlt:(k:Int) < 17:=by omega
   cases gk with
   |zero=>
    obtain rfl:k= j:=by omega
    have hy:=HY.o
    clear hkq hj
    go_wp2
    (try simp only[Exit.inBlock,Exit.then])
    refine bodyPost_ret (z0q rfl _ _ (w.heap.size+1) #[.int .i64 6,.int .i64 (i:Nat),.int .i64 ((i:Int)+1),.int .i64 0,.float .f64 0,.string one] rfl (.int .i64 0) rfl (heap_alloc2_new w _ _) rfl) rfl ?_
    exact⟨rfl,z0p w _ _⟩
   |succ q=>
    have hn:=HN.o k (by omega)
    go_wp2
    go_roundg q
    case measure=>omega
    case rel=>exact⟨k+1,by omega,by go_num,rfl⟩
end
section
open Go Go.RowKit
theorem z15 {fn:Func} {p u v:Tmp} (h:fn.results= #[.cell p 165,.tmp u,.tmp v]) (tmps:Array Value) (w:World) (g:Nat) (cs:List Value) (hs:cs.length= 6) (x y:Value)
  (hp:tmps.getD p undef= .pointer (some ⟨g,0,none⟩)) (hg:Whole 165 w g cs) (hu:tmps.getD u undef= x) (hv:tmps.getD v undef= y):(results fn tmps).run Tryz.prog w= .ok (.tuple #[.agg ⟨cs⟩,x,y]) w:=by
 have hp':tmps[p]?.getD undef= .pointer (some ⟨g,0,none⟩):=by simpa using hp
 have hu':tmps[u]?.getD undef= x:=by simpa using hu
 have hv':tmps[v]?.getD undef= y:=by simpa using hv
 have hl:=run_loadVar_mid (P:=Tryz.prog) w g 0 165 cs _ hg.range Tryz.underlying165 rfl (by rw[hs];kernel_rfl)
 simp[results,h,hp',hu',hv',asAddr,hl]
@[reducible] def z2A (w:World) (i:Nat):World:=(w.alloc (.cells #[.int .i64 0,.int .i64 0,.int .i64 0,.int .i64 0,.float .f64 0,.string ⟨#[]⟩] 165)).alloc (.cells #[.int .i64 1,.int .i64 (i:Nat),.int .i64 (i:Nat),.int .i64 0,.float .f64 0,.string ⟨#[]⟩] 165)
def LexC (f:FuncId) (s:ByteArray) (b:Nat) (t:Tok):Prop:=∀ w,Calls Tryz.prog f #[.string s,.agg #[.int .i64 1,.int .i64 (b:Nat),.int .i64 (b:Nat),.int .i64 0,.float .f64 0,.string ⟨#[]⟩]] w fun r w'=>
 r= .returned (.tuple #[.agg ⟨tokC t⟩,.int .i64 0])/\Below w.heap.size w w'
def NextC (s:ByteArray) (p:Nat) (b:Nat) (t:Tok):Prop:=∀ w,Calls Tryz.prog 122 #[.string s,.int .i64 (p:Nat)] w fun r w'=>
 r= .returned (.tuple #[.agg ⟨tokC t⟩,.int .i64 (b:Nat),.int .i64 0])/\Below w.heap.size w w'
theorem zev (s:ByteArray) (p b:Nat) (c:UInt8) (t:Tok) (hpb:p<=b) (hb:b < s.size) (hsz:(s.size:Int)<=2000) (hbl:z0h z0j s.data.toList p b) (hc:s.data.toList[b]?= some c)
  (hk0:z0j c= false) (hk1:zR c= true) (hcall:LexC 158 s b t):NextC s p b t:=fun w=>by
 have HC:=I hbl
 have HE:=I hb
 have HCC:=I hc
 have HK0:=I hk0
 have HK1:=I hk1
 have HCALL:=I hcall
 have HB:=I (fun c w=>z3P c w)
 have HD:=I (fun c w=>z2C c w)
 have hne: ¬ ((b:Int)=(s.size:Int)):=by omega
 have hp0: ¬ ((p:Int) < 0):=by omega
 have hp1: ¬ ((p:Int) >(s.size:Int)):=by omega
 have hs1: ¬ ((s.size:Int) > 2000):=by omega
 have dk:=fun h=>z0b (k:=b) (c:=c) hc h
 have hbs:(b:Int) <(s.size:Int):=by omega
 have hsf:∀ (W:World) (a:Addr),(store a (.float .f64 0)).run Tryz.prog W= stored Tryz.prog W a (.float .f64 0) .plain:=fun W a=>run_store _ _ _ _ _ rfl
 clear hbl hc hk0 hk1 hcall hb
 have HPB:=I hpb
 clear hpb
 go_enter Tryz.func122,Tryz.ntmps122
 go_upto_region 3 with (fail)
 go_loopg [1] (b - p) (fun q x u=>∃ k:Nat,k<=b/\k+q= b/\p<=k/\x= .int .i64 (k:Nat)/\u= w.alloc (.cells #[.int .i64 0,.int .i64 0,.int .i64 0,.int .i64 0,.float .f64 0,.string ⟨#[]⟩] 165))
 case atStart=>exact⟨p,(by have:=HPB.o;omega),(by have:=HPB.o;omega),Nat.le_refl _,rfl,rfl⟩
 case round=>
  obtain⟨k,hke,hkq,hik,rfl,rfl⟩:=hrel
  cases gk with
  |zero=>
   obtain rfl:k= b:=by omega
   go_upto_region 12 with (first
    |(go_at_call 156;refine(HB.o c _).mono ?_;rw[HK0.o];rintro e z ⟨rfl,rfl⟩)
    |(go_at_call 157;refine(HD.o c _).mono ?_;rw[HK1.o];rintro e z ⟨rfl,rfl⟩))
   have HR7:Hid (Whole 165 (z2A w k) (w.heap.size+1) (tokC ⟨1,k,k,0,0,⟨#[]⟩⟩)):=I (heap_alloc2_new w _ _)
   have HR4:Hid (Whole 165 (z2A w k) w.heap.size (tokC ⟨0,0,0,0,0,⟨#[]⟩⟩)):=I ((Lib.alloc_old _ _ _ (by simp)).trans (heap_alloc_new w _))
   go_wp2_with (first
    |(go_at_call 158;refine(HCALL.o _).mono ?_;rintro e z ⟨rfl,hb⟩;have HZ7:=I (HR7.o.keep (hb.block _ (by simp)));have HZ4:=I (HR4.o.keep (hb.block _ (by simp;omega)));have HZB:=I hb;clear hb)
    |((with_reducible refine zd 165 _ _ rfl rfl ?_ (w.heap.size+1) (tokC ⟨1,k,k,0,0,⟨#[]⟩⟩) (tokC t) HZ7.o ?_ ?_ ?_ ?_ ?_ ?_);exact wA rfl;rfl;rfl;rfl;kernel_rfl;exact z0D t;intro Z hz hb;have HS7:=I hz;have HSB:=I hb;have HS4:=I (HZ4.o.keep (hb.block2 HZ4.o.lt (by omega) (by omega)));clear hz hb)
    |((with_reducible refine z7 165 _ rfl ?_ (w.heap.size+1) 0 (tokC t) _ ?_ HS7.o.range Tryz.underlying165 rfl ?_ ?_);exact wA rfl;rfl;kernel_rfl)
    |((with_reducible refine zd 165 _ _ rfl rfl ?_ w.heap.size (tokC ⟨0,0,0,0,0,⟨#[]⟩⟩) (tokC t) HS4.o ?_ ?_ ?_ ?_ ?_ ?_);exact wA rfl;rfl;rfl;rfl;kernel_rfl;exact z0D t;intro Z2 hz hb;have HT4:=I hz;have HTB:=I hb;clear hz hb))
   (try simp only[Exit.inBlock,Exit.then])
   refine bodyPost_ret (z15 rfl _ _ w.heap.size (tokC t) rfl (.int .i64 (k:Nat)) (.int .i64 0) rfl HT4.o rfl rfl) rfl ?_
   have h1:=z0p w (.cells (tokC ⟨0,0,0,0,0,⟨#[]⟩⟩).toArray 165) (.cells (tokC ⟨1,k,k,0,0,⟨#[]⟩⟩).toArray 165)
   have h2:Below w.heap.size _ z:=HZB.o.mono (by simp;omega)
   have h12:=h1.trans h2
   have h3:=HSB.o.below (B:=w.heap.size) h12.size (by omega) (by omega)
   have h4:=HTB.o.below (B:=w.heap.size) (Nat.le_trans h12.size h3.size) (Nat.le_refl _) (Nat.le_refl _)
   exact⟨rfl,(h12.trans h3).trans h4⟩
  |succ q=>
   have he:=HE.o
   obtain⟨c2,hc2,hd2⟩:=HC.o k hik (by omega)
   have dk2:=fun h=>z0b (k:=k) (c:=c2) hc2 h
   have HB2:=I hd2
   have hlt:(k:Int) <(s.size:Int):=by omega
   clear hc2 hd2
   go_wp2_with (go_at_call 156;refine(HB.o c2 _).mono ?_;rw[HB2.o];rintro e z ⟨rfl,rfl⟩)
   go_roundg q
   case measure=>omega
   case rel=>exact⟨k+1,by omega,by omega,by omega,by go_num,rfl⟩
theorem zcD (s:ByteArray) (p b:Nat) (c:UInt8) (t:Tok) (hpb:p<=b) (hb:b < s.size) (hsz:(s.size:Int)<=2000) (hbl:z0h z0j s.data.toList p b) (hc:s.data.toList[b]?= some c)
  (hk0:z0j c= false) (hk1:zR c= false) (hk2:z19 c= true) (hcall:LexC 160 s b t):NextC s p b t:=fun w=>by
 have HC:=I hbl
 have HE:=I hb
 have HCC:=I hc
 have HK0:=I hk0
 have HK1:=I hk1
 have HK2:=I hk2
 have HLE:=I (fun c w=>z58 c w)
 have HCALL:=I hcall
 have HB:=I (fun c w=>z3P c w)
 have HD:=I (fun c w=>z2C c w)
 have hne: ¬ ((b:Int)=(s.size:Int)):=by omega
 have hp0: ¬ ((p:Int) < 0):=by omega
 have hp1: ¬ ((p:Int) >(s.size:Int)):=by omega
 have hs1: ¬ ((s.size:Int) > 2000):=by omega
 have dk:=fun h=>z0b (k:=b) (c:=c) hc h
 have hbs:(b:Int) <(s.size:Int):=by omega
 have hsf:∀ (W:World) (a:Addr),(store a (.float .f64 0)).run Tryz.prog W= stored Tryz.prog W a (.float .f64 0) .plain:=fun W a=>run_store _ _ _ _ _ rfl
 clear hbl hc hk0 hk1 hk2 hcall hb
 have HPB:=I hpb
 clear hpb
 go_enter Tryz.func122,Tryz.ntmps122
 go_upto_region 3 with (fail)
 go_loopg [1] (b - p) (fun q x u=>∃ k:Nat,k<=b/\k+q= b/\p<=k/\x= .int .i64 (k:Nat)/\u= w.alloc (.cells #[.int .i64 0,.int .i64 0,.int .i64 0,.int .i64 0,.float .f64 0,.string ⟨#[]⟩] 165))
 case atStart=>exact⟨p,(by have:=HPB.o;omega),(by have:=HPB.o;omega),Nat.le_refl _,rfl,rfl⟩
 case round=>
  obtain⟨k,hke,hkq,hik,rfl,rfl⟩:=hrel
  cases gk with
  |zero=>
   obtain rfl:k= b:=by omega
   go_upto_region 14 with (first
    |(go_at_call 156;refine(HB.o c _).mono ?_;rw[HK0.o];rintro e z ⟨rfl,rfl⟩)
    |(go_at_call 157;refine(HD.o c _).mono ?_;rw[HK1.o];rintro e z ⟨rfl,rfl⟩)
    |(go_at_call 159;refine(HLE.o c _).mono ?_;rw[HK2.o];rintro e z ⟨rfl,rfl⟩))
   have HR7:Hid (Whole 165 (z2A w k) (w.heap.size+1) (tokC ⟨1,k,k,0,0,⟨#[]⟩⟩)):=I (heap_alloc2_new w _ _)
   have HR4:Hid (Whole 165 (z2A w k) w.heap.size (tokC ⟨0,0,0,0,0,⟨#[]⟩⟩)):=I ((Lib.alloc_old _ _ _ (by simp)).trans (heap_alloc_new w _))
   go_wp2_with (first
    |(go_at_call 160;refine(HCALL.o _).mono ?_;rintro e z ⟨rfl,hb⟩;have HZ7:=I (HR7.o.keep (hb.block _ (by simp)));have HZ4:=I (HR4.o.keep (hb.block _ (by simp;omega)));have HZB:=I hb;clear hb)
    |((with_reducible refine zd 165 _ _ rfl rfl ?_ (w.heap.size+1) (tokC ⟨1,k,k,0,0,⟨#[]⟩⟩) (tokC t) HZ7.o ?_ ?_ ?_ ?_ ?_ ?_);exact wA rfl;rfl;rfl;rfl;kernel_rfl;exact z0D t;intro Z hz hb;have HS7:=I hz;have HSB:=I hb;have HS4:=I (HZ4.o.keep (hb.block2 HZ4.o.lt (by omega) (by omega)));clear hz hb)
    |((with_reducible refine z7 165 _ rfl ?_ (w.heap.size+1) 0 (tokC t) _ ?_ HS7.o.range Tryz.underlying165 rfl ?_ ?_);exact wA rfl;rfl;kernel_rfl)
    |((with_reducible refine zd 165 _ _ rfl rfl ?_ w.heap.size (tokC ⟨0,0,0,0,0,⟨#[]⟩⟩) (tokC t) HS4.o ?_ ?_ ?_ ?_ ?_ ?_);exact wA rfl;rfl;rfl;rfl;kernel_rfl;exact z0D t;intro Z2 hz hb;have HT4:=I hz;have HTB:=I hb;clear hz hb))
   (try simp only[Exit.inBlock,Exit.then])
   refine bodyPost_ret (z15 rfl _ _ w.heap.size (tokC t) rfl (.int .i64 (k:Nat)) (.int .i64 0) rfl HT4.o rfl rfl) rfl ?_
   have h1:=z0p w (.cells (tokC ⟨0,0,0,0,0,⟨#[]⟩⟩).toArray 165) (.cells (tokC ⟨1,k,k,0,0,⟨#[]⟩⟩).toArray 165)
   have h2:Below w.heap.size _ z:=HZB.o.mono (by simp;omega)
   have h12:=h1.trans h2
   have h3:=HSB.o.below (B:=w.heap.size) h12.size (by omega) (by omega)
   have h4:=HTB.o.below (B:=w.heap.size) (Nat.le_trans h12.size h3.size) (Nat.le_refl _) (Nat.le_refl _)
   exact⟨rfl,(h12.trans h3).trans h4⟩
  |succ q=>
   have he:=HE.o
   obtain⟨c2,hc2,hd2⟩:=HC.o k hik (by omega)
   have dk2:=fun h=>z0b (k:=k) (c:=c2) hc2 h
   have HB2:=I hd2
   have hlt:(k:Int) <(s.size:Int):=by omega
   clear hc2 hd2
   go_wp2_with (go_at_call 156;refine(HB.o c2 _).mono ?_;rw[HB2.o];rintro e z ⟨rfl,rfl⟩)
   go_roundg q
   case measure=>omega
   case rel=>exact⟨k+1,by omega,by omega,by omega,by go_num,rfl⟩
theorem zdv (s:ByteArray) (p b:Nat) (c:UInt8) (t:Tok) (hpb:p<=b) (hb:b < s.size) (hsz:(s.size:Int)<=2000) (hbl:z0h z0j s.data.toList p b) (hc:s.data.toList[b]?= some c)
  (hk0:z0j c= false) (hk1:zR c= false) (hk2:z19 c= false) (hk3:((c.toNat:Int) ==34)= false) (hcall:LexC 162 s b t):NextC s p b t:=fun w=>by
 have HC:=I hbl
 have HE:=I hb
 have HCC:=I hc
 have HK0:=I hk0
 have HK1:=I hk1
 have HK2:=I hk2
 have HLE:=I (fun c w=>z58 c w)
 have HCALL:=I hcall
 have HB:=I (fun c w=>z3P c w)
 have HD:=I (fun c w=>z2C c w)
 have hne: ¬ ((b:Int)=(s.size:Int)):=by omega
 have hp0: ¬ ((p:Int) < 0):=by omega
 have hp1: ¬ ((p:Int) >(s.size:Int)):=by omega
 have hs1: ¬ ((s.size:Int) > 2000):=by omega
 have dk:=fun h=>z0b (k:=b) (c:=c) hc h
 have hbs:(b:Int) <(s.size:Int):=by omega
 have hsf:∀ (W:World) (a:Addr),(store a (.float .f64 0)).run Tryz.prog W= stored Tryz.prog W a (.float .f64 0) .plain:=fun W a=>run_store _ _ _ _ _ rfl
 clear hbl hc hk0 hk1 hk2 hcall hb
 have HPB:=I hpb
 clear hpb
 go_enter Tryz.func122,Tryz.ntmps122
 go_upto_region 3 with (fail)
 go_loopg [1] (b - p) (fun q x u=>∃ k:Nat,k<=b/\k+q= b/\p<=k/\x= .int .i64 (k:Nat)/\u= w.alloc (.cells #[.int .i64 0,.int .i64 0,.int .i64 0,.int .i64 0,.float .f64 0,.string ⟨#[]⟩] 165))
 case atStart=>exact⟨p,(by have:=HPB.o;omega),(by have:=HPB.o;omega),Nat.le_refl _,rfl,rfl⟩
 case round=>
  obtain⟨k,hke,hkq,hik,rfl,rfl⟩:=hrel
  cases gk with
  |zero=>
   obtain rfl:k= b:=by omega
   go_upto_region 10 with (first
    |(go_at_call 156;refine(HB.o c _).mono ?_;rw[HK0.o];rintro e z ⟨rfl,rfl⟩)
    |(go_at_call 157;refine(HD.o c _).mono ?_;rw[HK1.o];rintro e z ⟨rfl,rfl⟩)
    |(go_at_call 159;refine(HLE.o c _).mono ?_;rw[HK2.o];rintro e z ⟨rfl,rfl⟩))
   have HR7:Hid (Whole 165 (z2A w k) (w.heap.size+1) (tokC ⟨1,k,k,0,0,⟨#[]⟩⟩)):=I (heap_alloc2_new w _ _)
   have HR4:Hid (Whole 165 (z2A w k) w.heap.size (tokC ⟨0,0,0,0,0,⟨#[]⟩⟩)):=I ((Lib.alloc_old _ _ _ (by simp)).trans (heap_alloc_new w _))
   go_wp2_with (first
    |(go_at_call 162;refine(HCALL.o _).mono ?_;rintro e z ⟨rfl,hb⟩;have HZ7:=I (HR7.o.keep (hb.block _ (by simp)));have HZ4:=I (HR4.o.keep (hb.block _ (by simp;omega)));have HZB:=I hb;clear hb)
    |((with_reducible refine zd 165 _ _ rfl rfl ?_ (w.heap.size+1) (tokC ⟨1,k,k,0,0,⟨#[]⟩⟩) (tokC t) HZ7.o ?_ ?_ ?_ ?_ ?_ ?_);exact wA rfl;rfl;rfl;rfl;kernel_rfl;exact z0D t;intro Z hz hb;have HS7:=I hz;have HSB:=I hb;have HS4:=I (HZ4.o.keep (hb.block2 HZ4.o.lt (by omega) (by omega)));clear hz hb)
    |((with_reducible refine z7 165 _ rfl ?_ (w.heap.size+1) 0 (tokC t) _ ?_ HS7.o.range Tryz.underlying165 rfl ?_ ?_);exact wA rfl;rfl;kernel_rfl)
    |((with_reducible refine zd 165 _ _ rfl rfl ?_ w.heap.size (tokC ⟨0,0,0,0,0,⟨#[]⟩⟩) (tokC t) HS4.o ?_ ?_ ?_ ?_ ?_ ?_);exact wA rfl;rfl;rfl;rfl;kernel_rfl;exact z0D t;intro Z2 hz hb;have HT4:=I hz;have HTB:=I hb;clear hz hb))
   (try simp only[Exit.inBlock,Exit.then])
   refine bodyPost_ret (z15 rfl _ _ w.heap.size (tokC t) rfl (.int .i64 (k:Nat)) (.int .i64 0) rfl HT4.o rfl rfl) rfl ?_
   have h1:=z0p w (.cells (tokC ⟨0,0,0,0,0,⟨#[]⟩⟩).toArray 165) (.cells (tokC ⟨1,k,k,0,0,⟨#[]⟩⟩).toArray 165)
   have h2:Below w.heap.size _ z:=HZB.o.mono (by simp;omega)
   have h12:=h1.trans h2
   have h3:=HSB.o.below (B:=w.heap.size) h12.size (by omega) (by omega)
   have h4:=HTB.o.below (B:=w.heap.size) (Nat.le_trans h12.size h3.size) (Nat.le_refl _) (Nat.le_refl _)
   exact⟨rfl,(h12.trans h3).trans h4⟩
  |succ q=>
   have he:=HE.o
   obtain⟨c2,hc2,hd2⟩:=HC.o k hik (by omega)
   have dk2:=fun h=>z0b (k:=k) (c:=c2) hc2 h
   have HB2:=I hd2
   have hlt:(k:Int) <(s.size:Int):=by omega
   clear hc2 hd2
   go_wp2_with (go_at_call 156;refine(HB.o c2 _).mono ?_;rw[HB2.o];rintro e z ⟨rfl,rfl⟩)
   go_roundg q
   case measure=>omega
   case rel=>exact⟨k+1,by omega,by omega,by omega,by go_num,rfl⟩
theorem zdY (s:ByteArray) (p:Nat) (hpb:p<=s.size) (hsz:(s.size:Int)<=2000) (hbl:z0h z0j s.data.toList p s.size):NextC s p s.size ⟨1,s.size,s.size,0,0,⟨#[]⟩⟩:=fun w=>by
 obtain⟨b,hb⟩:∃ b,s.size= b:=⟨_,rfl⟩
 have HC:=I hbl
 have HE:=I hb
 have HB:=I (fun c w=>z3P c w)
 have hp0: ¬ ((p:Int) < 0):=by omega
 have hp1: ¬ ((p:Int) >(s.size:Int)):=by omega
 have hs1: ¬ ((s.size:Int) > 2000):=by omega
 have hsf:∀ (W:World) (a:Addr),(store a (.float .f64 0)).run Tryz.prog W= stored Tryz.prog W a (.float .f64 0) .plain:=fun W a=>run_store _ _ _ _ _ rfl
 have HPB:=I hpb
 clear hbl hb hpb
 go_enter Tryz.func122,Tryz.ntmps122
 go_upto_region 3 with (fail)
 go_loopg [1] (s.size - p) (fun q x u=>∃ k:Nat,k<=s.size/\k+q= s.size/\p<=k/\x= .int .i64 (k:Nat)/\u= w.alloc (.cells #[.int .i64 0,.int .i64 0,.int .i64 0,.int .i64 0,.float .f64 0,.string ⟨#[]⟩] 165))
 case atStart=>exact⟨p,(by have:=HPB.o;omega),(by have:=HPB.o;omega),Nat.le_refl _,rfl,rfl⟩
 case round=>
  obtain⟨k,hke,hkq,hik,rfl,rfl⟩:=hrel
  cases gk with
  |zero=>
   have hkk:Hid (k= s.size):=I (by omega)
   have hlt: ¬ ((k:Int) <(s.size:Int)):=by omega
   have heq:(k:Int)=(s.size:Int):=by omega
   go_wp2
   (try simp only[Exit.inBlock,Exit.then])
   refine bodyPost_ret (z15 rfl _ _ w.heap.size (tokC ⟨1,s.size,s.size,0,0,⟨#[]⟩⟩) rfl (.int .i64 (s.size:Nat)) (.int .i64 0) rfl ((Lib.alloc_old _ _ _ (by simp)).trans (heap_alloc_new w _)) rfl rfl) rfl ?_
   exact⟨rfl,z0p w _ _⟩
  |succ q=>
   obtain⟨c2,hc2,hd2⟩:=HC.o k hik (by omega)
   have dk2:=fun h=>z0b (k:=k) (c:=c2) hc2 h
   have HB2:=I hd2
   have hlt:(k:Int) <(s.size:Int):=by omega
   clear hc2 hd2
   go_wp2_with (go_at_call 156;refine(HB.o c2 _).mono ?_;rw[HB2.o];rintro e z ⟨rfl,rfl⟩)
   go_roundg q
   case measure=>omega
   case rel=>exact⟨k+1,by omega,by omega,by omega,by go_num,rfl⟩
end
section
open Go Go.RowKit
theorem z6X {α:Type} {T:TypeId} {k base:Nat} {enc:α->List Value} {w:World} {v:Value} {l:List α} (h:OwnSl T k enc w base v l) {g:Nat} (hv:v.ownBlock= some g):g < w.heap.size:=by
 rcases h.2 with ⟨rfl,_⟩|⟨g2,cap,cur,rfl,_,hg,_⟩
 ·cases hv
 ·have h2:g2= g:=by simpa [Value.ownBlock] using hv
  subst h2
  rcases Nat.lt_or_ge g2 w.heap.size with h2|h2
  ·exact h2
  ·rw[Array.getElem?_eq_none h2] at hg;cases hg
theorem z9F {α:Type} {T:TypeId} {k base:Nat} {enc:α->List Value} {w:World} {v:Value} {l:List α} (h:OwnSl T k enc w base v l):∃ A n c,v= .slice A n c:=by
 rcases h.2 with ⟨rfl,_⟩|⟨g,cap,cur,rfl,_⟩
 ·exact⟨_,_,_,rfl⟩
 ·exact⟨_,_,_,rfl⟩
theorem z9J {T:TypeId} {W2 W4:World} {zb:Nat} {cs:List Value} {v x:Value} {o:Obj} (h:Whole T W2 zb cs) (hne:∀ g,v.ownBlock= some g->g≠zb) (hg:(W2.alloc o).grownBy W4 v.ownBlock) (k:Nat) (hx:cs[k]?= some x):W4.cell? ⟨zb,k,none⟩= some x:=by
 have h1:=hg.block zb (by have:=h.lt;simp;omega) (fun he=>hne zb he.symm rfl)
 have h2:=(zc W2 o).block zb h.lt
 exact((h.keep h2).keep h1).cells k hx
inductive LexRun (s:ByteArray):Nat->List Tok->Prop
 |stop (p b:Nat) (t:Tok):NextC s p b t->t.kind= 1->LexRun s p []
 |more (p b p':Nat) (t:Tok) (ts:List Tok):NextC s p b t->t.kind≠1->t.next=(p':Int)->LexRun s p' ts->LexRun s p (t::ts)
theorem z6M (t:Tok):(tokC t).length= 6:=rfl
theorem zfw (s:ByteArray) (toks:List Tok) (h:LexRun s 0 toks) (hlen:toks.length<=2000) (w:World):Calls Tryz.prog 84 #[.string s] w fun r w'=>
  ∃ v,r= .returned (.tuple #[v,.int .i64 0,.int .i64 0])/\OwnSl 165 6 tokC w' w.heap.size v toks/\Below w.heap.size w w':=by
 obtain⟨i0,hi0,hz0,hz1,hz2⟩:=info_parts z5g
 have HI0:=I hi0
 have HZ0:=I hz0
 have HZ1:=I hz1
 have HZ2:=I hz2
 have H:=I h
 have HLEN:=I hlen
 clear hi0 hz0 hz1 hz2 h hlen
 go_enter Tryz.func84,Tryz.ntmps84
 go_upto_region 3 with (fail)
 go_loopg [5,6] toks.length (fun q x y u=>∃ (done rest:List Tok) (p:Nat),toks= done ++ rest/\rest.length= q/\OwnSl 165 6 tokC u w.heap.size x done/\y= .int .i64 (p:Nat)/\LexRun s p rest/\Below w.heap.size w u)
 case atStart=>exact⟨[],toks,0,rfl,rfl,OwnSl.nil w w.heap.size,rfl,H.o,Below.refl _ _⟩
 case round=>
  rename_i x y u
  obtain⟨done,rest,p,htk,hq,hown,rfl,hrun,hbw⟩:=hrel
  have HOWN:=I hown
  have HBW:=I hbw
  have HTK:=I htk
  obtain⟨A,n,c,rfl⟩:=z9F hown
  clear hown hbw htk
  cases hrun with
  |stop _ b t hnx hk1=>
   have HNX:=I hnx
   have hkt:(t.kind ==1)= true:=by simpa using hk1
   clear hnx hk1
   go_wp2_with (first
    |(go_at_call 122;refine(HNX.o _).mono ?_;rintro e z ⟨rfl,hb⟩;have HBZ:=I hb;clear hb)
    |((with_reducible refine z0G 165 _ _ rfl rfl ?hwe z ?zne (tokC t) ?hz1 ?hz2 ?hz3 ?hz4 ?hz5 ?hz6 ?_);(case hwe=>exact wA rfl);(case hz1=>rfl);(case hz2=>rfl);(case hz3=>rfl);(case hz4=>rfl);(case hz5=>kernel_rfl);(case hz6=>exact z0D t);intro W2 hz hb hlt;have k0:=hz.cells 0 rfl;have HX2:=I hz;have HB2:=I hb;have HLT2:=I hlt;clear hz hb hlt))
   go_ret3
   refine⟨_,rfl,?_,?_⟩
   ·have:=HTK.o
    rw[this,List.append_nil]
    exact(HOWN.o.below HBZ.o).below HB2.o
   ·exact(HBW.o.trans (HBZ.o.mono HBW.o.size)).trans (HB2.o.mono (Nat.le_trans HBW.o.size HBZ.o.size))
  |more _ b p' t ts hnx hk1 hnext hts=>
   have HNX:=I hnx
   have hkt:(t.kind ==1)= false:=by simpa using hk1
   have HNXT:=I hnext
   have HTS:=I hts
   have HT2:Hid ((tokC t)[2]?= some (.int .i64 (p':Nat))):=I (by show some (Value.int .i64 t.next)= _;rw[hnext])
   have hql:ts.length+1= gk:=hq
   have hl:Hid (done.length+1<=2000):=I (by have h1:=HLEN.o;rw[HTK.o,List.length_append,List.length_cons] at h1;omega)
   have HK1:Hid (done.length+1<=maxLen):=I (by have:=hl.o;unfold maxLen;omega)
   have HK2:Hid ((done.length+1) *56<=140737488355328):=I (by have:=hl.o;omega)
   clear hnx hk1 hnext hts hq
   go_wp2_with (first
    |(go_at_call 122;refine(HNX.o _).mono ?_;rintro e z ⟨rfl,hb⟩;have HBZ:=I hb;clear hb)
    |((with_reducible refine z0G 165 _ _ rfl rfl ?hwe z ?zne (tokC t) ?hz1 ?hz2 ?hz3 ?hz4 ?hz5 ?hz6 ?_);(case hwe=>exact wA rfl);(case hz1=>rfl);(case hz2=>rfl);(case hz3=>rfl);(case hz4=>rfl);(case hz5=>kernel_rfl);(case hz6=>exact z0D t);intro W2 hz hb hlt;have k0:=hz.cells 0 rfl;have HX2:=I hz;have HB2:=I hb;have HLT2:=I hlt;have HO2:=I ((HOWN.o.below HBZ.o).below hb);clear hz hb hlt)
    |((with_reducible refine z7 165 _ rfl ?_ z.heap.size 0 (tokC t) _ ?_ HX2.o.range Tryz.underlying165 rfl ?_ ?_);exact wA rfl;rfl;kernel_rfl)
    |((with_reducible refine z14 129 _ rfl ?_ 165 i0 _ (tokC t) ?_ Tryz.underlying129 HI0.o HZ0.o ?_ ?_ ?_ ?_);exact wA rfl;rfl;exact HZ1.o;show 0 < 6;decide;show 6<=1000;decide;have HO3:=I (HO2.o.below (zc W2 (.cells ⟨tokC t⟩ 165)));have HC3:=I (z0o W2 (tokC t) 165);have HS3:Hid (w.heap.size<=(W2.alloc (.cells ⟨tokC t⟩ 165)).heap.size):=I (by have h1:=HBW.o.size;have h2:=HBZ.o.size;have h3:=HB2.o.size;simp;omega))
    |(at_builtin;refine za1 rfl _ _ 129 rfl w.heap.size 165 i0 _ 6 56 tokC Tryz.underlying129 HI0.o HZ0.o HZ1.o HZ2.o rfl (by decide) z6M z0D _ _ rfl HO3.o W2.heap.size 1 t rfl HC3.o HK1.o HK2.o HS3.o ?_;intro v4 W4 hown4 hg4;have HO4:=I hown4;have HG4:=I hg4;have k2:=z9J HX2.o (fun g hg=>Nat.ne_of_lt (Nat.lt_of_lt_of_le (z6X HOWN.o hg) HBZ.o.size)) hg4 2 HT2.o;clear hown4 hg4))
   go_roundg ts.length
   case measure=>omega
   case rel=>
    refine⟨done ++ [t],ts,p',by rw[HTK.o,List.append_assoc];rfl,rfl,HO4.o,rfl,HTS.o,?_⟩
    have h1:=(HBW.o.trans (HBZ.o.mono HBW.o.size)).trans (HB2.o.mono (Nat.le_trans HBW.o.size HBZ.o.size))
    have h2:=h1.trans ((zc W2 (.cells ⟨tokC t⟩ 165)).mono h1.size)
    exact h2.grown HG4.o h2.size fun k hk=>HOWN.o.block hk
end
section
open Go Go.RowKit
theorem z8y {fn:Func} {p u v:Tmp} (h:fn.results= #[.cell p 30,.tmp u,.tmp v]) (tmps:Array Value) (w:World) (g:Nat) (cs:List Value) (hl:cs.length= 10) (x y:Value)
  (hp:tmps.getD p undef= .pointer (some ⟨g,0,none⟩)) (hm:Whole 30 w g cs) (hu:tmps.getD u undef= x) (hv:tmps.getD v undef= y):(results fn tmps).run Tryz.prog w= .ok (.tuple #[.agg ⟨cs⟩,x,y]) w:=by
 have hp':tmps[p]?.getD undef= .pointer (some ⟨g,0,none⟩):=by simpa using hp
 have hu':tmps[u]?.getD undef= x:=by simpa using hu
 have hv':tmps[v]?.getD undef= y:=by simpa using hv
 have hl:=run_loadVar_mid (P:=Tryz.prog) w g 0 30 cs _ hm.range Tryz.underlying30 rfl (by rw[hl];kernel_rfl)
 simp[results,h,hp',hu',hv',asAddr,hl]
theorem zfq {w:World} {base:Nat} {v:Value} {toks:List Tok} (h:OwnSl 165 6 tokC w base v toks) (h0:0 < toks.length):
  ∃ tb c,v= .slice (some ⟨tb,0,none⟩) toks.length c/\base<=tb/\tb < w.heap.size/\∀ (j:Nat) t,toks[j]?= some t->w.rangeAt tb (j*6) (tokC t):=by
 have hat:=h.at z6M
 rcases h.2 with ⟨rfl,h1⟩|⟨g,cap,cur,rfl,hb,hg,_⟩
 ·omega
 ·have hlt:=z6X h (g:=g) rfl
  refine⟨g,cap,rfl,hb,hlt,fun j t ht a u hu=> ?_⟩
  have:=World.ownsRow.cells h (g:=g) rfl (j*6+a) u (z0Q z6M toks j t ht a u hu)
  rw[Addr.add_mid] at this
  rw[show j*6+a= 0+ (j*6+a) by omega];exact this
theorem zeB (s:ByteArray) (toks:List Tok) (t:ET) (h:Nat) (hsz:(s.size:Int)<=2000) (hlex:LexRun s 0 toks) (hlen:toks.length<=2000) (hne:0 < toks.length)
  (hp:∀ pb tb c,PCon pb tb c (s.size:Int) toks 85 0 toks.length h t) (hh:h<=100)
  (hr:∀ cs w,ExpAt w w.heap.size cs t->Calls Tryz.prog 19 #[.agg ⟨cs⟩] w fun e w'=>e= .returned (.bool true)/\Below w.heap.size w w') (w:World):
  Calls Tryz.prog 49 #[.string s] w fun e w'=>∃ cs,e= .returned (.tuple #[.agg ⟨cs⟩,.int .i64 0,.int .i64 0])/\KeptP (fun b=>w.heap.size<=b) w' cs t/\Below w.heap.size w w':=by
 have HLX:=I (fun w=>zfw s toks hlex hlen w)
 have HP:=I hp
 have HR:=I hr
 have HH:=I hh
 have HNE:=I hne
 have HLEN:=I hlen
 have hs1: ¬ ((s.size:Int) > 2000):=by omega
 clear hlex hlen hne hp hh hr
 go_enter Tryz.func49,Tryz.ntmps49
 go_upto_region 1 with (fail)
 have HR0:=I (Whole.new w zEc 30)
 have HB0:=I (zc w (.cells zEc.toArray 30))
 have hz:=z0C
 rw[hz]
 clear hz
 have HRW:Hid (w.heap.size <(w.alloc (.cells zEc.toArray 30)).heap.size):=I (by simp)
 generalize w.alloc (.cells zEc.toArray 30)= W at*
 obtain⟨p,hp⟩:∃ p,w.heap.size= p:=⟨_,rfl⟩
 rw[hp] at HR0 HRW
 rw[hp]
 have HPP:=I hp
 clear hp
 go_upto_region 4 with (go_at_call 84;refine(HLX.o _).mono ?_;rintro e w1 ⟨v,rfl,hown,hb1⟩;obtain⟨tb,c,hv,htb,htl,htok⟩:=zfq hown HNE.o;subst hv;have HTB:=I htb;have HTL:=I htl;have HTOK:=I htok;have HB1:=I hb1;clear hown htb htl htok hb1)
 go_upto_region 7 with (fail)
 have HPS:Hid (PSt w1.heap.size tb c (s.size:Int) toks (w1.alloc (.cells #[.slice (some ⟨tb,0,none⟩) toks.length c,.int .i64 0,.int .i64 (s.size:Nat),.int .i64 0,.int .i64 0,.int .i64 0] 134)) 0 0):=I
  ⟨heap_alloc_new _ _,by have:=HTL.o;omega,⟨by have:=HTL.o;simp;omega,by simp⟩,fun j t ht=>za (HTOK.o j t ht) (zc w1 _) HTL.o,by have:=HLEN.o;omega⟩
 have HB2:Hid (Below w1.heap.size w1 (w1.alloc (.cells #[.slice (some ⟨tb,0,none⟩) toks.length c,.int .i64 0,.int .i64 (s.size:Nat),.int .i64 0,.int .i64 0,.int .i64 0] 134))):=I (zc w1 _)
 have HS2:Hid (w1.heap.size <(w1.alloc (.cells #[.slice (some ⟨tb,0,none⟩) toks.length c,.int .i64 0,.int .i64 (s.size:Nat),.int .i64 0,.int .i64 0,.int .i64 0] 134)).heap.size):=I (by simp)
 generalize w1.alloc (.cells #[.slice (some ⟨tb,0,none⟩) toks.length c,.int .i64 0,.int .i64 (s.size:Nat),.int .i64 0,.int .i64 0,.int .i64 0] 134)= w2 at*
 obtain⟨pb,hpb⟩:∃ pb,w1.heap.size= pb:=⟨_,rfl⟩
 rw[hpb] at HPS
 rw[hpb]
 have HPB:=I hpb
 clear hpb
 have HCE:=I (HP.o pb tb c w2 0 HPS.o (Int.le_refl _) (by have:=HH.o;omega))
 go_upto_region 8 with (first
  |(go_at_call 85;refine HCE.o.mono ?_;rintro e w3 ⟨cs,rfl,hk,hps,hbut⟩;have HK:=I hk;have HPS3:=I hps;have HBT:=I hbut;have HCL:=I hk.len;clear hk hps hbut)
  |((with_reducible refine z0G 30 _ _ rfl rfl ?hwe w3 ?zne cs ?hz1 ?hz2 ?hz3 ?hz4 ?hz5 ?hz6 ?_);(case hwe=>exact wA rfl);(case hz1=>rfl);(case hz2=>rw[HCL.o];rfl);(case hz3=>rfl);(case hz4=>rfl);(case hz5=>rw[HCL.o];kernel_rfl);(case hz6=>exact HK.o.one);intro w4 hz hb hlt;have HX4:=I hz;have HB4:=I hb;have HLT4:=I hlt;clear hz hb hlt))
 have HPS4:=I (HPS3.o.keep HB4.o)
 have HK4:=I (HK.o.to (q:=fun b=>w2.heap.size<=b) (fun b hp hlt=>⟨hp,HB4.o.block b hlt⟩) HB4.o.size)
 have HCR:=I (HR.o cs w4 HK4.o.exp)
 have d1:=HPS4.o.cell 1
 have d3:=HPS4.o.cell 3
 simp only[List.getElem?_toArray,List.getElem?_cons_succ,List.getElem?_cons_zero] at d1 d3
 go_upto_region 12 with (first
  |((with_reducible refine z7 30 _ rfl ?_ w3.heap.size 0 cs _ ?_ HX4.o.range Tryz.underlying30 rfl ?_ ?_);exact wA rfl;rfl;rw[HCL.o];kernel_rfl)
  |(go_at_call 19;refine HCR.o.mono ?_;rintro e w5 ⟨rfl,hb⟩;have HB5:=I hb;clear hb))
 clear d1 d3
 have HPS5:=I (HPS4.o.keep HB5.o)
 have HX5:=I (HX4.o.keep (HB5.o.block _ HX4.o.lt))
 have HK5:=I (HK4.o.to (q:=fun b=>w2.heap.size<=b) (fun b hp hlt=>⟨hp,HB5.o.block b hlt⟩) HB5.o.size)
 have d3:=HPS5.o.cell 3
 simp only[List.getElem?_toArray,List.getElem?_cons_succ,List.getElem?_cons_zero] at d3
 have HP1:=I (HR0.o.keep (HB1.o.block p HRW.o))
 have HP2:=I (HP1.o.keep (HB2.o.block p (by have:=HP1.o.lt;have:=HPB.o;omega)))
 have HPNE:Hid (p≠pb):=I (by have:=HP1.o.lt;have:=HPB.o;omega)
 have HP3:=I (HP2.o.keep (HBT.o.block p HP2.o.lt HPNE.o HPNE.o))
 have HP4:=I (HP3.o.keep (HB4.o.block p HP3.o.lt))
 have HP5:=I (HP4.o.keep (HB5.o.block p HP4.o.lt))
 go_wp2_with (first
  |((with_reducible refine z7 30 _ rfl ?_ w3.heap.size 0 cs _ ?_ HX5.o.range Tryz.underlying30 rfl ?_ ?_);exact wA rfl;rfl;rw[HCL.o];kernel_rfl)
  |((with_reducible refine zd 30 _ _ rfl rfl ?_ p zEc cs HP5.o ?_ ?_ ?_ ?_ ?_ ?_);exact wA rfl;rw[HCL.o];rfl;rfl;rfl;rw[HCL.o];kernel_rfl;exact HK5.o.one;intro Z hz hb;have HZ:=I hz;have HZB:=I hb;clear hz hb))
 (try simp only[Exit.inBlock,Exit.then])
 refine bodyPost_ret (z8y rfl _ _ p cs HCL.o (.int .i64 0) (.int .i64 0) rfl HZ.o rfl rfl) rfl ?_
 have hpp:=HPP.o
 have hw1:Below w.heap.size w w1:=HB0.o.trans (HB1.o.mono HB0.o.size)
 have hw2:=hw1.trans (HB2.o.mono (by have:=hw1.size;have:=HPB.o;omega))
 have hw3:=hw2.trans (HBT.o.below (B:=w.heap.size) hw2.size (by have:=hw1.size;have:=HPB.o;omega) (by have:=hw1.size;have:=HPB.o;omega))
 have hw4:=hw3.trans (HB4.o.mono hw3.size)
 have hw5:=hw4.trans (HB5.o.mono hw4.size)
 have hw6:=hw5.trans (HZB.o.below (B:=w.heap.size) hw5.size (by omega) (by omega))
 have hk6:=HK5.o.to (q:=fun b=>w2.heap.size<=b) (w':=Z) (fun b hp hlt=>⟨hp,HZB.o.block b hlt (by have:=HP2.o.lt;omega) (by have:=HP2.o.lt;omega)⟩) HZB.o.size
 exact⟨cs,rfl,hk6.to (q:=fun b=>w.heap.size<=b) (fun b hp _=>⟨Nat.le_trans hw2.size hp,rfl⟩) (Nat.le_refl _),hw6⟩
end
end Go.Proofs.YteolfamhmfidbaaGreatDoor
