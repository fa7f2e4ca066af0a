/- Parts of a proof: ILabel. -/
import Derived.Test.YteolfamhmfidbaaGreatDoorPackJ7
import Derived.Test.YteolfamhmfidbaaGreatDoorPackJ20
import Derived.Test.YteolfamhmfidbaaGreatDoorPackJ38
import Derived.Test.YteolfamhmfidbaaGreatDoorPackJ43
import Derived.Test.YteolfamhmfidbaaGreatDoorPackJ44
set_option maxHeartbeats 8000000
set_option maxRecDepth 100000
set_option linter.unusedVariables false
set_option linter.unusedSimpArgs false
namespace Go.Proofs.YteolfamhmfidbaaGreatDoor
open Go Go.RowKit P
theorem z9x {α:Type} {T:TypeId} {k B base:Nat} {enc:α->List Value} {w0 w w':World} {v:Value} {l:List α} (h:Below B w0 w) (hB:B<=w.heap.size) (hown:OwnSl T k enc w base v l) (hbase:B<=base) (hg:w.grownBy w' v.ownBlock):Below B w0 w':=
 h.grown hg hB fun j hj=>Nat.le_trans hbase (hown.block hj)
theorem zcl:(Tryz.prog.info? 3).map (fun i=>(i.zero,i.size,i.bytes))= some (some (.int .i64 0),1,8):=by kernel_rfl
theorem z6R (i:Int):(encI i).length= 1:=rfl
theorem zbM (i:Int):∀ u∈encI i,u.oneCell'= true:=by
 intro u hu
 simp only[encI,List.mem_cons,List.not_mem_nil,or_false] at hu
 subst hu;rfl
theorem z4h {w:World} {base:Nat} {e:TypeId} {size n:Nat} {v:Value} {xs:List Value} (h:w.ownsRow base e size v n xs):∃ A c,v= .slice A n c:=by
 rcases h.2 with ⟨h1,h2⟩|⟨g,c,cu,h1,_⟩
 ·exact⟨none,0,by rw[h1,h2]⟩
 ·exact⟨_,_,h1⟩
theorem z5Q {w:World} {base n:Nat} {A:Option Addr} {c:Nat} {l:List (List UInt8)} (h:w.ownsRow base 9 1 (.slice A n c) n (l.map encStr)) (hn:0 < n):
  ∃ g,A= some ⟨g,0,none⟩/\g < w.heap.size/\∀ (j:Nat) s,l[j]?= some s->w.cell? ⟨g,j,none⟩= some (.string ⟨s.toArray⟩):=by
 obtain⟨g,c',hv,_,_,hlt,hc⟩:=zem h hn
 injection hv with hv
 refine⟨g,hv,hlt,fun j s hs=> ?_⟩
 have:=hc j (encStr s) (by rw[List.getElem?_map,hs];rfl)
 rw[Addr.add_mid,Nat.zero_add] at this
 exact this
theorem zdu {w:World} {base:Nat} {v:Value} {l:List Int} (h:OwnSl 3 1 encI w base v l) (hl:l.length<=9223372036854775807):IntsAt w w.heap.size v l:=by
 obtain⟨_,A,c,rfl,hA⟩:=h.at z6R hl
 refine⟨hl,A,c,rfl,fun h0=> ?_⟩
 obtain⟨b,o,rfl,hb,hc⟩:=hA h0
 refine⟨b,o,rfl,hb,fun i x hx=> ?_⟩
 obtain⟨cs,_,hr,he⟩:=hc i x hx
 have:=hr 0 (.int .i64 x) (by rw[he];rfl)
 simpa using this
theorem z8F (s:List UInt8):∀ l:List (List UInt8),(putL l s).length<=l.length+1
 |[]=>by simp[putL]
 |a::l=>by
  have:=z8F s l
  unfold putL
  split
  ·simp;omega
  ·split<;>simp
theorem z6D:∀ (xs l:List (List UInt8)),(xs.foldl putL l).length<=l.length+xs.length
 |[],l=>by simp
 |s::xs,l=>by
  have h1:=z6D xs (putL l s)
  have h2:=z8F s l
  simp only[List.foldl_cons,List.length_cons];omega
theorem zcF (t:ET):(readL t).length<=500:=by
 unfold readL
 have h1:=z6D ((visE t 0).map fun s=>s.data.toList) []
 have h2:=zeG t 0 (by omega)
 have h3:=z1i t 0 (by omega)
 rw[List.length_map] at h1
 simp at h1;omega
theorem zer {n:Nat} {L:Rel} (h:Lat n L) (a:Int):lqI n L a a= isL n a:=by
 unfold lqI
 cases e:isL n a with
 |false=>rfl
 |true=>
  obtain⟨y,rfl,hy⟩:=z0G e
  simp[h.refl y (by simpa using hy)]
theorem zaB {E:List VarT} {ok:Int->Bool} {l:List (List UInt8)} {j:Nat} {s:List UInt8} {ls:List Int} (h:l[j]?= some s) (a:Int) (ha:labOf E s= some a) (hok:ok a= true)
  (hr:labsV E ok l=(ls ++ (labsV E ok (l.drop j)).1,(labsV E ok (l.drop j)).2)):labsV E ok l=((ls ++ [a]) ++ (labsV E ok (l.drop (j+1))).1,(labsV E ok (l.drop (j+1))).2):=by
 have hd:l.drop j= s::l.drop (j+1):=by
  obtain⟨h1,h2⟩:=List.getElem?_eq_some_iff.1 h
  rw[List.drop_eq_getElem_cons h1,h2]
 rw[hd,labsV,ha] at hr
 simp only[hok,if_true] at hr
 rw[hr,List.append_assoc];rfl
theorem z78 {E:List VarT} {ok:Int->Bool} {l:List (List UInt8)} {j:Nat} {s:List UInt8} {ls:List Int} (h:l[j]?= some s)
  (hr:labsV E ok l=(ls ++ (labsV E ok (l.drop j)).1,(labsV E ok (l.drop j)).2)):(labOf E s= none->(labsV E ok l).2= 11)/\(∀ a,labOf E s= some a->ok a= false->(labsV E ok l).2= 3):=by
 have hd:l.drop j= s::l.drop (j+1):=by
  obtain⟨h1,h2⟩:=List.getElem?_eq_some_iff.1 h
  rw[List.drop_eq_getElem_cons h1,h2]
 refine⟨fun hn=> ?_,fun a ha hok=> ?_⟩
 ·rw[hd,labsV,hn] at hr;rw[hr]
 ·rw[hd,labsV,ha] at hr;simp only[hok] at hr;rw[hr];rfl
theorem zcf {E:List VarT} {ok:Int->Bool} {l:List (List UInt8)} {ls:List Int} (hr:labsV E ok l=(ls ++ (labsV E ok (l.drop l.length)).1,(labsV E ok (l.drop l.length)).2)):labsV E ok l=(ls,0):=by
 rw[List.drop_length,labsV,List.append_nil] at hr;exact hr
theorem z7P {n:Nat} {E:List VarT}:∀ (l:List (List UInt8)),allL n (labsV E (isL n) l).1= true
 |[]=>rfl
 |s::r=>by
  unfold labsV
  cases labOf E s with
  |none=>rfl
  |some a=>
   simp only
   by_cases h:isL n a= true
   ·rw[if_pos h];unfold allL;rw[List.all_cons,h];exact z7P r
   ·rw[if_neg h];rfl
def labX (n:Nat) (L:Rel) (E:List VarT) (names:List (List UInt8)):Int × Int:=
 if(labsV E (isL n) names).2= 0 then((foldJ n L (bot n L) (labsV E (isL n) names).1:Nat),0) else(0,(labsV E (isL n) names).2)
def labE (n:Nat) (L:Rel) (E:List VarT) (t:ET):Int × Int:=if zB t= true then labX n L E (readL t) else(0,2)
theorem z8T (n:Nat) (L:Rel) (lb:Nat) (t:ET) (E:List VarT) (cs:List Value) (v:Value) (w:World) (hl:LatR w lb n L) (hv:ExpAt w w.heap.size cs t) (hE:SlAt w w.heap.size 11 (VarAt w w.heap.size) v E) (hlen:E.length<=10000) (hr:zB t= true):
  Calls Tryz.prog 9 #[.pointer (some ⟨lb,0,none⟩),.agg ⟨cs⟩,v] w fun e w'=>e= .returned (.tuple #[.int .i64 (labX n L E (readL t)).1,.int .i64 (labX n L E (readL t)).2])/\Below w.heap.size w w':=by
 have HCL:=I (eslen hv)
 have HB:=I (zc w (.cells ⟨cs⟩ 30))
 have HR:=I (zm w cs 30)
 have HS:=I (zw w (.cells ⟨cs⟩ 30))
 have HV:=I ((hv.under HB.o).more HB.o.size)
 have HRT:=I hr
 have HLT:=I hl
 have HEA:=I hE
 obtain⟨_,EA,ec,rfl,_⟩:=hE
 have hlen2:(E.length:Int)<=10000:=by omega
 clear hv hr hl
 go_enter Tryz.func9,Tryz.ntmps9
 go_upto_region 1 with (fail)
 generalize w.alloc (.cells ⟨cs⟩ 30)= W at*
 have HC:=I (z6v t cs W HV.o)
 rw[HRT.o] at HC
 go_upto_region 6 with (first|((with_reducible refine z7 30 _ rfl ?_ w.heap.size 0 cs _ rfl HR.o Tryz.underlying30 rfl ?_ ?_);(exact wA rfl);rw[HCL.o];kernel_rfl)|(go_at_call 28;refine HC.o.mono ?_;rintro e z ⟨rfl,hb⟩;have HB2:=I hb;clear hb))
 have HR2:=I (za HR.o HB2.o HS.o)
 have HCR:=I (z6X t cs z ((HV.o.under HB2.o).more HB2.o.size))
 have HZ:=I (HB.o.trans (HB2.o.mono HB.o.size))
 clear HR HC HB2
 go_upto_region 7 with (first|((with_reducible refine z7 30 _ rfl ?_ w.heap.size 0 cs _ rfl HR2.o Tryz.underlying30 rfl ?_ ?_);(exact wA rfl);rw[HCL.o];kernel_rfl)|(go_at_call 24;refine HCR.o.mono ?_;rintro e w3 ⟨nv,base,rfl,hbs,hrow,hb⟩;have HROW:=I hrow;have HB3:=I (HZ.o.trans (hb.mono HZ.o.size));clear hrow hb;obtain⟨NA,nc,hnv⟩:=z4h HROW.o;subst hnv))
 have HNL:=I (zcF t)
 have hnl2:((readL t).length:Int)<=500:=by have:=HNL.o;omega
 obtain⟨N,hN⟩:∃ N,readL t= N:=⟨_,rfl⟩
 have HNE:=I hN
 rw[hN] at HROW HNL hnl2
 rw[hN]
 clear hN
 obtain⟨i0,hi,hz0,hz1,hz2⟩:=info_parts zcl
 have HI0:=I hi
 have HZ0:=I hz0
 have HZ1:=I hz1
 have HZ2:=I hz2
 have HZW:Hid (w.heap.size<=w3.heap.size):=I HB3.o.size
 clear hi hz0 hz1 hz2 HCR HR2
 obtain⟨xa,hxa⟩:∃ x,(labX n L E N).1= x:=⟨_,rfl⟩
 obtain⟨xb,hxb⟩:∃ x,(labX n L E N).2= x:=⟨_,rfl⟩
 have HX:Hid (labX n L E N=(xa,xb)):=I (by rw[← hxa,← hxb])
 have HXE:Hid ((labX n L E (readL t)).1= xa/\(labX n L E (readL t)).2= xb):=I (by rw[HNE.o];exact⟨hxa,hxb⟩)
 clear hxa hxb
 go_loopg [8,23] N.length (fun g u i wr=>∃ (j:Nat) (ls:List Int),j+g= N.length/\i= .int .i64 j/\ls.length= j/\labsV E (isL n) N=(ls ++ (labsV E (isL n) (N.drop j)).1,(labsV E (isL n) (N.drop j)).2)/\OwnSl 3 1 encI wr w3.heap.size u ls/\Below w3.heap.size w3 wr)
 case atStart=>exact⟨0,[],by omega,rfl,rfl,rfl,OwnSl.nil _ _,Below.refl _ _⟩
 case round=>
  obtain⟨j,ls,hj,rfl,hls,hlab,hown,hb⟩:=hrel
  have HLAB:=I hlab
  have HOWN:=I hown
  have HBW:=I hb
  have HLS:=I hls
  have HBK:=I (HB3.o.trans (hb.mono HZW.o))
  obtain⟨UA,uc,rfl⟩:=z4h hown
  clear hlab hown hb hls
  cases gk with
  |zero=>
   obtain rfl:j= N.length:=by omega
   have hge: ¬ ((N.length:Int) <(N.length:Int)):=by omega
   have HLE:=I (zcf HLAB.o)
   have HAL:Hid (allL n ls= true):=I (by have:=z7P (n:=n) (E:=E) N;rw[HLE.o] at this;exact this)
   have HJ:=I (zbB lb n L _ ls wr.heap.size wr (HLT.o.here HBK.o) (zdu HOWN.o (by have:=HLS.o;have:=HNL.o;omega)))
   rw[z7l HAL.o] at HJ
   have HXX:Hid (((foldJ n L (bot n L) ls:Nat):Int)= xa/\(0:Int)= xb):=I (by
    have h:=HX.o
    unfold labX at h
    rw[HLE.o] at h
    simp only[if_true] at h
    injection h with h1 h2
    exact⟨h1,h2⟩)
   go_wp2_with (go_at_call 31;refine HJ.o.mono ?_;rintro e w5 ⟨rfl,m,rfl⟩)
   go_ret2
   exact⟨by rw[HXE.o.1,HXE.o.2,← HXX.o.1,← HXX.o.2];rfl,zr HBK.o _⟩
  |succ g=>
   have hlt:(j:Int) <(N.length:Int):=by omega
   obtain⟨s,hs⟩:∃ s,N[j]?= some s:=⟨_,List.getElem?_eq_getElem (by omega)⟩
   obtain⟨ng,rfl,hngl,hnc⟩:=z5Q HROW.o (by omega)
   have dn:=(HBW.o.cell (p:=⟨ng,j,none⟩) hngl).trans (hnc j s hs)
   have HSJ:=I hs
   clear hnc hs
   go_upto_region 9 with (fail)
   have HW1:=I (zc wr (.cells #[.string ⟨s.toArray⟩] 9))
   have HC1:=I (zp wr #[.string ⟨s.toArray⟩] 9 0)
   have HS1:=I (zw wr (.cells #[.string ⟨s.toArray⟩] 9))
   clear dn
   generalize wr.alloc (.cells #[.string ⟨s.toArray⟩] 9)= W1 at*
   have HB1:=I (HBK.o.trans (HW1.o.mono HBK.o.size))
   have HCI:=I (zaf E ⟨s.toArray⟩ (.slice EA E.length ec) wr.heap.size W1 ((HEA.o.below HB1.o fun _ _ _ h=>(h.under HB1.o).more HB1.o.size).more HB1.o.size) (by omega) (by rw[HC1.o];rfl) HS1.o)
   have htl:(⟨s.toArray⟩:ByteArray).toList= s:=by rw[Lib.toList_data]
   rcases za5 (E:=E) (s:=⟨s.toArray⟩) with ⟨hf,hlo⟩|⟨k,x,hf,hk,hlo⟩
   ·rw[hf] at HCI
    rw[htl] at hlo
    have HX2:Hid ((0:Int)= xa/\(11:Int)= xb):=I (by
     have h:=HX.o
     unfold labX at h
     rw[(z78 HSJ.o HLAB.o).1 hlo] at h
     simp only[show ¬ ((11:Int)= 0) from by decide,if_false] at h
     injection h with h1 h2
     exact⟨h1,h2⟩)
    clear hf hlo htl
    go_wp2_with (go_at_call 29;refine HCI.o.mono ?_;rintro e w5 ⟨rfl,hb⟩;have HB5:=I (HB1.o.trans (hb.mono HB1.o.size));clear hb)
    go_ret2
    exact⟨by rw[HXE.o.1,HXE.o.2,← HX2.o.1,← HX2.o.2];rfl,HB5.o⟩
   ·rw[hf] at HCI
    rw[htl] at hlo
    have hkl:k < E.length:=(List.getElem?_eq_some_iff.1 hk).1
    obtain⟨_,EA2,ec2,hve,hea⟩:=HEA.o
    injection hve with e1 _ e2
    subst e1 e2
    obtain⟨bb,o,rfl,hbl,hc⟩:=hea (by omega)
    obtain⟨ks,_,hks,hva⟩:=hc k x hk
    obtain⟨a2,b2,c2,d2,e2,f2,g2,i2,j2,rfl⟩:=z3H hva
    have HKX:Hid (w.cell? ⟨bb,o+k*11+1,none⟩= some (.int .i64 x.label)):=I (hks 1 _ rfl)
    have HBL:=I hbl
    have hk2:(k:Int) <(E.length:Int):=by omega
    have HLO:=I hlo
    clear hf hlo htl hc hks hva hk hea hbl
    go_upto_region 10 with (go_at_call 29;refine HCI.o.mono ?_;rintro e w5 ⟨rfl,hb⟩;have HB5:=I (HB1.o.trans (hb.mono HB1.o.size));have HB6:=I (HW1.o.trans (hb.mono HW1.o.size));clear hb)
    have dl:=(HB5.o.cell (p:=⟨bb,o+k*11+1,none⟩) HBL.o).trans HKX.o
    have HLQ:=I (leq_r (HLT.o.here HB5.o) x.label x.label)
    rw[zer HLT.o.lat] at HLQ
    cases hok:isL n x.label with
    |false=>
     rw[hok] at HLQ
     have HX2:Hid ((0:Int)= xa/\(3:Int)= xb):=I (by
      have h:=HX.o
      unfold labX at h
      rw[(z78 HSJ.o HLAB.o).2 _ HLO.o hok] at h
      simp only[show ¬ ((3:Int)= 0) from by decide,if_false] at h
      injection h with h1 h2
      exact⟨h1,h2⟩)
     clear hok
     go_wp2_with (go_at_call 10;refine HLQ.o.mono ?_;rintro e z2 ⟨rfl,h⟩;rw[← h];clear h z2)
     go_ret2
     exact⟨by rw[HXE.o.1,HXE.o.2,← HX2.o.1,← HX2.o.2];rfl,HB5.o⟩
    |true=>
     rw[hok] at HLQ
     have HST:=I (zaB HSJ.o _ HLO.o hok HLAB.o)
     clear hok
     go_upto_region 15 with (go_at_call 10;refine HLQ.o.mono ?_;rintro e z2 ⟨rfl,h⟩;rw[← h];clear h z2)
     have HWZ:Hid (OwnSl 3 1 encI (w5.alloc (.cells ⟨encI x.label⟩ 3)) w3.heap.size (.slice UA ls.length uc) ls):=I (OwnSl.below (OwnSl.below HOWN.o HB6.o) (zc w5 (.cells ⟨encI x.label⟩ 3)))
     have HCE:=I (z0l w5 (encI x.label) 3)
     have HK1:Hid (ls.length+1<=maxLen):=I (by unfold maxLen;have:=HLS.o;have:=HNL.o;omega)
     have HK2:Hid ((ls.length+1) *8<=140737488355328):=I (by have:=HLS.o;have:=HNL.o;omega)
     have HB7:Hid (Below w3.heap.size w3 (w5.alloc (.cells ⟨encI x.label⟩ 3))):=I (by
      have h:=HBW.o.trans (HB6.o.mono HBW.o.size)
      exact h.alloc h.size _)
     go_wp2_with (at_builtin;refine z9K rfl _ _ 71 rfl w3.heap.size 3 i0 (.int .i64 0) 1 8 encI Tryz.underlying71 HI0.o HZ0.o HZ1.o HZ2.o rfl (by decide) z6R zbM _ _ rfl HWZ.o w5.heap.size 1 x.label rfl HCE.o HK1.o HK2.o HB7.o.size ?_;intro v' W2 hown2 hg2;have HO3:=I hown2;have HB8:=I (z9x HB7.o HB7.o.size HWZ.o (Nat.le_refl _) hg2);clear hown2 hg2)
     go_roundg g
     case measure=>omega
     case rel=>exact⟨j+1,ls ++ [x.label],by omega,by go_num,by rw[List.length_append,HLS.o];rfl,HST.o,HO3.o,HB8.o⟩
theorem z3n (n:Nat) (L:Rel) (lb:Nat) (t:ET) (E:List VarT) (cs:List Value) (v:Value) (w:World) (hl:LatR w lb n L) (hv:ExpAt w w.heap.size cs t) (hE:SlAt w w.heap.size 11 (VarAt w w.heap.size) v E) (hlen:E.length<=10000):
  Calls Tryz.prog 9 #[.pointer (some ⟨lb,0,none⟩),.agg ⟨cs⟩,v] w fun e w'=>e= .returned (.tuple #[.int .i64 (labE n L E t).1,.int .i64 (labE n L E t).2])/\Below w.heap.size w w':=by
 unfold labE
 cases hr:zB t with
 |true=>rw[if_pos rfl];exact z8T n L lb t E cs v w hl hv hE hlen hr
 |false=>rw[if_neg (by decide)];exact zaO lb t cs v w hv hr
end Go.Proofs.YteolfamhmfidbaaGreatDoor
