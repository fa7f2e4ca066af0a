/- Parts of a proof: Text2, Top2. -/
import Derived.Laws.IdiomStrings
import Derived.Test.YtdjfpcmlffekkaaGreatDoorPackL20
import Derived.Test.YtdjfpcmlffekkaaGreatDoorPackL24
import Derived.Test.YtdjfpcmlffekkaaGreatDoorPackL29
set_option maxHeartbeats 8000000
set_option maxRecDepth 100000
set_option linter.unusedVariables false
set_option linter.unusedSimpArgs false
namespace Go.Proofs.YtdjfpcmlffekkaaGreatDoor
section
open Go Go.RowKit
def TabB (B:Nat) (w:World):Prop:=∃ w0:World,w0.heap.size<=B/\TabP w0/\Below w0.heap.size w0 w
theorem TabB.here {B:Nat} {w:World} (h:TabB B w):TabP w:=let ⟨_,_,h1,h2⟩:=h;h1.next h2
theorem TabB.next {B:Nat} {w w':World} (h:TabB B w) (hb:Below B w w'):TabB B w':=let ⟨w0,h0,h1,h2⟩:=h;⟨w0,h0,h1,h2.trans (hb.mono h0)⟩
theorem TabP.low {w:World} (h:TabP w):TabB w.heap.size w:=⟨w,Nat.le_refl _,h,Below.refl _ _⟩
def TextD (t:VT) (txt:List UInt8):Prop:=∀ (cs:List Value) (p o B b:Nat) (bs:List Value) (w:World),p < B->B<=w.heap.size->w.rangeAt p o cs->ValAt w B cs t->Bld0 B b bs w->bs.length+txt.length<=1000000->TabB B w->
 Calls Tryz.prog 174 #[.pointer (some ⟨b,0,none⟩),.pointer (some ⟨p,o,none⟩)] w fun e w'=>e= .returned (.tuple #[])/\(Bld B b (bs ++ Lib.byteCells txt) w'/\Below B w w')
theorem zcP (l:List UInt8) (c:UInt8):escL (l ++ [c])= escL l ++ ((if c= 34\/c= 92 then[92] else[]) ++ [c]):=by
 induction l with
 |nil=>rfl
 |cons a l ih=>rw[List.cons_append,escL,ih,escL];simp
theorem zcQ {l:List UInt8} {k:Nat} {c:UInt8} (h:l[k]?= some c):escL (l.take (k+1))= escL (l.take k) ++ ((if c= 34\/c= 92 then[92] else[]) ++ [c]):=by
 rw[← zcP,List.take_add_one,h];rfl
theorem ze1 (l:List UInt8) (k:Nat):(escL (l.take k)).length<=2*k:=by
 have h1:=z50 (l.take k)
 have h2:(l.take k).length<=k:=by rw[List.length_take];exact Nat.min_le_left _ _
 omega
theorem z7q (b:Bool) (w:World):Calls Tryz.prog 192 #[.bool b] w fun e w'=>e= .returned (.string ⟨(if b= true then trueL else falseL).toArray⟩)/\w'= w:=by
 cases b with
 |true=>
  go_enter Tryz.func192,Tryz.ntmps192
  go_wp2_with (go_at_call 205;refine(show Calls Tryz.prog 205 #[.bool true] w fun e w'=>e= .returned (.string ⟨trueL.toArray⟩)/\w'= w from by (go_enter Tryz.func205,Tryz.ntmps205;go_wp2;go_ret;exact⟨rfl,rfl⟩)).mono ?_;rintro e z ⟨rfl,rfl⟩)
  go_ret
  exact⟨rfl,rfl⟩
 |false=>
  go_enter Tryz.func192,Tryz.ntmps192
  go_wp2_with (go_at_call 205;refine(show Calls Tryz.prog 205 #[.bool false] w fun e w'=>e= .returned (.string ⟨falseL.toArray⟩)/\w'= w from by (go_enter Tryz.func205,Tryz.ntmps205;go_wp2;go_ret;exact⟨rfl,rfl⟩)).mono ?_;rintro e z ⟨rfl,rfl⟩)
  go_ret
  exact⟨rfl,rfl⟩
theorem zeK (s:ByteArray) (B b:Nat) (bs:List Value) (w:World) (hBw:B<=w.heap.size) (hb:Bld0 B b bs w) (hsz:s.size<=200) (hlen:bs.length+ (2*s.size+2)<=2000000):
  Calls Tryz.prog 195 #[.pointer (some ⟨b,0,none⟩),.string s] w fun e w'=>e= .returned (.tuple #[])/\(Bld B b (bs ++ Lib.byteCells (z2r s.data.toList)) w'/\Below B w w'):=by
 have H1:=I (wbyte B b bs 34 w hb (by omega) hBw)
 have HL:=I (And.intro hBw (And.intro hlen hsz))
 have hcv:∀ W:World,(convert 9 131 (.string s)).run Tryz.prog W= .ok (.slice (some ⟨W.heap.size,0,none⟩) s.size (grownCap W s.size 0 5)) (W.drew.alloc (.cells (bytesRow s (grownCap W s.size 0 5)) 5 ((bytesRow s (grownCap W s.size 0 5)).size,(bytesRow s (grownCap W s.size 0 5)).size+1))):=fun W=>run_bytes_of_string W _ _ _ s Tryz.underlying9 Tryz.underlying131 Tryz.underlying5
 have HLN:Hid (s.data.toList.length= s.size):=I (by cases s;rfl)
 have HES:=I (fun(k:Nat) (c:UInt8)=>zcQ (l:=s.data.toList) (k:=k) (c:=c))
 have HER:=I (fun(k:Nat)=>ze1 s.data.toList k)
 have HEF:Hid (escL (s.data.toList.take s.size)= escL s.data.toList):=I (by rw[List.take_of_length_le (Nat.le_of_eq HLN.o)])
 have HQ:Hid (z2r s.data.toList=[34] ++ (escL s.data.toList ++ [34])):=I rfl
 have hs2:(s.size:Int)<=200:=by omega
 clear hBw hlen hb hsz
 go_enter Tryz.func195,Tryz.ntmps195
 go_upto_region 1 with (go_at_call 196;refine H1.o.mono ?_;rintro e w1 ⟨rfl,hb1,hbl⟩;have HB1:=I hb1;have HL1:=I hbl;clear hb1 hbl)
 go_upto_region 2 with (fail)
 have HCC:Hid (∀ (k:Nat) c,s.data.toList[k]?= some c->((w1.alloc (Obj.cells (bytesRow s (grownCap w1 s.size 0 5)) 5 ((bytesRow s (grownCap w1 s.size 0 5)).size,(bytesRow s (grownCap w1 s.size 0 5)).size+1))).drew).heap[w1.heap.size]?= some (.cells (bytesRow s (grownCap w1 s.size 0 5)) 5 ((bytesRow s (grownCap w1 s.size 0 5)).size,(bytesRow s (grownCap w1 s.size 0 5)).size+1))/\(bytesRow s (grownCap w1 s.size 0 5))[k]?= some (.int .u8 c.toNat)):=I (fun k c h=>⟨heap_alloc_new w1 _,z4t s _ k h⟩)
 have HB2:Hid (Below w1.heap.size w1 ((w1.alloc (Obj.cells (bytesRow s (grownCap w1 s.size 0 5)) 5 ((bytesRow s (grownCap w1 s.size 0 5)).size,(bytesRow s (grownCap w1 s.size 0 5)).size+1))).drew)):=I (zd w1 _).drew
 generalize (w1.alloc (Obj.cells (bytesRow s (grownCap w1 s.size 0 5)) 5 ((bytesRow s (grownCap w1 s.size 0 5)).size,(bytesRow s (grownCap w1 s.size 0 5)).size+1))).drew= W2 at*
 generalize bytesRow s (grownCap w1 s.size 0 5)= BR at*
 generalize grownCap w1 s.size 0 5= cp at*
 clear hcv H1
 have HBB2:=I (z4V HB1.o HB2.o)
 have HBW2:=I (HL1.o.trans (HB2.o.mono (Nat.le_trans HL.o.1 HL1.o.size)))
 go_loopg [13] s.size (fun q x u=>∃ k:Nat,k+q= s.size/\x= .int .i64 k/\Bld B b (bs ++ Lib.byteCells ([34] ++ escL (s.data.toList.take k))) u/\Below B w u/\Fz W2 u)
 case atStart=>exact⟨0,by omega,rfl,HBB2.o,HBW2.o,Fz.refl _⟩
 case round=>
  obtain⟨k,hk,rfl,hbb,hbw,hfz⟩:=hrel
  have HBB:=I hbb
  have HBW:=I hbw
  have HFZ:=I hfz
  have HKR:=I (HER.o k)
  clear hbb hbw hfz
  cases gk with
  |zero=>
   obtain rfl:k= s.size:=by omega
   have hge: ¬ ((s.size:Int) <(s.size:Int)):=by omega
   have HWQ:=I (wbyte B b _ 34 wr (.inr HBB.o) (by have h1:=HL.o.2;have h2:=HKR.o;simp only[List.length_append,Lib.byteCells_length,List.length_cons,List.length_nil];omega) (Nat.le_trans HL.o.1 HBW.o.size))
   go_wp2_with (go_at_call 196;refine HWQ.o.mono ?_;rintro e w3 ⟨rfl,hb3,hbl⟩;have HB3:=I hb3;have HL3:=I hbl;clear hb3 hbl)
   go_end0
   exact⟨rfl,by have:=HB3.o;rw[HEF.o] at this;rw[HQ.o];simpa [Lib.byteCells] using this,HBW.o.trans HL3.o⟩
  |succ q=>
   have hlt:(k:Int) <(s.size:Int):=by omega
   obtain⟨c,hc⟩:∃ c,s.data.toList[k]?= some c:=⟨_,List.getElem?_eq_getElem (by rw[HLN.o];omega)⟩
   have HCK:=HCC.o k c hc
   have HW3:=HFZ.o _ _ _ _ HCK.1 (by simp)
   have dk:wr.cell? ⟨w1.heap.size,k,none⟩= some (.int .u8 c.toNat):=(cell_of_row wr w1.heap.size k BR 5 _ HW3).trans HCK.2
   have HE:=I (HES.o k c hc)
   clear hc HCK HW3
   by_cases hq:c= 34\/c= 92
   ·rw[if_pos hq] at HE
    have HW1:=I (z5m B b _ 92 wr (.inr HBB.o) (by have h1:=HL.o.2;have h2:=HKR.o;simp only[List.length_append,Lib.byteCells_length,List.length_cons,List.length_nil];omega) (Nat.le_trans HL.o.1 HBW.o.size))
    rcases hq with rfl|rfl
    ·have HW2:=I (fun w4 (h:Bld B b (bs ++ Lib.byteCells ([34] ++ escL (s.data.toList.take k)) ++ [.int .u8 92]) w4) (h2:Below B wr w4)=>z5m B b _ 34 w4 (.inr h) (by have h1:=HL.o.2;have h2:=HKR.o;simp only[List.length_append,Lib.byteCells_length,List.length_cons,List.length_nil];omega) (Nat.le_trans HL.o.1 (Nat.le_trans HBW.o.size h2.size)))
     go_upto_region 5 with (fail)
     go_upto_region 6 with (go_at_call 196;refine HW1.o.mono ?_;rintro e w3 ⟨rfl,hb3,hbl,hfz⟩;have HB3:=I hb3;have HL3:=I hbl;have HF3:=I hfz;clear hb3 hbl hfz)
     go_wp2_with (go_at_call 196;refine(HW2.o _ HB3.o HL3.o).mono ?_;rintro e w5 ⟨rfl,hb3,hbl,hfz⟩;have HB5:=I hb3;have HL5:=I hbl;have HF5:=I hfz;clear hb3 hbl hfz)
     go_roundg q
     case measure=>omega
     case rel=>exact⟨k+1,by omega,by go_num,by have:=HB5.o;rw[HE.o];simpa [Lib.byteCells] using this,HBW.o.trans (HL3.o.trans HL5.o),HFZ.o.trans (HF3.o.trans HF5.o)⟩
    ·have HW2:=I (fun w4 (h:Bld B b (bs ++ Lib.byteCells ([34] ++ escL (s.data.toList.take k)) ++ [.int .u8 92]) w4) (h2:Below B wr w4)=>z5m B b _ 92 w4 (.inr h) (by have h1:=HL.o.2;have h2:=HKR.o;simp only[List.length_append,Lib.byteCells_length,List.length_cons,List.length_nil];omega) (Nat.le_trans HL.o.1 (Nat.le_trans HBW.o.size h2.size)))
     go_upto_region 5 with (fail)
     go_upto_region 6 with (go_at_call 196;refine HW1.o.mono ?_;rintro e w3 ⟨rfl,hb3,hbl,hfz⟩;have HB3:=I hb3;have HL3:=I hbl;have HF3:=I hfz;clear hb3 hbl hfz)
     go_wp2_with (go_at_call 196;refine(HW2.o _ HB3.o HL3.o).mono ?_;rintro e w5 ⟨rfl,hb3,hbl,hfz⟩;have HB5:=I hb3;have HL5:=I hbl;have HF5:=I hfz;clear hb3 hbl hfz)
     go_roundg q
     case measure=>omega
     case rel=>exact⟨k+1,by omega,by go_num,by have:=HB5.o;rw[HE.o];simpa [Lib.byteCells] using this,HBW.o.trans (HL3.o.trans HL5.o),HFZ.o.trans (HF3.o.trans HF5.o)⟩
   ·rw[if_neg hq] at HE
    have t34: ¬ ((c.toNat:Int)= 34):=fun h=>hq (.inl (UInt8.toNat_inj.1 (by simpa using (by omega:c.toNat= 34))))
    have t92: ¬ ((c.toNat:Int)= 92):=fun h=>hq (.inr (UInt8.toNat_inj.1 (by simpa using (by omega:c.toNat= 92))))
    have HW1:=I (z5m B b _ (c.toNat:Int) wr (.inr HBB.o) (by have h1:=HL.o.2;have h2:=HKR.o;simp only[List.length_append,Lib.byteCells_length,List.length_cons,List.length_nil];omega) (Nat.le_trans HL.o.1 HBW.o.size))
    have e34:((c.toNat:Int) ==34)= false:=by rw[beq_eq_false_iff_ne];exact t34
    have e92:((c.toNat:Int) ==92)= false:=by rw[beq_eq_false_iff_ne];exact t92
    clear hq t34 t92
    go_wp2_with (go_at_call 196;refine HW1.o.mono ?_;rintro e w3 ⟨rfl,hb3,hbl,hfz⟩;have HB3:=I hb3;have HL3:=I hbl;have HF3:=I hfz;clear hb3 hbl hfz)
    go_roundg q
    case measure=>omega
    case rel=>exact⟨k+1,by omega,by go_num,by have:=HB3.o;rw[HE.o];simpa [Lib.byteCells] using this,HBW.o.trans HL3.o,HFZ.o.trans HF3.o⟩
theorem z2J {B b:Nat} {bs:List Value} {w w':World} (h:Bld0 B b bs w) (hb:Below w.heap.size w w'):Bld0 B b bs w':=h.elim (fun h=> .inl (z4V h hb)) (fun h=> .inr (z4V h hb))
theorem z4h (l:List UInt8):(⟨l.toArray⟩:ByteArray).size= l.length:=by simp[ByteArray.size]
theorem zb1 (n:Int) (h0: -9223372036854775808<=n) (h1:n<=9223372036854775807) (f:Nat) (s:ByteArray) (ns:List ByteArray) (its:List VT):TextD (VT.mk 2 n f s ns its) (Lib.itoa n):=by
 intro cs p o B b bs w hp hBw hr hv hb hlen htb
 obtain⟨vn,vi,rfl,_,_,hf,_,_,_,_⟩:=hv.inv
 have HRG:=I hr
 have d0:w.cell? ⟨p,o,none⟩= some (.int .i64 2):=hr 0 _ rfl
 have HP:=I hp
 have HBw:=I hBw
 have htp:TabP w.drew:=htb.here.next (Below.refl _ w).drew
 have HC:=I (z74 n h0 h1 w.drew htp)
 have HWS:=I (fun z (hz:Below w.drew.heap.size w.drew z)=>z12 B b bs ⟨(Lib.itoa n).toArray⟩ z (z2J (z3t hb) hz) (by rw[z4h];omega) (Nat.le_trans hBw hz.size))
 clear hr hv hb hp hBw hlen htb htp hf h0 h1
 generalize hT:Lib.itoa n= T at*
 clear hT
 go_enter Tryz.func174,Tryz.ntmps174
 go_upto_region 5 with (fail)
 clear d0
 refine zr [(0,true),(1,true),(2,true),(3,true),(4,true),(5,true),(6,true),(7,false),(8,false)]
  (fun z=>Below B w z) (by kernel_rfl) (by kernel_rfl) (by kernel_rfl) rfl (by intro c a d v w h;cases d<;>exact h) ?_
 have hs:Below B w w.drew:=(Below.refl _ w).drew
 refine zh (some 25) (.pointer (some ⟨b,0,none⟩)) _ _ rfl rfl rfl (by exact wA rfl) hs rfl ?_
 go_frame
 refine z8 (some 26) (.pointer (some ⟨b,0,none⟩)) _ rfl rfl (by exact wA rfl) hs (fun z hz=>by go_simp) ?_
 go_frame
 refine z8 (some 27) (.pointer (some ⟨b,0,none⟩)) _ rfl rfl (by exact wA rfl) hs (fun z hz=>by go_simp) ?_
 go_frame
 refine zh (some 28) (.pointer (some ⟨p,o,none⟩)) _ _ rfl rfl rfl (by exact wA rfl) hs rfl ?_
 go_frame
 refine z8 (some 29) (.pointer (some ⟨p,o,none⟩)) _ rfl rfl (by exact wA rfl) hs (fun z hz=>by go_simp) ?_
 go_frame
 refine z8 (some 30) (.pointer (some ⟨p,o+1,none⟩)) _ rfl rfl (by exact wA rfl) hs (fun z hz=>by go_simp) ?_
 go_frame
 refine z8 (some 31) (.int .i64 n) _ rfl rfl (by exact wA rfl) hs (fun z hz=>by have dd:=(hz.cell (p:=⟨p,o+1,none⟩) HP.o).trans (HRG.o 1 _ rfl);go_simp) ?_
 go_frame
 refine zC (some 32) 193 Tryz.func193 (by kernel_rfl) (by kernel_rfl) [.int .i64 n,.int .i64 10] _ _ _ rfl rfl rfl (by exact wA rfl) rfl ?_
 refine HC.o.mono ?_
 rintro e z1 ⟨rfl,hz1⟩
 refine⟨_,rfl,hs.trans (hz1.mono HBw.o),?_⟩
 go_frame
 refine zC (some 33) 191 Tryz.func191 (by kernel_rfl) (by kernel_rfl) [.pointer (some ⟨b,0,none⟩),.string ⟨T.toArray⟩] _ _ _ rfl rfl rfl (by exact wA rfl) rfl ?_
 refine(HWS.o z1 hz1).mono ?_
 rintro e z2 ⟨rfl,hb1,hbl⟩
 have hs2:Below B w z2:=(hs.trans (hz1.mono HBw.o)).trans hbl
 refine⟨_,rfl,hs2,?_⟩
 go_frame
 refine zF ?_
 have HB2:=I hs2
 have HBB:=I hb1
 clear hs hs2 hb1 hbl hz1
 go_wp2
 (try simp only[Exit.inBlock,Exit.then])
 refine bodyPost_ret (results_none rfl _ _ _) rfl ?_
 exact⟨rfl,HBB.o,HB2.o⟩
theorem zb6 (n:Int) (f:Nat) (s:ByteArray) (ns:List ByteArray) (its:List VT):TextD (VT.mk 3 n f s ns its) (textF f):=by
 intro cs p o B b bs w hp hBw hr hv hb hlen htb
 obtain⟨vn,vi,rfl,_,_,hf,_,_,_,_⟩:=hv.inv
 have HRG:=I hr
 have d0:w.cell? ⟨p,o,none⟩= some (.int .i64 3):=hr 0 _ rfl
 have HP:=I hp
 have HBw:=I hBw
 have htp:TabP w.drew:=htb.here.next (Below.refl _ w).drew
 have HC:=I (zbK f (wf64 hf) w.drew htp)
 have HWS:=I (fun z (hz:Below w.drew.heap.size w.drew z)=>z12 B b bs ⟨(textF f).toArray⟩ z (z2J (z3t hb) hz) (by rw[z4h];omega) (Nat.le_trans hBw hz.size))
 clear hr hv hb hp hBw hlen htb htp hf
 generalize hT:textF f= T at*
 clear hT
 go_enter Tryz.func174,Tryz.ntmps174
 go_upto_region 7 with (fail)
 clear d0
 refine zr [(0,true),(1,true),(2,true),(3,true),(4,true),(5,true),(6,true),(7,false),(8,false)]
  (fun z=>Below B w z) (by kernel_rfl) (by kernel_rfl) (by kernel_rfl) rfl (by intro c a d v w h;cases d<;>exact h) ?_
 have hs:Below B w w.drew:=(Below.refl _ w).drew
 refine zh (some 36) (.pointer (some ⟨b,0,none⟩)) _ _ rfl rfl rfl (by exact wA rfl) hs rfl ?_
 go_frame
 refine z8 (some 37) (.pointer (some ⟨b,0,none⟩)) _ rfl rfl (by exact wA rfl) hs (fun z hz=>by go_simp) ?_
 go_frame
 refine z8 (some 38) (.pointer (some ⟨b,0,none⟩)) _ rfl rfl (by exact wA rfl) hs (fun z hz=>by go_simp) ?_
 go_frame
 refine zh (some 39) (.pointer (some ⟨p,o,none⟩)) _ _ rfl rfl rfl (by exact wA rfl) hs rfl ?_
 go_frame
 refine z8 (some 40) (.pointer (some ⟨p,o,none⟩)) _ rfl rfl (by exact wA rfl) hs (fun z hz=>by go_simp) ?_
 go_frame
 refine z8 (some 41) (.pointer (some ⟨p,o+2,none⟩)) _ rfl rfl (by exact wA rfl) hs (fun z hz=>by go_simp) ?_
 go_frame
 refine z8 (some 42) (.float .f64 f) _ rfl rfl (by exact wA rfl) hs (fun z hz=>by have dd:=(hz.cell (p:=⟨p,o+2,none⟩) HP.o).trans (HRG.o 2 _ rfl);go_simp) ?_
 go_frame
 refine zC (some 43) 194 Tryz.func194 (by kernel_rfl) (by kernel_rfl) [.float .f64 f] _ _ _ rfl rfl rfl (by exact wA rfl) rfl ?_
 refine HC.o.mono ?_
 rintro e z1 ⟨rfl,hz1⟩
 refine⟨_,rfl,hs.trans (hz1.mono HBw.o),?_⟩
 go_frame
 refine zC (some 44) 191 Tryz.func191 (by kernel_rfl) (by kernel_rfl) [.pointer (some ⟨b,0,none⟩),.string ⟨T.toArray⟩] _ _ _ rfl rfl rfl (by exact wA rfl) rfl ?_
 refine(HWS.o z1 hz1).mono ?_
 rintro e z2 ⟨rfl,hb1,hbl⟩
 have hs2:Below B w z2:=(hs.trans (hz1.mono HBw.o)).trans hbl
 refine⟨_,rfl,hs2,?_⟩
 go_frame
 refine zF ?_
 have HB2:=I hs2
 have HBB:=I hb1
 clear hs hs2 hb1 hbl hz1
 go_wp2
 (try simp only[Exit.inBlock,Exit.then])
 refine bodyPost_ret (results_none rfl _ _ _) rfl ?_
 exact⟨rfl,HBB.o,HB2.o⟩
theorem zap (f:Nat) (s:ByteArray) (ns:List ByteArray) (its:List VT):TextD (VT.mk 1 1 f s ns its) (trueL):=by
 intro cs p o B b bs w hp hBw hr hv hb hlen htb
 obtain⟨vn,vi,rfl,_,_,hf,_,_,_,_⟩:=hv.inv
 have HRG:=I hr
 have d0:w.cell? ⟨p,o,none⟩= some (.int .i64 1):=hr 0 _ rfl
 have HP:=I hp
 have HBw:=I hBw
 have htp:TabP w.drew:=htb.here.next (Below.refl _ w).drew
 have HC:Hid (Calls Tryz.prog 192 #[.bool true] w.drew fun e w'=>e= .returned (.string ⟨trueL.toArray⟩)/\Below w.drew.heap.size w.drew w'):=I ((z7q true w.drew).mono fun e w' h=>⟨h.1,by rw[h.2];exact Below.refl _ _⟩)
 have HWS:=I (fun z (hz:Below w.drew.heap.size w.drew z)=>z12 B b bs ⟨(trueL).toArray⟩ z (z2J (z3t hb) hz) (by rw[z4h];omega) (Nat.le_trans hBw hz.size))
 clear hr hv hb hp hBw hlen htb htp hf
 generalize hT:trueL= T at*
 clear hT
 go_enter Tryz.func174,Tryz.ntmps174
 go_upto_region 3 with (fail)
 clear d0
 refine zr [(0,true),(1,true),(2,true),(3,true),(4,true),(5,true),(6,true),(7,true),(8,false),(9,false)]
  (fun z=>Below B w z) (by kernel_rfl) (by kernel_rfl) (by kernel_rfl) rfl (by intro c a d v w h;cases d<;>exact h) ?_
 have hs:Below B w w.drew:=(Below.refl _ w).drew
 refine zh (some 13) (.pointer (some ⟨b,0,none⟩)) _ _ rfl rfl rfl (by exact wA rfl) hs rfl ?_
 go_frame
 refine z8 (some 14) (.pointer (some ⟨b,0,none⟩)) _ rfl rfl (by exact wA rfl) hs (fun z hz=>by go_simp) ?_
 go_frame
 refine z8 (some 15) (.pointer (some ⟨b,0,none⟩)) _ rfl rfl (by exact wA rfl) hs (fun z hz=>by go_simp) ?_
 go_frame
 refine zh (some 16) (.pointer (some ⟨p,o,none⟩)) _ _ rfl rfl rfl (by exact wA rfl) hs rfl ?_
 go_frame
 refine z8 (some 17) (.pointer (some ⟨p,o,none⟩)) _ rfl rfl (by exact wA rfl) hs (fun z hz=>by go_simp) ?_
 go_frame
 refine z8 (some 18) (.pointer (some ⟨p,o+1,none⟩)) _ rfl rfl (by exact wA rfl) hs (fun z hz=>by go_simp) ?_
 go_frame
 refine z8 (some 19) (.int .i64 1) _ rfl rfl (by exact wA rfl) hs (fun z hz=>by have dd:=(hz.cell (p:=⟨p,o+1,none⟩) HP.o).trans (HRG.o 1 _ rfl);go_simp) ?_
 go_frame
 refine z8 (some 20) (.bool true) _ rfl rfl (by exact wA rfl) hs (fun z hz=>by go_simp) ?_
 go_frame
 refine zC (some 21) 192 Tryz.func192 (by kernel_rfl) (by kernel_rfl) [.bool true] _ _ _ rfl rfl rfl (by exact wA rfl) rfl ?_
 refine HC.o.mono ?_
 rintro e z1 ⟨rfl,hz1⟩
 refine⟨_,rfl,hs.trans (hz1.mono HBw.o),?_⟩
 go_frame
 refine zC (some 22) 191 Tryz.func191 (by kernel_rfl) (by kernel_rfl) [.pointer (some ⟨b,0,none⟩),.string ⟨T.toArray⟩] _ _ _ rfl rfl rfl (by exact wA rfl) rfl ?_
 refine(HWS.o z1 hz1).mono ?_
 rintro e z2 ⟨rfl,hb1,hbl⟩
 have hs2:Below B w z2:=(hs.trans (hz1.mono HBw.o)).trans hbl
 refine⟨_,rfl,hs2,?_⟩
 go_frame
 refine zF ?_
 have HB2:=I hs2
 have HBB:=I hb1
 clear hs hs2 hb1 hbl hz1
 go_wp2
 (try simp only[Exit.inBlock,Exit.then])
 refine bodyPost_ret (results_none rfl _ _ _) rfl ?_
 exact⟨rfl,HBB.o,HB2.o⟩
theorem z8B (f:Nat) (s:ByteArray) (ns:List ByteArray) (its:List VT):TextD (VT.mk 1 0 f s ns its) (falseL):=by
 intro cs p o B b bs w hp hBw hr hv hb hlen htb
 obtain⟨vn,vi,rfl,_,_,hf,_,_,_,_⟩:=hv.inv
 have HRG:=I hr
 have d0:w.cell? ⟨p,o,none⟩= some (.int .i64 1):=hr 0 _ rfl
 have HP:=I hp
 have HBw:=I hBw
 have htp:TabP w.drew:=htb.here.next (Below.refl _ w).drew
 have HC:Hid (Calls Tryz.prog 192 #[.bool false] w.drew fun e w'=>e= .returned (.string ⟨falseL.toArray⟩)/\Below w.drew.heap.size w.drew w'):=I ((z7q false w.drew).mono fun e w' h=>⟨h.1,by rw[h.2];exact Below.refl _ _⟩)
 have HWS:=I (fun z (hz:Below w.drew.heap.size w.drew z)=>z12 B b bs ⟨(falseL).toArray⟩ z (z2J (z3t hb) hz) (by rw[z4h];omega) (Nat.le_trans hBw hz.size))
 clear hr hv hb hp hBw hlen htb htp hf
 generalize hT:falseL= T at*
 clear hT
 go_enter Tryz.func174,Tryz.ntmps174
 go_upto_region 3 with (fail)
 clear d0
 refine zr [(0,true),(1,true),(2,true),(3,true),(4,true),(5,true),(6,true),(7,true),(8,false),(9,false)]
  (fun z=>Below B w z) (by kernel_rfl) (by kernel_rfl) (by kernel_rfl) rfl (by intro c a d v w h;cases d<;>exact h) ?_
 have hs:Below B w w.drew:=(Below.refl _ w).drew
 refine zh (some 13) (.pointer (some ⟨b,0,none⟩)) _ _ rfl rfl rfl (by exact wA rfl) hs rfl ?_
 go_frame
 refine z8 (some 14) (.pointer (some ⟨b,0,none⟩)) _ rfl rfl (by exact wA rfl) hs (fun z hz=>by go_simp) ?_
 go_frame
 refine z8 (some 15) (.pointer (some ⟨b,0,none⟩)) _ rfl rfl (by exact wA rfl) hs (fun z hz=>by go_simp) ?_
 go_frame
 refine zh (some 16) (.pointer (some ⟨p,o,none⟩)) _ _ rfl rfl rfl (by exact wA rfl) hs rfl ?_
 go_frame
 refine z8 (some 17) (.pointer (some ⟨p,o,none⟩)) _ rfl rfl (by exact wA rfl) hs (fun z hz=>by go_simp) ?_
 go_frame
 refine z8 (some 18) (.pointer (some ⟨p,o+1,none⟩)) _ rfl rfl (by exact wA rfl) hs (fun z hz=>by go_simp) ?_
 go_frame
 refine z8 (some 19) (.int .i64 0) _ rfl rfl (by exact wA rfl) hs (fun z hz=>by have dd:=(hz.cell (p:=⟨p,o+1,none⟩) HP.o).trans (HRG.o 1 _ rfl);go_simp) ?_
 go_frame
 refine z8 (some 20) (.bool false) _ rfl rfl (by exact wA rfl) hs (fun z hz=>by go_simp) ?_
 go_frame
 refine zC (some 21) 192 Tryz.func192 (by kernel_rfl) (by kernel_rfl) [.bool false] _ _ _ rfl rfl rfl (by exact wA rfl) rfl ?_
 refine HC.o.mono ?_
 rintro e z1 ⟨rfl,hz1⟩
 refine⟨_,rfl,hs.trans (hz1.mono HBw.o),?_⟩
 go_frame
 refine zC (some 22) 191 Tryz.func191 (by kernel_rfl) (by kernel_rfl) [.pointer (some ⟨b,0,none⟩),.string ⟨T.toArray⟩] _ _ _ rfl rfl rfl (by exact wA rfl) rfl ?_
 refine(HWS.o z1 hz1).mono ?_
 rintro e z2 ⟨rfl,hb1,hbl⟩
 have hs2:Below B w z2:=(hs.trans (hz1.mono HBw.o)).trans hbl
 refine⟨_,rfl,hs2,?_⟩
 go_frame
 refine zF ?_
 have HB2:=I hs2
 have HBB:=I hb1
 clear hs hs2 hb1 hbl hz1
 go_wp2
 (try simp only[Exit.inBlock,Exit.then])
 refine bodyPost_ret (results_none rfl _ _ _) rfl ?_
 exact⟨rfl,HBB.o,HB2.o⟩
theorem zcp (n:Int) (f:Nat) (s:ByteArray) (hsz:s.size<=200) (ns:List ByteArray) (its:List VT):TextD (VT.mk 4 n f s ns its) (z2r s.data.toList):=by
 intro cs p o B b bs w hp hBw hr hv hb hlen htb
 obtain⟨vn,vi,rfl,_,_,_,_,_,_,_⟩:=hv.inv
 have d0:w.cell? ⟨p,o,none⟩= some (.int .i64 4):=hr 0 _ rfl
 have d3:=hr 3 _ rfl
 have HS:=I (zeK s B b bs w hBw hb hsz (by omega))
 clear hr hv hb hp hBw hlen htb hsz
 go_enter Tryz.func174,Tryz.ntmps174
 go_wp2_with (go_at_call 195;refine HS.o.mono ?_;rintro e w3 ⟨rfl,hb3,hbl⟩;have HB3:=I hb3;have HL3:=I hbl;clear hb3 hbl)
 (try simp only[Exit.inBlock,Exit.then])
 refine bodyPost_ret (results_none rfl _ _ _) rfl ?_
 exact⟨rfl,HB3.o,HL3.o⟩
theorem za0 (n:Int) (f:Nat) (s:ByteArray) (ns:List ByteArray) (its:List VT) (tx:Nat->List UInt8) (nm:Nat->List UInt8) (hnm:∀ i,nm i=[]) (hit:∀ i x,its[i]?= some x->TextD x (tx i)):
  TextD (.mk 5 n f s ns its) ([91] ++ (joinK (nm) tx its.length ++ [93])):=by
 intro cs p o B b bs w hp hBw hr hv hb hlen htb
 have HTB:=I htb
 clear htb
 obtain⟨vn,vi,rfl,_,_,_,_,hn,hil0,hi⟩:=hv.inv
 obtain⟨_,NA,nc,rfl,_⟩:=id hn
 obtain⟨_,A,c,rfl,hA⟩:=hi
 obtain⟨_,hnl0,hna⟩:=z1V hn
 have HNA:=I hna
 have HA:=I hA
 have HIT:=I hit
 have HNM:=I hnm
 have HRG:=I hr
 have HP:=I hp
 have HBw:=I hBw
 have HLEN:=I hlen
 have HJR:=I (fun k n=>z5a (nm) tx (k:=k) (n:=n))
 have HJ0:Hid (joinK (nm) tx 0=[]):=I rfl
 have HJS:Hid (∀ k,joinK (nm) tx (k+1)= joinK (nm) tx k ++ ((if k= 0 then[] else[44]) ++ ((nm) k ++ tx k))):=I fun _=>rfl
 have hil:(its.length:Int)<=9223372036854775807:=by unfold maxLen at hil0;omega
 have d0:w.cell? ⟨p,o,none⟩= some (.int .i64 5):=hr 0 _ rfl
 have HWO:=I (z12 B b bs ⟨#[91]⟩ w hb (by have:(⟨#[91]⟩:ByteArray).size= 1:=rfl;simp at hlen;omega) hBw)
 clear hr hv hb hp hBw hlen hit hA hna hn hnm
 generalize hJ:joinK (nm) tx= J at*
 clear hJ
 go_enter Tryz.func174,Tryz.ntmps174
 go_upto_region 13 with (go_at_call 191;refine HWO.o.mono ?_;rintro e w1 ⟨rfl,hb1,hbl⟩;have HB1:=I hb1;have HL1:=I hbl;clear hb1 hbl)
 have d5:=(HL1.o.cell (p:=⟨p,o+5,none⟩) HP.o).trans (HRG.o 5 _ rfl)
 go_wp2
 clear d0 d5
 go_loopg [65] its.length (fun q x u=>∃ k:Nat,k+q= its.length/\x= .int .i64 k/\Bld B b (bs ++ Lib.byteCells ([91] ++ J k)) u/\Below B w u)
 case atStart=>exact⟨0,by omega,rfl,by rw[HJ0.o];exact HB1.o,HL1.o⟩
 case round=>
  obtain⟨k,hk,rfl,hbb,hbw⟩:=hrel
  have HBB:=I hbb
  have HBW:=I hbw
  clear hbb hbw
  cases gk with
  |zero=>
   obtain rfl:k= its.length:=by omega
   have hge: ¬ ((its.length:Int) <(its.length:Int)):=by omega
   have HWC:=I (z12 B b _ ⟨#[93]⟩ wr (.inr HBB.o) (by have h1:(⟨#[93]⟩:ByteArray).size= 1:=rfl;have:=HLEN.o;simp[Lib.byteCells] at this ⊢;omega) (Nat.le_trans HBw.o HBW.o.size))
   go_wp2_with (go_at_call 191;refine HWC.o.mono ?_;rintro e w3 ⟨rfl,hb3,hbl⟩;have HB3:=I hb3;have HL3:=I hbl;clear hb3 hbl)
   go_end0
   exact⟨rfl,by have:=HB3.o;rw[z6B,List.append_assoc,← z6L] at this;simpa using this,HBW.o.trans HL3.o⟩
  |succ q=>
   have hlt:(k:Int) <(its.length:Int):=by omega
   obtain⟨x,hx⟩:∃ x,its[k]?= some x:=⟨_,List.getElem?_eq_getElem (by omega)⟩
   obtain⟨b1,o1,rfl,hb1,c1⟩:=HA.o (by omega)
   obtain⟨ks,_,hks,hvx⟩:=c1 k x hx
   have HTX:=I (HIT.o k x hx)
   have HKS:=I hks
   have HVX:=I hvx
   have HB1':=I hb1
   have hroom:=HJR.o k its.length (by omega)
   have HROOM:Hid (bs.length+ (1+ ((J k).length+ ((if k= 0 then([]:List UInt8) else[44]).length+ ((((nm) k:List UInt8)).length+ (tx k).length))))<=999999):=I (by have:=HLEN.o;simp only[List.length_append,List.length_singleton] at this;omega)
   have HJN:=I (HJS.o k)
   clear c1 hks hvx hx hroom
   have hnk:=HNM.o k
   rw[hnk] at HROOM HJN
   clear hnk
   by_cases hk0:k= 0
   ·subst hk0
    go_upto_region 18 with (fail)
    have dk:=(HBW.o.cell (p:=⟨p,o,none⟩) HP.o).trans (show w.cell? ⟨p,o,none⟩= some (.int .i64 5) from HRG.o 0 _ rfl)
    have dk5:=(HBW.o.cell (p:=⟨p,o+5,none⟩) HP.o).trans (HRG.o 5 _ rfl)
    have HCV:=I (HTX.o ks b1 o1 B b _ wr HB1'.o (Nat.le_trans HBw.o HBW.o.size) (zc HKS.o HBW.o HB1'.o) (HVX.o.under HBW.o) (.inr HBB.o) (by have:=HROOM.o;simp[Lib.byteCells,Lib.strCells,if_true] at this ⊢;omega) (HTB.o.next HBW.o))
    go_wp2_with (go_at_call 174;refine HCV.o.mono ?_;rintro e w9 ⟨rfl,hb9,hbl⟩;have HB9:=I hb9;have HL9:=I hbl;clear hb9 hbl)
    go_roundg q
    case measure=>omega
    case rel=>exact⟨0+1,by omega,by go_num,by
     have hE:bs ++ Lib.byteCells ([91] ++ J (0+1))=(bs ++ Lib.byteCells ([91] ++ J 0)) ++ Lib.byteCells (tx 0):=by rw[HJN.o];simp[Lib.byteCells,Lib.strCells,z4i,if_true]
     rw[hE];exact HB9.o,HBW.o.trans HL9.o⟩
   ·have t1:(0:Int) <(k:Int):=by omega
    have HK0:=I hk0
    have HWM:=I (wbyte B b _ 44 wr (.inr HBB.o) (by have:=HROOM.o;simp[Lib.byteCells,hk0] at this ⊢;omega) (Nat.le_trans HBw.o HBW.o.size))
    go_upto_region 18 with (go_at_call 196;refine HWM.o.mono ?_;rintro e w5 ⟨rfl,hb5,hbl⟩;have HB5:=I hb5;have HL5:=I (HBW.o.trans hbl);clear hb5 hbl)
    have dk:=(HL5.o.cell (p:=⟨p,o,none⟩) HP.o).trans (show w.cell? ⟨p,o,none⟩= some (.int .i64 5) from HRG.o 0 _ rfl)
    have dk5:=(HL5.o.cell (p:=⟨p,o+5,none⟩) HP.o).trans (HRG.o 5 _ rfl)
    have HCV:=I (HTX.o ks b1 (o1+k*6) B b _ w5 HB1'.o (Nat.le_trans HBw.o HL5.o.size) (zc HKS.o HL5.o HB1'.o) (HVX.o.under HL5.o) (.inr HB5.o) (by have:=HROOM.o;simp[Lib.byteCells,Lib.strCells,HK0.o] at this ⊢;omega) (HTB.o.next HL5.o))
    go_wp2_with (go_at_call 174;refine HCV.o.mono ?_;rintro e w9 ⟨rfl,hb9,hbl⟩;have HB9:=I hb9;have HL9:=I hbl;clear hb9 hbl)
    go_roundg q
    case measure=>omega
    case rel=>exact⟨k+1,by omega,by go_num,by
     have hE:bs ++ Lib.byteCells ([91] ++ J (k+1))=(bs ++ Lib.byteCells ([91] ++ J k) ++ [Value.int .u8 44]) ++ Lib.byteCells (tx k):=by rw[HJN.o];simp[Lib.byteCells,Lib.strCells,z4i,HK0.o]
     rw[hE];exact HB9.o,HL5.o.trans HL9.o⟩
theorem zbn (n:Int) (f:Nat) (s:ByteArray) (ns:List ByteArray) (its:List VT) (tx:Nat->List UInt8) (nm:Nat->List UInt8) (hnl:ns.length= its.length) (hnm:∀ i s1,ns[i]?= some s1->nm i= s1.data.toList ++ [58]) (hit:∀ i x,its[i]?= some x->TextD x (tx i)):
  TextD (.mk 6 n f s ns its) ([123] ++ (joinK (nm) tx its.length ++ [125])):=by
 intro cs p o B b bs w hp hBw hr hv hb hlen htb
 have HTB:=I htb
 clear htb
 obtain⟨vn,vi,rfl,_,_,_,_,hn,hil0,hi⟩:=hv.inv
 obtain⟨_,NA,nc,rfl,_⟩:=id hn
 obtain⟨_,A,c,rfl,hA⟩:=hi
 obtain⟨_,hnl0,hna⟩:=z1V hn
 have HNA:=I hna
 have HA:=I hA
 have HIT:=I hit
 have HNM:=I hnm
 have HRG:=I hr
 have HP:=I hp
 have HBw:=I hBw
 have HLEN:=I hlen
 have HJR:=I (fun k n=>z5a (nm) tx (k:=k) (n:=n))
 have HJ0:Hid (joinK (nm) tx 0=[]):=I rfl
 have HJS:Hid (∀ k,joinK (nm) tx (k+1)= joinK (nm) tx k ++ ((if k= 0 then[] else[44]) ++ ((nm) k ++ tx k))):=I fun _=>rfl
 have hil:(its.length:Int)<=9223372036854775807:=by unfold maxLen at hil0;omega
 have d0:w.cell? ⟨p,o,none⟩= some (.int .i64 6):=hr 0 _ rfl
 have HWO:=I (z12 B b bs ⟨#[123]⟩ w hb (by have:(⟨#[123]⟩:ByteArray).size= 1:=rfl;simp at hlen;omega) hBw)
 clear hr hv hb hp hBw hlen hit hA hna hn hnm
 generalize hJ:joinK (nm) tx= J at*
 clear hJ
 go_enter Tryz.func174,Tryz.ntmps174
 go_upto_region 13 with (go_at_call 191;refine HWO.o.mono ?_;rintro e w1 ⟨rfl,hb1,hbl⟩;have HB1:=I hb1;have HL1:=I hbl;clear hb1 hbl)
 have d5:=(HL1.o.cell (p:=⟨p,o+5,none⟩) HP.o).trans (HRG.o 5 _ rfl)
 go_wp2
 clear d0 d5
 go_loopg [65] its.length (fun q x u=>∃ k:Nat,k+q= its.length/\x= .int .i64 k/\Bld B b (bs ++ Lib.byteCells ([123] ++ J k)) u/\Below B w u)
 case atStart=>exact⟨0,by omega,rfl,by rw[HJ0.o];exact HB1.o,HL1.o⟩
 case round=>
  obtain⟨k,hk,rfl,hbb,hbw⟩:=hrel
  have HBB:=I hbb
  have HBW:=I hbw
  clear hbb hbw
  cases gk with
  |zero=>
   obtain rfl:k= its.length:=by omega
   have hge: ¬ ((its.length:Int) <(its.length:Int)):=by omega
   have HWC:=I (z12 B b _ ⟨#[125]⟩ wr (.inr HBB.o) (by have h1:(⟨#[125]⟩:ByteArray).size= 1:=rfl;have:=HLEN.o;simp[Lib.byteCells] at this ⊢;omega) (Nat.le_trans HBw.o HBW.o.size))
   go_wp2_with (go_at_call 191;refine HWC.o.mono ?_;rintro e w3 ⟨rfl,hb3,hbl⟩;have HB3:=I hb3;have HL3:=I hbl;clear hb3 hbl)
   go_end0
   exact⟨rfl,by have:=HB3.o;rw[z6B,List.append_assoc,← z6L] at this;simpa using this,HBW.o.trans HL3.o⟩
  |succ q=>
   have hlt:(k:Int) <(its.length:Int):=by omega
   obtain⟨x,hx⟩:∃ x,its[k]?= some x:=⟨_,List.getElem?_eq_getElem (by omega)⟩
   obtain⟨b1,o1,rfl,hb1,c1⟩:=HA.o (by omega)
   obtain⟨ks,_,hks,hvx⟩:=c1 k x hx
   have HTX:=I (HIT.o k x hx)
   have HKS:=I hks
   have HVX:=I hvx
   have HB1':=I hb1
   have hroom:=HJR.o k its.length (by omega)
   have HROOM:Hid (bs.length+ (1+ ((J k).length+ ((if k= 0 then([]:List UInt8) else[44]).length+ ((((nm) k:List UInt8)).length+ (tx k).length))))<=999999):=I (by have:=HLEN.o;simp only[List.length_append,List.length_singleton] at this;omega)
   have HJN:=I (HJS.o k)
   clear c1 hks hvx hx hroom
   obtain⟨s1,hs1⟩:∃ s1,ns[k]?= some s1:=⟨_,List.getElem?_eq_getElem (by omega)⟩
   obtain⟨bn,on_,rfl,hbn,cn⟩:=HNA.o (by omega)
   have HCN:=I (cn k s1 hs1).1
   have HBN:=I hbn
   have hnk:=HNM.o k s1 hs1
   rw[hnk] at HROOM HJN
   have hkn:(k:Int) <(ns.length:Int):=by omega
   have hnl3:(ns.length:Int)=(its.length:Int):=by omega
   clear cn hs1 hnk hbn
   have HSZ:Hid (s1.size+1<=1000000):=I (by
    have h2:s1.data.size= s1.size:=rfl
    have:=HROOM.o
    simp at this
    omega)
   by_cases hk0:k= 0
   ·subst hk0
    go_upto_region 18 with (fail)
    have dk:=(HBW.o.cell (p:=⟨p,o,none⟩) HP.o).trans (show w.cell? ⟨p,o,none⟩= some (.int .i64 6) from HRG.o 0 _ rfl)
    have dk5:=(HBW.o.cell (p:=⟨p,o+5,none⟩) HP.o).trans (HRG.o 5 _ rfl)
    go_upto_region 19 with (fail)
    have HWN:=I (z12 B b _ (s1 ++ ⟨#[58]⟩) wr.drew (.inr HBB.o.drew) (by
     have h1:(s1 ++ ⟨#[58]⟩:ByteArray).size= s1.size+1:=by rw[ByteArray.size_append];rfl
     have h2:s1.data.size= s1.size:=rfl
     have:=HROOM.o
     rw[h1]
     simp[Lib.byteCells,if_true] at this ⊢
     omega) (Nat.le_trans HBw.o HBW.o.size))
    clear dk dk5
    refine zr [(0,true),(1,true),(2,true),(3,true),(4,true),(5,true),(6,true),(7,true),(8,true),(9,true),(10,true),(11,false)]
     (fun z=>Below B wr z) (by kernel_rfl) (by kernel_rfl) (by kernel_rfl) rfl (by intro c a d v w h;cases d<;>exact h) ?_
    have hs:Below B wr wr.drew:=(Below.refl _ wr).drew
    refine zh (some 79) (.pointer (some ⟨b,0,none⟩)) _ _ rfl rfl rfl (by exact wA rfl) hs rfl ?_
    go_frame
    refine z8 (some 80) (.pointer (some ⟨b,0,none⟩)) _ rfl rfl (by exact wA rfl) hs (fun z hz=>by go_simp) ?_
    go_frame
    refine z8 (some 81) (.pointer (some ⟨b,0,none⟩)) _ rfl rfl (by exact wA rfl) hs (fun z hz=>by go_simp) ?_
    go_frame
    refine zh (some 82) (.pointer (some ⟨p,o,none⟩)) _ _ rfl rfl rfl (by exact wA rfl) hs rfl ?_
    go_frame
    refine z8 (some 83) (.pointer (some ⟨p,o,none⟩)) _ rfl rfl (by exact wA rfl) hs (fun z hz=>by go_simp) ?_
    go_frame
    refine z8 (some 84) (.pointer (some ⟨p,o+4,none⟩)) _ rfl rfl (by exact wA rfl) hs (fun z hz=>by go_simp) ?_
    go_frame
    refine z8 (some 85) (.slice (some ⟨bn,on_,none⟩) ns.length nc) _ rfl rfl (by exact wA rfl) hs (fun z hz=>by have dd:=((HBW.o.trans hz).cell (p:=⟨p,o+4,none⟩) HP.o).trans (HRG.o 4 _ rfl);go_simp) ?_
    go_frame
    refine zh (some 86) (.int .i64 0) _ _ rfl rfl rfl (by exact wA rfl) hs rfl ?_
    go_frame
    refine z8 (some 87) (.pointer (some ⟨bn,on_,none⟩)) _ rfl rfl (by exact wA rfl) hs (fun z hz=>by go_simp) ?_
    go_frame
    refine z8 (some 88) (.string s1) _ rfl rfl (by exact wA rfl) hs (fun z hz=>by have dd:=((HBW.o.trans hz).cell (p:=⟨bn,on_,none⟩) HBN.o).trans HCN.o;go_simp) ?_
    go_frame
    refine z8 (some 89) (.string (s1 ++ ⟨#[58]⟩)) _ rfl rfl (by exact wA rfl) hs (fun z hz=>by have hsz:=HSZ.o;go_simp;omega) ?_
    go_frame
    refine zC (some 90) 191 Tryz.func191 (by kernel_rfl) (by kernel_rfl) [.pointer (some ⟨b,0,none⟩),.string (s1 ++ ⟨#[58]⟩)] _ _ _ rfl rfl rfl (by exact wA rfl) rfl ?_
    refine HWN.o.mono ?_
    rintro e z1 ⟨rfl,hb1,hbl⟩
    have hs2:Below B wr z1:=hs.trans hbl
    refine⟨_,rfl,hs2,?_⟩
    go_frame
    refine zF ?_
    have HL8:=I hs2
    have HB8:=I hb1
    clear hs hs2 hb1 hbl
    have HBW8:=I (HBW.o.trans HL8.o)
    have dk5:=(HBW8.o.cell (p:=⟨p,o+5,none⟩) HP.o).trans (HRG.o 5 _ rfl)
    have HCV:=I (HTX.o ks b1 o1 B b _ z1 HB1'.o (Nat.le_trans HBw.o HBW8.o.size) (zc HKS.o HBW8.o HB1'.o) (HVX.o.under HBW8.o) (.inr HB8.o) (by have:=HROOM.o;simp[Lib.byteCells,Lib.strCells,if_true] at this ⊢;omega) (HTB.o.next HBW8.o))
    go_wp2_with (go_at_call 174;refine HCV.o.mono ?_;rintro e w9 ⟨rfl,hb9,hbl⟩;have HB9:=I hb9;have HL9:=I hbl;clear hb9 hbl)
    go_roundg q
    case measure=>omega
    case rel=>exact⟨0+1,by omega,by go_num,by
     have hE:bs ++ Lib.byteCells ([123] ++ J (0+1))=((bs ++ Lib.byteCells ([123] ++ J 0)) ++ Lib.strCells (s1 ++ ⟨#[58]⟩)) ++ Lib.byteCells (tx 0):=by rw[HJN.o];simp[Lib.byteCells,Lib.strCells,z4i,if_true]
     rw[hE];exact HB9.o,HBW8.o.trans HL9.o⟩
   ·have t1:(0:Int) <(k:Int):=by omega
    have HK0:=I hk0
    have HWM:=I (wbyte B b _ 44 wr (.inr HBB.o) (by have:=HROOM.o;simp[Lib.byteCells,hk0] at this ⊢;omega) (Nat.le_trans HBw.o HBW.o.size))
    go_upto_region 18 with (go_at_call 196;refine HWM.o.mono ?_;rintro e w5 ⟨rfl,hb5,hbl⟩;have HB5:=I hb5;have HL5:=I (HBW.o.trans hbl);clear hb5 hbl)
    have dk:=(HL5.o.cell (p:=⟨p,o,none⟩) HP.o).trans (show w.cell? ⟨p,o,none⟩= some (.int .i64 6) from HRG.o 0 _ rfl)
    have dk5:=(HL5.o.cell (p:=⟨p,o+5,none⟩) HP.o).trans (HRG.o 5 _ rfl)
    go_upto_region 19 with (fail)
    have HWN:=I (z12 B b _ (s1 ++ ⟨#[58]⟩) w5.drew (.inr HB5.o.drew) (by
     have h1:(s1 ++ ⟨#[58]⟩:ByteArray).size= s1.size+1:=by rw[ByteArray.size_append];rfl
     have h2:s1.data.size= s1.size:=rfl
     have:=HROOM.o
     rw[h1]
     simp[Lib.byteCells,HK0.o] at this ⊢
     omega) (Nat.le_trans HBw.o HL5.o.size))
    clear dk dk5
    refine zr [(0,true),(1,true),(2,true),(3,true),(4,true),(5,true),(6,true),(7,true),(8,true),(9,true),(10,true),(11,false)]
     (fun z=>Below B w5 z) (by kernel_rfl) (by kernel_rfl) (by kernel_rfl) rfl (by intro c a d v w h;cases d<;>exact h) ?_
    have hs:Below B w5 w5.drew:=(Below.refl _ w5).drew
    refine zh (some 79) (.pointer (some ⟨b,0,none⟩)) _ _ rfl rfl rfl (by exact wA rfl) hs rfl ?_
    go_frame
    refine z8 (some 80) (.pointer (some ⟨b,0,none⟩)) _ rfl rfl (by exact wA rfl) hs (fun z hz=>by go_simp) ?_
    go_frame
    refine z8 (some 81) (.pointer (some ⟨b,0,none⟩)) _ rfl rfl (by exact wA rfl) hs (fun z hz=>by go_simp) ?_
    go_frame
    refine zh (some 82) (.pointer (some ⟨p,o,none⟩)) _ _ rfl rfl rfl (by exact wA rfl) hs rfl ?_
    go_frame
    refine z8 (some 83) (.pointer (some ⟨p,o,none⟩)) _ rfl rfl (by exact wA rfl) hs (fun z hz=>by go_simp) ?_
    go_frame
    refine z8 (some 84) (.pointer (some ⟨p,o+4,none⟩)) _ rfl rfl (by exact wA rfl) hs (fun z hz=>by go_simp) ?_
    go_frame
    refine z8 (some 85) (.slice (some ⟨bn,on_,none⟩) ns.length nc) _ rfl rfl (by exact wA rfl) hs (fun z hz=>by have dd:=((HL5.o.trans hz).cell (p:=⟨p,o+4,none⟩) HP.o).trans (HRG.o 4 _ rfl);go_simp) ?_
    go_frame
    refine zh (some 86) (.int .i64 k) _ _ rfl rfl rfl (by exact wA rfl) hs rfl ?_
    go_frame
    refine z8 (some 87) (.pointer (some ⟨bn,on_+k,none⟩)) _ rfl rfl (by exact wA rfl) hs (fun z hz=>by go_simp) ?_
    go_frame
    refine z8 (some 88) (.string s1) _ rfl rfl (by exact wA rfl) hs (fun z hz=>by have dd:=((HL5.o.trans hz).cell (p:=⟨bn,on_+k,none⟩) HBN.o).trans HCN.o;go_simp) ?_
    go_frame
    refine z8 (some 89) (.string (s1 ++ ⟨#[58]⟩)) _ rfl rfl (by exact wA rfl) hs (fun z hz=>by have hsz:=HSZ.o;go_simp;omega) ?_
    go_frame
    refine zC (some 90) 191 Tryz.func191 (by kernel_rfl) (by kernel_rfl) [.pointer (some ⟨b,0,none⟩),.string (s1 ++ ⟨#[58]⟩)] _ _ _ rfl rfl rfl (by exact wA rfl) rfl ?_
    refine HWN.o.mono ?_
    rintro e z1 ⟨rfl,hb1,hbl⟩
    have hs2:Below B w5 z1:=hs.trans hbl
    refine⟨_,rfl,hs2,?_⟩
    go_frame
    refine zF ?_
    have HL8:=I hs2
    have HB8:=I hb1
    clear hs hs2 hb1 hbl
    have HBW8:=I (HL5.o.trans HL8.o)
    have dk5:=(HBW8.o.cell (p:=⟨p,o+5,none⟩) HP.o).trans (HRG.o 5 _ rfl)
    have HCV:=I (HTX.o ks b1 (o1+k*6) B b _ z1 HB1'.o (Nat.le_trans HBw.o HBW8.o.size) (zc HKS.o HBW8.o HB1'.o) (HVX.o.under HBW8.o) (.inr HB8.o) (by have:=HROOM.o;simp[Lib.byteCells,Lib.strCells,HK0.o] at this ⊢;omega) (HTB.o.next HBW8.o))
    go_wp2_with (go_at_call 174;refine HCV.o.mono ?_;rintro e w9 ⟨rfl,hb9,hbl⟩;have HB9:=I hb9;have HL9:=I hbl;clear hb9 hbl)
    go_roundg q
    case measure=>omega
    case rel=>exact⟨k+1,by omega,by go_num,by
     have hE:bs ++ Lib.byteCells ([123] ++ J (k+1))=((bs ++ Lib.byteCells ([123] ++ J k) ++ [Value.int .u8 44]) ++ Lib.strCells (s1 ++ ⟨#[58]⟩)) ++ Lib.byteCells (tx k):=by rw[HJN.o];simp[Lib.byteCells,Lib.strCells,z4i,HK0.o]
     rw[hE];exact HB9.o,HBW8.o.trans HL9.o⟩
end
section
open Go Go.RowKit
theorem zaO (t:VT) (txt:List UInt8) (ht:TextD t txt) (h0:txt≠[]) (hl:txt.length<=1000000) (hr:(decide (cntV t 0<=200) && zu t 1)= true) (cs:List Value) (w:World) (htb:TabP w) (hv:ValAt w w.heap.size cs t):
  Calls Tryz.prog 159 #[.agg ⟨cs⟩] w fun e w'=>e= .returned (.tuple #[.string ⟨txt.toArray⟩,.int .i64 0])/\Below w.heap.size w w':=by
 have HB1:=I (zd w (.cells ⟨cs⟩ 52))
 have HS1:=I (zL w (.cells ⟨cs⟩ 52))
 have HR1:=I (zD w cs 52)
 have HL:=I (zo hv)
 have HV:=I hv
 have HT:=I ht
 have HTB:=I htb
 clear htb
 have H0:=I (And.intro h0 hl)
 have HRT:=I (z1x t cs (w.alloc (.cells ⟨cs⟩ 52)) (hv.next HB1.o))
 rw[hr] at HRT
 clear hv ht h0 hl hr
 go_enter Tryz.func159,Tryz.ntmps159
 go_upto_region 1 with (fail)
 generalize w.alloc (.cells ⟨cs⟩ 52)= W at*
 go_upto_region 4 with (first|((with_reducible refine za 52 _ rfl ?_ w.heap.size 0 cs _ rfl HR1.o Tryz.underlying52 rfl ?_ ?_);exact wA rfl;rw[HL.o.1];kernel_rfl)|(go_at_call 61;refine HRT.o.mono ?_;rintro e w2 ⟨rfl,hb2⟩;have HB2:=I hb2;clear hb2))
 have HBN:=I (zeu w2)
 have HB3:=I (zd w2 (.cells #[.pointer none,.slice none 0 0] 228))
 have HS3:=I (zL w2 (.cells #[.pointer none,.slice none 0 0] 228))
 generalize w2.alloc (.cells #[.pointer none,.slice none 0 0] 228)= W3 at*
 obtain⟨B,hB⟩:∃ B,w2.heap.size= B:=⟨_,rfl⟩
 rw[hB] at HBN HB3 HS3
 rw[hB]
 have HWB:Hid (w.heap.size < B):=I (hB▸Nat.lt_of_lt_of_le HS1.o HB2.o.size)
 have HBW2:=I (HB1.o.trans (HB2.o.mono HB1.o.size))
 have HBW3:=I (HBW2.o.trans (HB3.o.mono (Nat.le_of_lt HWB.o)))
 have HR3:=I (zc (zc HR1.o HB2.o HS1.o) HB3.o HWB.o)
 have HCT:=I (HT.o cs w.heap.size 0 B B [] W3 HWB.o (Nat.le_of_lt HS3.o) HR3.o ((HV.o.under HBW3.o).more (Nat.le_of_lt HWB.o)) HBN.o (by simpa using H0.o.2) ⟨w,Nat.le_of_lt HWB.o,HTB.o,HBW3.o⟩)
 clear hB HR1 HB1 HB2 HRT HT HR3 HBN
 go_wp2_with (first|(go_at_call 174;refine HCT.o.mono ?_;rintro e w4 ⟨rfl,hb4,hbl⟩;have HB4:=I hb4;have HL4:=I hbl;clear hb4 hbl)|(go_at_call 175;refine(zeq B B txt _ HB4.o H0.o.1).mono ?_;rintro e w5 ⟨rfl,hbl⟩;have HL5:=I hbl;clear hbl))
 go_ret2
 exact⟨rfl,HBW3.o.trans ((HL4.o.trans HL5.o).mono (Nat.le_of_lt HWB.o))⟩
theorem z5M (r:Bool) (x:VT):∀ (l:List VT) (first:Bool) (ns:List ByteArray),textL r first ns (l ++ [x]) =
  textL r first ns l ++ ((if first= true/\l=[] then[] else[44]) ++ ((if r= true then((ns.drop l.length).headD default).data.toList ++ [58] else[]) ++ textV x))
 |[],first,ns=>by
  rw[List.nil_append,textL,textL,textL]
  simp
 |a::l,first,ns=>by
  rw[List.cons_append,textL,z5M r x l false ns.tail,textL]
  rw[if_neg (show ¬ (false= true/\l=[]) by simp),if_neg (show ¬ (first= true/\a::l=[]) by simp)]
  rw[show(ns.tail.drop l.length)= ns.drop (a::l).length by rw[List.drop_tail];rfl]
  simp only[List.append_assoc]
theorem z3M (r:Bool) (ns:List ByteArray) (its:List VT) (nm tx:Nat->List UInt8) (hnm:∀ k,k < its.length->nm k= if r= true then((ns.drop k).headD default).data.toList ++ [58] else[])
  (htx:∀ k x,its[k]?= some x->tx k= textV x):∀ k,k<=its.length->joinK nm tx k= textL r true ns (its.take k)
 |0,_=>by rw[List.take_zero,textL];rfl
 |k+1,h=>by
  obtain⟨x,hx⟩:∃ x,its[k]?= some x:=⟨_,List.getElem?_eq_getElem (by omega)⟩
  have hk:(its.take k).length= k:=by rw[List.length_take];omega
  rw[List.take_add_one,hx]
  show joinK nm tx k ++ ((if k= 0 then[] else[44]) ++ (nm k ++ tx k))= textL r true ns (its.take k ++ [x])
  rw[z5M,z3M r ns its nm tx hnm htx k (by omega),hnm k (by omega),htx k x hx,hk]
  have:(true= true/\its.take k=[])↔k= 0:=by
   constructor
   ·rintro⟨_,h2⟩;rw[h2] at hk;exact hk.symm
   ·rintro rfl;exact⟨rfl,List.take_zero⟩
  by_cases h0:k= 0
  ·rw[if_pos h0,if_pos (this.2 h0)]
  ·rw[if_neg h0,if_neg (fun e=>h0 (this.1 e))]
theorem z5q (k n:Int) (f:Nat) (s:ByteArray) (ns:List ByteArray) (its:List VT):
  (k= 1->textV (.mk k n f s ns its)= if n= 1 then trueL else falseL)/\(k= 2->textV (.mk k n f s ns its)= Lib.itoa n)/\(k= 3->textV (.mk k n f s ns its)= textF f)/\
  (k= 4->textV (.mk k n f s ns its)= z2r s.data.toList)/\(k= 5->textV (.mk k n f s ns its)=[91] ++ (textL false true ns its ++ [93]))/\(k= 6->textV (.mk k n f s ns its)=[123] ++ (textL true true ns its ++ [125])):=by
 refine⟨?_,?_,?_,?_,?_,?_⟩<;>(rintro rfl;rw[textV])
 ·rw[if_pos rfl]
 ·rw[if_neg (by decide),if_pos rfl]
 ·rw[if_neg (by decide),if_neg (by decide),if_pos rfl]
 ·rw[if_neg (by decide),if_neg (by decide),if_neg (by decide),if_pos rfl]
 ·rw[if_neg (by decide),if_neg (by decide),if_neg (by decide),if_neg (by decide)];rfl
 ·rw[if_neg (by decide),if_neg (by decide),if_neg (by decide),if_neg (by decide)];rfl
theorem zcF (t:VT):saneV t->∀ d,zu t d= true->TextD t (textV t):=by
 induction t using VT.ind with
 |h k n f s ns its ih=>
  intro hs d hr
  rw[saneV] at hs
  obtain⟨e1,e2,e3,e4,e5,e6⟩:=z5q k n f s ns its
  rcases z1X hr with ⟨rfl,hn,_,_⟩|⟨rfl,_,_⟩|⟨rfl,_,_⟩|⟨rfl,h4,_,_⟩|⟨rfl,h5,h6⟩|⟨rfl,h5,h6,h7⟩
  ·rw[e1 rfl]
   rcases hn with rfl|rfl
   ·exact z8B f s ns its
   ·exact zap f s ns its
  ·rw[e2 rfl];exact zb1 n hs.1.1 hs.1.2 f s ns its
  ·rw[e3 rfl];exact zb6 n f s ns its
  ·rw[e4 rfl];exact zcp n f s h4 ns its
  ·rw[e5 rfl]
   have hit:∀ i x,its[i]?= some x->TextD x (((its[i]?).map textV).getD []):=fun i x hx=>by
    rw[hx]
    have hm:=List.mem_of_getElem? hx
    exact ih x hm (z38 hs.2.2 x hm) (d+1) (z1W h6 x hm)
   have h:=za0 n f s ns its (fun i=>((its[i]?).map textV).getD []) (fun _=>[]) (fun _=>rfl) hit
   have hj:=z3M false ns its (fun _=>[]) (fun i=>((its[i]?).map textV).getD []) (fun _ _=>rfl) (fun k x hx=>by simp only[hx];rfl) its.length (Nat.le_refl _)
   rw[List.take_length] at hj
   rw[hj] at h
   exact h
  ·rw[e6 rfl]
   have hit:∀ i x,its[i]?= some x->TextD x (((its[i]?).map textV).getD []):=fun i x hx=>by
    rw[hx]
    have hm:=List.mem_of_getElem? hx
    exact ih x hm (z38 hs.2.2 x hm) (d+1) (z1W h7 x hm)
   have h:=zbn n f s ns its (fun i=>((its[i]?).map textV).getD []) (fun i=>((ns.drop i).headD default).data.toList ++ [58]) h5 (fun i s1 h1=>by
    have:(ns.drop i).headD default= s1:=by rw[z06 h1];rfl
    rw[this]) hit
   have hj:=z3M true ns its (fun i=>((ns.drop i).headD default).data.toList ++ [58]) (fun i=>((its[i]?).map textV).getD []) (fun _ _=>rfl) (fun k x hx=>by simp only[hx];rfl) its.length (Nat.le_refl _)
   rw[List.take_length] at hj
   rw[hj] at h
   exact h
theorem zdD {t:VT} {d:Nat} (hr:zu t d= true):textV t≠[]:=by
 cases t with
 |mk k n f s ns its=>
  obtain⟨e1,e2,e3,e4,e5,e6⟩:=z5q k n f s ns its
  rcases z1X hr with ⟨rfl,hn,_,_⟩|⟨rfl,_,_⟩|⟨rfl,_,_⟩|⟨rfl,h4,_,_⟩|⟨rfl,h5,h6⟩|⟨rfl,h5,h6,h7⟩
  ·rw[e1 rfl];split<;>decide
  ·rw[e2 rfl]
   rcases z9D n with ⟨_,e⟩|⟨_,e⟩
   ·rw[e];exact zaM _
   ·rw[e];simp
  ·rw[e3 rfl,zbf]
   cases keyF f with
   |none=>decide
   |some q=>
    obtain⟨s,p⟩:=q
    obtain⟨c,t,h,_⟩:=zbE p []
    rw[List.append_nil] at h
    show(if s= true then[45] else[]) ++ bodyF p≠[]
    rw[h];simp
  ·rw[e4 rfl];simp[z2r]
  ·rw[e5 rfl];simp
  ·rw[e6 rfl];simp
def z5D (t:VT):Bool:=decide (cntV t 0<=200) && zu t 1
theorem zdE (t:VT) (cs:List Value) (w:World) (htb:TabP w) (hv:ValAt w w.heap.size cs t):
  Calls Tryz.prog 159 #[.agg ⟨cs⟩] w fun e w'=>e= .returned (.tuple (if z5D t= true then #[.string ⟨(textV t).toArray⟩,.int .i64 0] else #[.string ⟨#[]⟩,.int .i64 5]))/\Below w.heap.size w w':=by
 cases hr:z5D t with
 |true=>
  have hr2:=hr
  unfold z5D at hr2
  rw[Bool.and_eq_true] at hr2
  have hs:=z9p t cs hv
  exact zaO t (textV t) (zcF t hs 1 hr2.2) (zdD hr2.2) (Nat.le_trans (z7e hs hr) (by decide)) hr cs w htb hv
 |false=>exact zeQ t hr cs w hv
end
end Go.Proofs.YtdjfpcmlffekkaaGreatDoor
