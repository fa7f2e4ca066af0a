/- Parts of a proof: Text2, Top2. -/
import Derived.Laws.IdiomStrings
import Derived.Test.YtdjfpcmlffekkaaGreatDoorPackG20
import Derived.Test.YtdjfpcmlffekkaaGreatDoorPackG24
import Derived.Test.YtdjfpcmlffekkaaGreatDoorPackG28
set_option maxHeartbeats 8000000
set_option maxRecDepth 100000
set_option linter.unusedVariables false
set_option linter.unusedSimpArgs false
namespace Go.Proofs.YtdjfpcmlffekkaaGreatDoor
section
open Go Go.RowKit
def TabB (B:Nat) (w:World):Prop:=∃ w0:World,w0.heap.size<=B/\TabP w0/\Below w0.heap.size w0 w
theorem TabB.here {B:Nat} {w:World} (h:TabB B w):TabP w:=let ⟨_,_,h1,h2⟩:=h;h1.next h2
theorem TabB.next {B:Nat} {w w':World} (h:TabB B w) (hb:Below B w w'):TabB B w':=let ⟨w0,h0,h1,h2⟩:=h;⟨w0,h0,h1,h2.trans (hb.mono h0)⟩
theorem TabP.low {w:World} (h:TabP w):TabB w.heap.size w:=⟨w,Nat.le_refl _,h,Below.refl _ _⟩
def TextD (t:VT) (txt:List UInt8):Prop:=∀ (cs:List Value) (p o B b:Nat) (bs:List Value) (w:World),p < B->B<=w.heap.size->w.rangeAt p o cs->ValAt w B cs t->Bld0 B b bs w->bs.length+txt.length<=1000000->TabB B w->
 Calls Tryz.prog 174 #[.pointer (some ⟨b,0,none⟩),.pointer (some ⟨p,o,none⟩)] w fun e w'=>e= .returned (.tuple #[])/\(Bld B b (bs ++ Lib.byteCells txt) w'/\Below B w w')
theorem zcG (l:List UInt8) (c:UInt8):escL (l ++ [c])= escL l ++ ((if c= 34\/c= 92 then[92] else[]) ++ [c]):=by
 induction l with
 |nil=>rfl
 |cons a l ih=>rw[List.cons_append,escL,ih,escL];simp
theorem zcH {l:List UInt8} {k:Nat} {c:UInt8} (h:l[k]?= some c):escL (l.take (k+1))= escL (l.take k) ++ ((if c= 34\/c= 92 then[92] else[]) ++ [c]):=by
 rw[← zcG,List.take_add_one,h];rfl
theorem zcF (l:List UInt8) (k:Nat):(escL (l.take k)).length<=2*k:=by
 have h1:=z4A (l.take k);have h2:(l.take k).length<=k:=by rw[List.length_take];exact Nat.min_le_left _ _
 omega
theorem z6T (b:Bool) (w:World):Calls Tryz.prog 192 #[.bool b] w fun e w'=>e= .returned (.string ⟨(if b= true then trueL else falseL).toArray⟩)/\w'= w:=by
 cases b with
 |true=>
  go_enter Tryz.func192,Tryz.ntmps192;go_wp2_with (go_at_call 205;refine(show Calls Tryz.prog 205 #[.bool true] w fun e w'=>e= .returned (.string ⟨trueL.toArray⟩)/\w'= w from by (go_enter Tryz.func205,Tryz.ntmps205;go_wp2;go_ret;exact⟨rfl,rfl⟩)).mono ?_;rintro e z ⟨rfl,rfl⟩);go_ret;exact⟨rfl,rfl⟩
 |false=>
  go_enter Tryz.func192,Tryz.ntmps192;go_wp2_with (go_at_call 205;refine(show Calls Tryz.prog 205 #[.bool false] w fun e w'=>e= .returned (.string ⟨falseL.toArray⟩)/\w'= w from by (go_enter Tryz.func205,Tryz.ntmps205;go_wp2;go_ret;exact⟨rfl,rfl⟩)).mono ?_;rintro e z ⟨rfl,rfl⟩);go_ret;exact⟨rfl,rfl⟩
theorem zem (s:ByteArray) (B b:Nat) (bs:List Value) (w:World) (hBw:B<=w.heap.size) (hb:Bld0 B b bs w) (hsz:s.size<=200) (hlen:bs.length+ (2*s.size+2)<=2000000):
  Calls Tryz.prog 195 #[.pointer (some ⟨b,0,none⟩),.string s] w fun e w'=>e= .returned (.tuple #[])/\(Bld B b (bs ++ Lib.byteCells (z2n s.data.toList)) w'/\Below B w w'):=by
 have H1:=I (wbyte B b bs 34 w hb (by omega) hBw);have X:=I (And.intro hBw (And.intro hlen hsz));have c8:∀ W:World,(convert 9 131 (.string s)).run Tryz.prog W= .ok (.slice (some ⟨W.heap.size,0,none⟩) s.size (grownCap W s.size 0 5)) (W.drew.alloc (.cells (bytesRow s (grownCap W s.size 0 5)) 5 ((bytesRow s (grownCap W s.size 0 5)).size,(bytesRow s (grownCap W s.size 0 5)).size+1))):=fun W=>run_bytes_of_string W _ _ _ s Tryz.underlying9 Tryz.underlying131 Tryz.underlying5;have b2:Hid (s.data.toList.length= s.size):=I (by cases s;rfl);have c5:=I (fun(k:Nat) (c:UInt8)=>zcH (l:=s.data.toList) (k:=k) (c:=c));have c4:=I (fun(k:Nat)=>zcF s.data.toList k);have b9:Hid (escL (s.data.toList.take s.size)= escL s.data.toList):=I (by rw[List.take_of_length_le (Nat.le_of_eq b2.o)]);have HQ:Hid (z2n s.data.toList=[34] ++ (escL s.data.toList ++ [34])):=I rfl;have d3:(s.size:Int)<=200:=by omega
 clear hBw hlen hb hsz;go_enter Tryz.func195,Tryz.ntmps195;go_upto_region 1 with (go_at_call 196;refine H1.o.mono ?_;rintro e w1 ⟨rfl,b4,g⟩;have b7:=I b4;have b1:=I g;clear b4 g);go_upto_region 2 with (fail);have b8:Hid (∀ (k:Nat) c,s.data.toList[k]?= some c->((w1.alloc (Obj.cells (bytesRow s (grownCap w1 s.size 0 5)) 5 ((bytesRow s (grownCap w1 s.size 0 5)).size,(bytesRow s (grownCap w1 s.size 0 5)).size+1))).drew).heap[w1.heap.size]?= some (.cells (bytesRow s (grownCap w1 s.size 0 5)) 5 ((bytesRow s (grownCap w1 s.size 0 5)).size,(bytesRow s (grownCap w1 s.size 0 5)).size+1))/\(bytesRow s (grownCap w1 s.size 0 5))[k]?= some (.int .u8 c.toNat)):=I (fun k c h=>⟨heap_alloc_new w1 _,z4f s _ k h⟩);have a7:Hid (Below w1.heap.size w1 ((w1.alloc (Obj.cells (bytesRow s (grownCap w1 s.size 0 5)) 5 ((bytesRow s (grownCap w1 s.size 0 5)).size,(bytesRow s (grownCap w1 s.size 0 5)).size+1))).drew)):=I (zc w1 _).drew;generalize (w1.alloc (Obj.cells (bytesRow s (grownCap w1 s.size 0 5)) 5 ((bytesRow s (grownCap w1 s.size 0 5)).size,(bytesRow s (grownCap w1 s.size 0 5)).size+1))).drew= W2 at*;generalize bytesRow s (grownCap w1 s.size 0 5)= BR at*;generalize grownCap w1 s.size 0 5= cp at*;clear c8 H1;have a8:=I (z4x b7.o a7.o);have a9:=I (b1.o.trans (a7.o.mono (Nat.le_trans X.o.1 b1.o.size)));go_loopg [13] s.size (fun q x u=>∃ k:Nat,k+q= s.size/\x= .int .i64 k/\Bld B b (bs ++ Lib.byteCells ([34] ++ escL (s.data.toList.take k))) u/\Below B w u/\Fz W2 u);case atStart=>exact⟨0,by omega,rfl,a8.o,a9.o,Fz.refl _⟩
 case round=>
  obtain⟨k,hk,rfl,b5,b6,C⟩:=hrel;have a2:=I b5;have F:=I b6;have Y:=I C;have O:=I (c4.o k);clear b5 b6 C;cases gk with
  |zero=>
   obtain rfl:k= s.size:=by omega
   have d1: ¬ ((s.size:Int) <(s.size:Int)):=by omega
   have c6:=I (wbyte B b _ 34 wr (.inr a2.o) (by have h1:=X.o.2;have h2:=O.o;simp only[List.length_append,Lib.byteCells_length,List.length_cons,List.length_nil];omega) (Nat.le_trans X.o.1 F.o.size));go_wp2_with (go_at_call 196;refine c6.o.mono ?_;rintro e w3 ⟨rfl,A,g⟩;have K:=I A;have G:=I g;clear A g)
   go_end0
   exact⟨rfl,by have:=K.o;rw[b9.o] at this;rw[HQ.o];simpa [Lib.byteCells] using this,F.o.trans G.o⟩
  |succ q=>
   have d2:(k:Int) <(s.size:Int):=by omega
   obtain⟨c,hc⟩:∃ c,s.data.toList[k]?= some c:=⟨_,List.getElem?_eq_getElem (by rw[b2.o];omega)⟩;have a3:=b8.o k c hc;have b3:=Y.o _ _ _ _ a3.1 (by simp);have dk:wr.cell? ⟨w1.heap.size,k,none⟩= some (.int .u8 c.toNat):=(cell_of_row wr w1.heap.size k BR 5 _ b3).trans a3.2;have HE:=I (c5.o k c hc);clear hc a3 b3;by_cases hq:c= 34\/c= 92
   ·rw[if_pos hq] at HE
    have a0:=I (z5y B b _ 92 wr (.inr a2.o) (by have h1:=X.o.2;have h2:=O.o;simp only[List.length_append,Lib.byteCells_length,List.length_cons,List.length_nil];omega) (Nat.le_trans X.o.1 F.o.size));rcases hq with rfl|rfl
    ·have a6:=I (fun w4 (h:Bld B b (bs ++ Lib.byteCells ([34] ++ escL (s.data.toList.take k)) ++ [.int .u8 92]) w4) (h2:Below B wr w4)=>z5y B b _ 34 w4 (.inr h) (by have h1:=X.o.2;have h2:=O.o;simp only[List.length_append,Lib.byteCells_length,List.length_cons,List.length_nil];omega) (Nat.le_trans X.o.1 (Nat.le_trans F.o.size h2.size)))
     go_upto_region 5 with (fail);go_upto_region 6 with (go_at_call 196;refine a0.o.mono ?_;rintro e w3 ⟨rfl,A,g,C⟩;have K:=I A;have G:=I g;have N:=I C;clear A g C);go_wp2_with (go_at_call 196;refine(a6.o _ K.o G.o).mono ?_;rintro e w5 ⟨rfl,A,g,C⟩;have a1:=I A;have a5:=I g;have a4:=I C;clear A g C);go_roundg q;case measure=>omega
     case rel=>exact⟨k+1,by omega,by go_num,by have:=a1.o;rw[HE.o];simpa [Lib.byteCells] using this,F.o.trans (G.o.trans a5.o),Y.o.trans (N.o.trans a4.o)⟩
    ·have a6:=I (fun w4 (h:Bld B b (bs ++ Lib.byteCells ([34] ++ escL (s.data.toList.take k)) ++ [.int .u8 92]) w4) (h2:Below B wr w4)=>z5y B b _ 92 w4 (.inr h) (by have h1:=X.o.2;have h2:=O.o;simp only[List.length_append,Lib.byteCells_length,List.length_cons,List.length_nil];omega) (Nat.le_trans X.o.1 (Nat.le_trans F.o.size h2.size)))
     go_upto_region 5 with (fail);go_upto_region 6 with (go_at_call 196;refine a0.o.mono ?_;rintro e w3 ⟨rfl,A,g,C⟩;have K:=I A;have G:=I g;have N:=I C;clear A g C);go_wp2_with (go_at_call 196;refine(a6.o _ K.o G.o).mono ?_;rintro e w5 ⟨rfl,A,g,C⟩;have a1:=I A;have a5:=I g;have a4:=I C;clear A g C);go_roundg q;case measure=>omega
     case rel=>exact⟨k+1,by omega,by go_num,by have:=a1.o;rw[HE.o];simpa [Lib.byteCells] using this,F.o.trans (G.o.trans a5.o),Y.o.trans (N.o.trans a4.o)⟩
   ·rw[if_neg hq] at HE
    have t34: ¬ ((c.toNat:Int)= 34):=fun h=>hq (.inl (UInt8.toNat_inj.1 (by simpa using (by omega:c.toNat= 34))));have t92: ¬ ((c.toNat:Int)= 92):=fun h=>hq (.inr (UInt8.toNat_inj.1 (by simpa using (by omega:c.toNat= 92))));have a0:=I (z5y B b _ (c.toNat:Int) wr (.inr a2.o) (by have h1:=X.o.2;have h2:=O.o;simp only[List.length_append,Lib.byteCells_length,List.length_cons,List.length_nil];omega) (Nat.le_trans X.o.1 F.o.size));have e34:((c.toNat:Int) ==34)= false:=by rw[beq_eq_false_iff_ne];exact t34
    have e92:((c.toNat:Int) ==92)= false:=by rw[beq_eq_false_iff_ne];exact t92
    clear hq t34 t92;go_wp2_with (go_at_call 196;refine a0.o.mono ?_;rintro e w3 ⟨rfl,A,g,C⟩;have K:=I A;have G:=I g;have N:=I C;clear A g C);go_roundg q;case measure=>omega
    case rel=>exact⟨k+1,by omega,by go_num,by have:=K.o;rw[HE.o];simpa [Lib.byteCells] using this,F.o.trans G.o,Y.o.trans N.o⟩
theorem z2r {B b:Nat} {bs:List Value} {w w':World} (h:Bld0 B b bs w) (hb:Below w.heap.size w w'):Bld0 B b bs w':=h.elim (fun h=> .inl (z4x h hb)) (fun h=> .inr (z4x h hb))
theorem z48 (l:List UInt8):(⟨l.toArray⟩:ByteArray).size= l.length:=by simp[ByteArray.size]
theorem zbw (n:Int) (h0: -9223372036854775808<=n) (h1:n<=9223372036854775807) (f:Nat) (s:ByteArray) (ns:List ByteArray) (its:List VT):TextD (VT.mk 2 n f s ns its) (Lib.itoa n):=by
 intro cs p o B b bs w hp C hr hv hb O X;obtain⟨vn,vi,rfl,_,_,hf,_,_,_,_⟩:=hv.inv;have a2:=I hr;have d0:w.cell? ⟨p,o,none⟩= some (.int .i64 2):=hr 0 _ rfl;have HP:=I hp;have G:=I C;have Y:TabP w.drew:=X.here.next (Below.refl _ w).drew;have HC:=I (z6K n h0 h1 w.drew Y);have a3:=I (fun z (hz:Below w.drew.heap.size w.drew z)=>z10 B b bs ⟨(Lib.itoa n).toArray⟩ z (z2r (z2R hb) hz) (by rw[z48];omega) (Nat.le_trans C hz.size));clear hr hv hb hp C O X Y hf h0 h1;generalize hT:Lib.itoa n= T at*;clear hT;go_enter Tryz.func174,Tryz.ntmps174;go_upto_region 5 with (fail);clear d0;refine zr [(0,true),(1,true),(2,true),(3,true),(4,true),(5,true),(6,true),(7,false),(8,false)] (fun z=>Below B w z) (by kernel_rfl) (by intro c a d v w h;cases d<;>exact h) ?_;have g:Below B w w.drew:=(Below.refl _ w).drew;refine zf 25 (.pointer (some ⟨b,0,none⟩)) rfl rfl rfl rfl g rfl ?_;go_frame;refine z7 26 (.pointer (some ⟨b,0,none⟩)) rfl rfl rfl g (fun z hz=>by go_simp) ?_;go_frame;refine z7 27 (.pointer (some ⟨b,0,none⟩)) rfl rfl rfl g (fun z hz=>by go_simp) ?_;go_frame;refine zf 28 (.pointer (some ⟨p,o,none⟩)) rfl rfl rfl rfl g rfl ?_;go_frame;refine z7 29 (.pointer (some ⟨p,o,none⟩)) rfl rfl rfl g (fun z hz=>by go_simp) ?_;go_frame;refine z7 30 (.pointer (some ⟨p,o+1,none⟩)) rfl rfl rfl g (fun z hz=>by go_simp) ?_;go_frame;refine z7 31 (.int .i64 n) rfl rfl rfl g (fun z hz=>by have dd:=(hz.cell (p:=⟨p,o+1,none⟩) HP.o).trans (a2.o 1 _ rfl);go_simp) ?_;go_frame;refine zv 32 193 Tryz.func193 (by kernel_rfl) [.int .i64 n,.int .i64 10] rfl rfl rfl rfl rfl ?_;refine HC.o.mono ?_;rintro e z1 ⟨rfl,A⟩;refine⟨_,rfl,g.trans (A.mono G.o),?_⟩;go_frame;refine zv 33 191 Tryz.func191 (by kernel_rfl) [.pointer (some ⟨b,0,none⟩),.string ⟨T.toArray⟩] rfl rfl rfl rfl rfl ?_;refine(a3.o z1 A).mono ?_;rintro e z2 ⟨rfl,K,N⟩;have F:Below B w z2:=(g.trans (A.mono G.o)).trans N;refine⟨_,rfl,F,?_⟩;go_frame;refine zF ?_;have a0:=I F;have a1:=I K;clear g F K N A;go_wp2
 (try simp only[Exit.inBlock,Exit.then])
 refine bodyPost_ret (results_none rfl _ _ _) rfl ?_;exact⟨rfl,a1.o,a0.o⟩
theorem zbv (n:Int) (f:Nat) (s:ByteArray) (ns:List ByteArray) (its:List VT):TextD (VT.mk 3 n f s ns its) (textF f):=by
 intro cs p o B b bs w hp C hr hv hb O X;obtain⟨vn,vi,rfl,_,_,hf,_,_,_,_⟩:=hv.inv;have a2:=I hr;have d0:w.cell? ⟨p,o,none⟩= some (.int .i64 3):=hr 0 _ rfl;have HP:=I hp;have G:=I C;have Y:TabP w.drew:=X.here.next (Below.refl _ w).drew;have HC:=I (zaE f (wf64 hf) w.drew Y);have a3:=I (fun z (hz:Below w.drew.heap.size w.drew z)=>z10 B b bs ⟨(textF f).toArray⟩ z (z2r (z2R hb) hz) (by rw[z48];omega) (Nat.le_trans C hz.size));clear hr hv hb hp C O X Y hf;generalize hT:textF f= T at*;clear hT;go_enter Tryz.func174,Tryz.ntmps174;go_upto_region 7 with (fail);clear d0;refine zr [(0,true),(1,true),(2,true),(3,true),(4,true),(5,true),(6,true),(7,false),(8,false)] (fun z=>Below B w z) (by kernel_rfl) (by intro c a d v w h;cases d<;>exact h) ?_;have g:Below B w w.drew:=(Below.refl _ w).drew;refine zf 36 (.pointer (some ⟨b,0,none⟩)) rfl rfl rfl rfl g rfl ?_;go_frame;refine z7 37 (.pointer (some ⟨b,0,none⟩)) rfl rfl rfl g (fun z hz=>by go_simp) ?_;go_frame;refine z7 38 (.pointer (some ⟨b,0,none⟩)) rfl rfl rfl g (fun z hz=>by go_simp) ?_;go_frame;refine zf 39 (.pointer (some ⟨p,o,none⟩)) rfl rfl rfl rfl g rfl ?_;go_frame;refine z7 40 (.pointer (some ⟨p,o,none⟩)) rfl rfl rfl g (fun z hz=>by go_simp) ?_;go_frame;refine z7 41 (.pointer (some ⟨p,o+2,none⟩)) rfl rfl rfl g (fun z hz=>by go_simp) ?_;go_frame;refine z7 42 (.float .f64 f) rfl rfl rfl g (fun z hz=>by have dd:=(hz.cell (p:=⟨p,o+2,none⟩) HP.o).trans (a2.o 2 _ rfl);go_simp) ?_;go_frame;refine zv 43 194 Tryz.func194 (by kernel_rfl) [.float .f64 f] rfl rfl rfl rfl rfl ?_;refine HC.o.mono ?_;rintro e z1 ⟨rfl,A⟩;refine⟨_,rfl,g.trans (A.mono G.o),?_⟩;go_frame;refine zv 44 191 Tryz.func191 (by kernel_rfl) [.pointer (some ⟨b,0,none⟩),.string ⟨T.toArray⟩] rfl rfl rfl rfl rfl ?_;refine(a3.o z1 A).mono ?_;rintro e z2 ⟨rfl,K,N⟩;have F:Below B w z2:=(g.trans (A.mono G.o)).trans N;refine⟨_,rfl,F,?_⟩;go_frame;refine zF ?_;have a0:=I F;have a1:=I K;clear g F K N A;go_wp2
 (try simp only[Exit.inBlock,Exit.then])
 refine bodyPost_ret (results_none rfl _ _ _) rfl ?_;exact⟨rfl,a1.o,a0.o⟩
theorem z9N (f:Nat) (s:ByteArray) (ns:List ByteArray) (its:List VT):TextD (VT.mk 1 1 f s ns its) (trueL):=by
 intro cs p o B b bs w hp C hr hv hb O X;obtain⟨vn,vi,rfl,_,_,hf,_,_,_,_⟩:=hv.inv;have a1:=I hr;have d0:w.cell? ⟨p,o,none⟩= some (.int .i64 1):=hr 0 _ rfl;have HP:=I hp;have G:=I C;have a4:TabP w.drew:=X.here.next (Below.refl _ w).drew;have HC:Hid (Calls Tryz.prog 192 #[.bool true] w.drew fun e w'=>e= .returned (.string ⟨trueL.toArray⟩)/\Below w.drew.heap.size w.drew w'):=I ((z6T true w.drew).mono fun e w' h=>⟨h.1,by rw[h.2];exact Below.refl _ _⟩);have a2:=I (fun z (hz:Below w.drew.heap.size w.drew z)=>z10 B b bs ⟨(trueL).toArray⟩ z (z2r (z2R hb) hz) (by rw[z48];omega) (Nat.le_trans C hz.size));clear hr hv hb hp C O X a4 hf;generalize hT:trueL= T at*;clear hT;go_enter Tryz.func174,Tryz.ntmps174;go_upto_region 3 with (fail);clear d0;refine zr [(0,true),(1,true),(2,true),(3,true),(4,true),(5,true),(6,true),(7,true),(8,false),(9,false)] (fun z=>Below B w z) (by kernel_rfl) (by intro c a d v w h;cases d<;>exact h) ?_;have g:Below B w w.drew:=(Below.refl _ w).drew;refine zf 13 (.pointer (some ⟨b,0,none⟩)) rfl rfl rfl rfl g rfl ?_;go_frame;refine z7 14 (.pointer (some ⟨b,0,none⟩)) rfl rfl rfl g (fun z hz=>by go_simp) ?_;go_frame;refine z7 15 (.pointer (some ⟨b,0,none⟩)) rfl rfl rfl g (fun z hz=>by go_simp) ?_;go_frame;refine zf 16 (.pointer (some ⟨p,o,none⟩)) rfl rfl rfl rfl g rfl ?_;go_frame;refine z7 17 (.pointer (some ⟨p,o,none⟩)) rfl rfl rfl g (fun z hz=>by go_simp) ?_;go_frame;refine z7 18 (.pointer (some ⟨p,o+1,none⟩)) rfl rfl rfl g (fun z hz=>by go_simp) ?_;go_frame;refine z7 19 (.int .i64 1) rfl rfl rfl g (fun z hz=>by have dd:=(hz.cell (p:=⟨p,o+1,none⟩) HP.o).trans (a1.o 1 _ rfl);go_simp) ?_;go_frame;refine z7 20 (.bool true) rfl rfl rfl g (fun z hz=>by go_simp) ?_;go_frame;refine zv 21 192 Tryz.func192 (by kernel_rfl) [.bool true] rfl rfl rfl rfl rfl ?_;refine HC.o.mono ?_;rintro e z1 ⟨rfl,A⟩;refine⟨_,rfl,g.trans (A.mono G.o),?_⟩;go_frame;refine zv 22 191 Tryz.func191 (by kernel_rfl) [.pointer (some ⟨b,0,none⟩),.string ⟨T.toArray⟩] rfl rfl rfl rfl rfl ?_;refine(a2.o z1 A).mono ?_;rintro e z2 ⟨rfl,K,N⟩;have F:Below B w z2:=(g.trans (A.mono G.o)).trans N;refine⟨_,rfl,F,?_⟩;go_frame;refine zF ?_;have Y:=I F;have a0:=I K;clear g F K N A;go_wp2
 (try simp only[Exit.inBlock,Exit.then])
 refine bodyPost_ret (results_none rfl _ _ _) rfl ?_;exact⟨rfl,a0.o,Y.o⟩
theorem z8t (f:Nat) (s:ByteArray) (ns:List ByteArray) (its:List VT):TextD (VT.mk 1 0 f s ns its) (falseL):=by
 intro cs p o B b bs w hp C hr hv hb O X;obtain⟨vn,vi,rfl,_,_,hf,_,_,_,_⟩:=hv.inv;have a1:=I hr;have d0:w.cell? ⟨p,o,none⟩= some (.int .i64 1):=hr 0 _ rfl;have HP:=I hp;have G:=I C;have a4:TabP w.drew:=X.here.next (Below.refl _ w).drew;have HC:Hid (Calls Tryz.prog 192 #[.bool false] w.drew fun e w'=>e= .returned (.string ⟨falseL.toArray⟩)/\Below w.drew.heap.size w.drew w'):=I ((z6T false w.drew).mono fun e w' h=>⟨h.1,by rw[h.2];exact Below.refl _ _⟩);have a2:=I (fun z (hz:Below w.drew.heap.size w.drew z)=>z10 B b bs ⟨(falseL).toArray⟩ z (z2r (z2R hb) hz) (by rw[z48];omega) (Nat.le_trans C hz.size));clear hr hv hb hp C O X a4 hf;generalize hT:falseL= T at*;clear hT;go_enter Tryz.func174,Tryz.ntmps174;go_upto_region 3 with (fail);clear d0;refine zr [(0,true),(1,true),(2,true),(3,true),(4,true),(5,true),(6,true),(7,true),(8,false),(9,false)] (fun z=>Below B w z) (by kernel_rfl) (by intro c a d v w h;cases d<;>exact h) ?_;have g:Below B w w.drew:=(Below.refl _ w).drew;refine zf 13 (.pointer (some ⟨b,0,none⟩)) rfl rfl rfl rfl g rfl ?_;go_frame;refine z7 14 (.pointer (some ⟨b,0,none⟩)) rfl rfl rfl g (fun z hz=>by go_simp) ?_;go_frame;refine z7 15 (.pointer (some ⟨b,0,none⟩)) rfl rfl rfl g (fun z hz=>by go_simp) ?_;go_frame;refine zf 16 (.pointer (some ⟨p,o,none⟩)) rfl rfl rfl rfl g rfl ?_;go_frame;refine z7 17 (.pointer (some ⟨p,o,none⟩)) rfl rfl rfl g (fun z hz=>by go_simp) ?_;go_frame;refine z7 18 (.pointer (some ⟨p,o+1,none⟩)) rfl rfl rfl g (fun z hz=>by go_simp) ?_;go_frame;refine z7 19 (.int .i64 0) rfl rfl rfl g (fun z hz=>by have dd:=(hz.cell (p:=⟨p,o+1,none⟩) HP.o).trans (a1.o 1 _ rfl);go_simp) ?_;go_frame;refine z7 20 (.bool false) rfl rfl rfl g (fun z hz=>by go_simp) ?_;go_frame;refine zv 21 192 Tryz.func192 (by kernel_rfl) [.bool false] rfl rfl rfl rfl rfl ?_;refine HC.o.mono ?_;rintro e z1 ⟨rfl,A⟩;refine⟨_,rfl,g.trans (A.mono G.o),?_⟩;go_frame;refine zv 22 191 Tryz.func191 (by kernel_rfl) [.pointer (some ⟨b,0,none⟩),.string ⟨T.toArray⟩] rfl rfl rfl rfl rfl ?_;refine(a2.o z1 A).mono ?_;rintro e z2 ⟨rfl,K,N⟩;have F:Below B w z2:=(g.trans (A.mono G.o)).trans N;refine⟨_,rfl,F,?_⟩;go_frame;refine zF ?_;have Y:=I F;have a0:=I K;clear g F K N A;go_wp2
 (try simp only[Exit.inBlock,Exit.then])
 refine bodyPost_ret (results_none rfl _ _ _) rfl ?_;exact⟨rfl,a0.o,Y.o⟩
theorem zby (n:Int) (f:Nat) (s:ByteArray) (hsz:s.size<=200) (ns:List ByteArray) (its:List VT):TextD (VT.mk 4 n f s ns its) (z2n s.data.toList):=by
 intro cs p o B b bs w hp g N Y X F O;obtain⟨vn,vi,rfl,_,_,_,_,_,_,_⟩:=Y.inv;have d0:w.cell? ⟨p,o,none⟩= some (.int .i64 4):=N 0 _ rfl;have d3:=N 3 _ rfl;have HS:=I (zem s B b bs w g X hsz (by omega));clear N Y X hp g F O hsz;go_enter Tryz.func174,Tryz.ntmps174;go_wp2_with (go_at_call 195;refine HS.o.mono ?_;rintro e w3 ⟨rfl,A,C⟩;have G:=I A;have K:=I C;clear A C)
 (try simp only[Exit.inBlock,Exit.then])
 refine bodyPost_ret (results_none rfl _ _ _) rfl ?_;exact⟨rfl,G.o,K.o⟩
theorem z9M (n:Int) (f:Nat) (s:ByteArray) (ns:List ByteArray) (its:List VT) (tx:Nat->List UInt8) (nm:Nat->List UInt8) (hnm:∀ i,nm i=[]) (hit:∀ i x,its[i]?= some x->TextD x (tx i)):
  TextD (.mk 5 n f s ns its) ([91] ++ (joinK (nm) tx its.length ++ [93])):=by
 intro cs p o B b bs w hp a8 hr hv hb X d1;have b5:=I d1;clear d1;obtain⟨vn,vi,rfl,_,_,_,_,hn,c6,hi⟩:=hv.inv;obtain⟨_,NA,nc,rfl,_⟩:=id hn;obtain⟨_,A,c,rfl,hA⟩:=hi;obtain⟨_,f2,c8⟩:=z1A hn;have f7:=I c8;have HA:=I hA;have d7:=I hit;have e2:=I hnm;have N:=I hr;have HP:=I hp;have Y:=I a8;have a1:=I X;have d9:=I (fun k n=>z56 (nm) tx (k:=k) (n:=n));have d8:Hid (joinK (nm) tx 0=[]):=I rfl;have e0:Hid (∀ k,joinK (nm) tx (k+1)= joinK (nm) tx k ++ ((if k= 0 then[] else[44]) ++ ((nm) k ++ tx k))):=I fun _=>rfl;have g1:(its.length:Int)<=9223372036854775807:=by unfold maxLen at c6;omega
 have d0:w.cell? ⟨p,o,none⟩= some (.int .i64 5):=hr 0 _ rfl;have e5:=I (z10 B b bs ⟨#[91]⟩ w hb (by have:(⟨#[91]⟩:ByteArray).size= 1:=rfl;simp at X;omega) a8);clear hr hv hb hp a8 X hit hA c8 hn hnm;generalize hJ:joinK (nm) tx= J at*;clear hJ;go_enter Tryz.func174,Tryz.ntmps174;go_upto_region 13 with (go_at_call 191;refine e5.o.mono ?_;rintro e w1 ⟨rfl,a0,g⟩;have d3:=I a0;have b3:=I g;clear a0 g);have d5:=(b3.o.cell (p:=⟨p,o+5,none⟩) HP.o).trans (N.o 5 _ rfl);go_wp2;clear d0 d5;go_loopg [65] its.length (fun q x u=>∃ k:Nat,k+q= its.length/\x= .int .i64 k/\Bld B b (bs ++ Lib.byteCells ([91] ++ J k)) u/\Below B w u);case atStart=>exact⟨0,by omega,rfl,by rw[d8.o];exact d3.o,b3.o⟩
 case round=>
  obtain⟨k,hk,rfl,c4,c5⟩:=hrel;have a3:=I c4;have C:=I c5;clear c4 c5;cases gk with
  |zero=>
   obtain rfl:k= its.length:=by omega
   have f9: ¬ ((its.length:Int) <(its.length:Int)):=by omega
   have e3:=I (z10 B b _ ⟨#[93]⟩ wr (.inr a3.o) (by have h1:(⟨#[93]⟩:ByteArray).size= 1:=rfl;have:=a1.o;simp[Lib.byteCells] at this ⊢;omega) (Nat.le_trans Y.o C.o.size));go_wp2_with (go_at_call 191;refine e3.o.mono ?_;rintro e w3 ⟨rfl,b8,g⟩;have d4:=I b8;have e1:=I g;clear b8 g)
   go_end0
   exact⟨rfl,by have:=d4.o;rw[z6A,List.append_assoc,← z62] at this;simpa using this,C.o.trans e1.o⟩
  |succ q=>
   have g2:(k:Int) <(its.length:Int):=by omega
   obtain⟨x,hx⟩:∃ x,its[k]?= some x:=⟨_,List.getElem?_eq_getElem (by omega)⟩;obtain⟨b1,o1,rfl,a0,c1⟩:=HA.o (by omega);obtain⟨ks,_,c7,d2⟩:=c1 k x hx;have b6:=I (d7.o k x hx);have b2:=I c7;have b7:=I d2;have K:=I a0;have a9:=d9.o k its.length (by omega);have F:Hid (bs.length+ (1+ ((J k).length+ ((if k= 0 then([]:List UInt8) else[44]).length+ ((((nm) k:List UInt8)).length+ (tx k).length))))<=999999):=I (by have:=a1.o;simp only[List.length_append,List.length_singleton] at this;omega);have a5:=I (e0.o k);clear c1 c7 d2 hx a9;have c9:=e2.o k;rw[c9] at F a5;clear c9;by_cases hk0:k= 0
   ·subst hk0
    go_upto_region 18 with (fail);have dk:=(C.o.cell (p:=⟨p,o,none⟩) HP.o).trans (show w.cell? ⟨p,o,none⟩= some (.int .i64 5) from N.o 0 _ rfl);have e6:=(C.o.cell (p:=⟨p,o+5,none⟩) HP.o).trans (N.o 5 _ rfl);have a4:=I (b6.o ks b1 o1 B b _ wr K.o (Nat.le_trans Y.o C.o.size) (zb b2.o C.o K.o) (b7.o.under C.o) (.inr a3.o) (by have:=F.o;simp[Lib.byteCells,Lib.strCells,if_true] at this ⊢;omega) (b5.o.next C.o));go_wp2_with (go_at_call 174;refine a4.o.mono ?_;rintro e w9 ⟨rfl,O,g⟩;have a2:=I O;have a6:=I g;clear O g);go_roundg q;case measure=>omega
    case rel=>exact⟨0+1,by omega,by go_num,by
     have hE:bs ++ Lib.byteCells ([91] ++ J (0+1))=(bs ++ Lib.byteCells ([91] ++ J 0)) ++ Lib.byteCells (tx 0):=by rw[a5.o];simp[Lib.byteCells,Lib.strCells,z4a,if_true]
     rw[hE];exact a2.o,C.o.trans a6.o⟩
   ·have t1:(0:Int) <(k:Int):=by omega
    have b0:=I hk0;have e4:=I (wbyte B b _ 44 wr (.inr a3.o) (by have:=F.o;simp[Lib.byteCells,hk0] at this ⊢;omega) (Nat.le_trans Y.o C.o.size));go_upto_region 18 with (go_at_call 196;refine e4.o.mono ?_;rintro e w5 ⟨rfl,b9,g⟩;have d6:=I b9;have G:=I (C.o.trans g);clear b9 g);have dk:=(G.o.cell (p:=⟨p,o,none⟩) HP.o).trans (show w.cell? ⟨p,o,none⟩= some (.int .i64 5) from N.o 0 _ rfl);have e6:=(G.o.cell (p:=⟨p,o+5,none⟩) HP.o).trans (N.o 5 _ rfl);have a4:=I (b6.o ks b1 (o1+k*6) B b _ w5 K.o (Nat.le_trans Y.o G.o.size) (zb b2.o G.o K.o) (b7.o.under G.o) (.inr d6.o) (by have:=F.o;simp[Lib.byteCells,Lib.strCells,b0.o] at this ⊢;omega) (b5.o.next G.o));go_wp2_with (go_at_call 174;refine a4.o.mono ?_;rintro e w9 ⟨rfl,O,g⟩;have a2:=I O;have a6:=I g;clear O g);go_roundg q;case measure=>omega
    case rel=>exact⟨k+1,by omega,by go_num,by
     have hE:bs ++ Lib.byteCells ([91] ++ J (k+1))=(bs ++ Lib.byteCells ([91] ++ J k) ++ [Value.int .u8 44]) ++ Lib.byteCells (tx k):=by rw[a5.o];simp[Lib.byteCells,Lib.strCells,z4a,b0.o]
     rw[hE];exact a2.o,G.o.trans a6.o⟩
theorem zbx (n:Int) (f:Nat) (s:ByteArray) (ns:List ByteArray) (its:List VT) (tx:Nat->List UInt8) (nm:Nat->List UInt8) (hnl:ns.length= its.length) (hnm:∀ i s1,ns[i]?= some s1->nm i= s1.data.toList ++ [58]) (hit:∀ i x,its[i]?= some x->TextD x (tx i)):
  TextD (.mk 6 n f s ns its) ([123] ++ (joinK (nm) tx its.length ++ [125])):=by
 intro cs p o B b bs w hp b9 hr hv hb a5 e6;have d3:=I e6;clear e6;obtain⟨vn,vi,rfl,_,_,_,_,hn,e2,hi⟩:=hv.inv;obtain⟨_,NA,nc,rfl,_⟩:=id hn;obtain⟨_,A,c,rfl,hA⟩:=hi;obtain⟨_,h0,e4⟩:=z1A hn;have f6:=I e4;have HA:=I hA;have f1:=I hit;have f7:=I hnm;have O:=I hr;have HP:=I hp;have a0:=I b9;have a7:=I a5;have f3:=I (fun k n=>z56 (nm) tx (k:=k) (n:=n));have f2:Hid (joinK (nm) tx 0=[]):=I rfl;have f4:Hid (∀ k,joinK (nm) tx (k+1)= joinK (nm) tx k ++ ((if k= 0 then[] else[44]) ++ ((nm) k ++ tx k))):=I fun _=>rfl;have i0:(its.length:Int)<=9223372036854775807:=by unfold maxLen at e2;omega
 have d0:w.cell? ⟨p,o,none⟩= some (.int .i64 6):=hr 0 _ rfl;have g0:=I (z10 B b bs ⟨#[123]⟩ w hb (by have:(⟨#[123]⟩:ByteArray).size= 1:=rfl;simp at a5;omega) b9);clear hr hv hb hp b9 a5 hit hA e4 hn hnm;generalize hJ:joinK (nm) tx= J at*;clear hJ;go_enter Tryz.func174,Tryz.ntmps174;go_upto_region 13 with (go_at_call 191;refine g0.o.mono ?_;rintro e w1 ⟨rfl,N,C⟩;have e8:=I N;have d1:=I C;clear N C);have d5:=(d1.o.cell (p:=⟨p,o+5,none⟩) HP.o).trans (O.o 5 _ rfl);go_wp2;clear d0 d5;go_loopg [65] its.length (fun q x u=>∃ k:Nat,k+q= its.length/\x= .int .i64 k/\Bld B b (bs ++ Lib.byteCells ([123] ++ J k)) u/\Below B w u);case atStart=>exact⟨0,by omega,rfl,by rw[f2.o];exact e8.o,d1.o⟩
 case round=>
  obtain⟨k,hk,rfl,d9,e1⟩:=hrel;have b0:=I d9;have K:=I e1;clear d9 e1;cases gk with
  |zero=>
   obtain rfl:k= its.length:=by omega
   have h8: ¬ ((its.length:Int) <(its.length:Int)):=by omega
   have f8:=I (z10 B b _ ⟨#[125]⟩ wr (.inr b0.o) (by have h1:(⟨#[125]⟩:ByteArray).size= 1:=rfl;have:=a7.o;simp[Lib.byteCells] at this ⊢;omega) (Nat.le_trans a0.o K.o.size));go_wp2_with (go_at_call 191;refine f8.o.mono ?_;rintro e w3 ⟨rfl,d7,C⟩;have e9:=I d7;have f5:=I C;clear d7 C)
   go_end0
   exact⟨rfl,by have:=e9.o;rw[z6A,List.append_assoc,← z62] at this;simpa using this,K.o.trans f5.o⟩
  |succ q=>
   have i2:(k:Int) <(its.length:Int):=by omega
   obtain⟨x,hx⟩:∃ x,its[k]?= some x:=⟨_,List.getElem?_eq_getElem (by omega)⟩;obtain⟨b1,o1,rfl,N,c1⟩:=HA.o (by omega);obtain⟨ks,_,e3,e7⟩:=c1 k x hx;have d4:=I (f1.o k x hx);have c9:=I e3;have d6:=I e7;have Y:=I N;have c4:=f3.o k its.length (by omega);have F:Hid (bs.length+ (1+ ((J k).length+ ((if k= 0 then([]:List UInt8) else[44]).length+ ((((nm) k:List UInt8)).length+ (tx k).length))))<=999999):=I (by have:=a7.o;simp only[List.length_append,List.length_singleton] at this;omega);have b3:=I (f4.o k);clear c1 e3 e7 hx c4;obtain⟨s1,c5⟩:∃ s1,ns[k]?= some s1:=⟨_,List.getElem?_eq_getElem (by omega)⟩;obtain⟨bn,a2,rfl,e0,cn⟩:=f6.o (by omega);have c8:=I (cn k s1 c5).1;have c7:=I e0;have e5:=f7.o k s1 c5;rw[e5] at F b3;have i1:(k:Int) <(ns.length:Int):=by omega
   have h3:(ns.length:Int)=(its.length:Int):=by omega
   clear cn c5 e5 e0;have d2:Hid (s1.size+1<=1000000):=I (by
    have h2:s1.data.size= s1.size:=rfl;have:=F.o;simp at this;omega)
   by_cases hk0:k= 0
   ·subst hk0
    go_upto_region 18 with (fail);have dk:=(K.o.cell (p:=⟨p,o,none⟩) HP.o).trans (show w.cell? ⟨p,o,none⟩= some (.int .i64 6) from O.o 0 _ rfl);have a3:=(K.o.cell (p:=⟨p,o+5,none⟩) HP.o).trans (O.o 5 _ rfl);go_upto_region 19 with (fail);have b7:=I (z10 B b _ (s1 ++ ⟨#[58]⟩) wr.drew (.inr b0.o.drew) (by
     have h1:(s1 ++ ⟨#[58]⟩:ByteArray).size= s1.size+1:=by rw[ByteArray.size_append];rfl
     have h2:s1.data.size= s1.size:=rfl;have:=F.o;rw[h1];simp[Lib.byteCells,if_true] at this ⊢;omega) (Nat.le_trans a0.o K.o.size))
    clear dk a3;refine zr [(0,true),(1,true),(2,true),(3,true),(4,true),(5,true),(6,true),(7,true),(8,true),(9,true),(10,true),(11,false)] (fun z=>Below B wr z) (by kernel_rfl) (by intro c a d v w h;cases d<;>exact h) ?_;have G:Below B wr wr.drew:=(Below.refl _ wr).drew;refine zf 79 (.pointer (some ⟨b,0,none⟩)) rfl rfl rfl rfl G rfl ?_;go_frame;refine z7 80 (.pointer (some ⟨b,0,none⟩)) rfl rfl rfl G (fun z hz=>by go_simp) ?_;go_frame;refine z7 81 (.pointer (some ⟨b,0,none⟩)) rfl rfl rfl G (fun z hz=>by go_simp) ?_;go_frame;refine zf 82 (.pointer (some ⟨p,o,none⟩)) rfl rfl rfl rfl G rfl ?_;go_frame;refine z7 83 (.pointer (some ⟨p,o,none⟩)) rfl rfl rfl G (fun z hz=>by go_simp) ?_;go_frame;refine z7 84 (.pointer (some ⟨p,o+4,none⟩)) rfl rfl rfl G (fun z hz=>by go_simp) ?_;go_frame;refine z7 85 (.slice (some ⟨bn,a2,none⟩) ns.length nc) rfl rfl rfl G (fun z hz=>by have dd:=((K.o.trans hz).cell (p:=⟨p,o+4,none⟩) HP.o).trans (O.o 4 _ rfl);go_simp) ?_;go_frame;refine zf 86 (.int .i64 0) rfl rfl rfl rfl G rfl ?_;go_frame;refine z7 87 (.pointer (some ⟨bn,a2,none⟩)) rfl rfl rfl G (fun z hz=>by go_simp) ?_;go_frame;refine z7 88 (.string s1) rfl rfl rfl G (fun z hz=>by have dd:=((K.o.trans hz).cell (p:=⟨bn,a2,none⟩) c7.o).trans c8.o;go_simp) ?_;go_frame;refine z7 89 (.string (s1 ++ ⟨#[58]⟩)) rfl rfl rfl G (fun z hz=>by have g5:=d2.o;go_simp;omega) ?_;go_frame;refine zv 90 191 Tryz.func191 (by kernel_rfl) [.pointer (some ⟨b,0,none⟩),.string (s1 ++ ⟨#[58]⟩)] rfl rfl rfl rfl rfl ?_;refine b7.o.mono ?_;rintro e z1 ⟨rfl,N,C⟩;have X:Below B wr z1:=G.trans C;refine⟨_,rfl,X,?_⟩;go_frame;refine zF ?_;have b5:=I X;have a8:=I N;clear G X N C;have g:=I (K.o.trans b5.o);have a3:=(g.o.cell (p:=⟨p,o+5,none⟩) HP.o).trans (O.o 5 _ rfl);have b2:=I (d4.o ks b1 o1 B b _ z1 Y.o (Nat.le_trans a0.o g.o.size) (zb c9.o g.o Y.o) (d6.o.under g.o) (.inr a8.o) (by have:=F.o;simp[Lib.byteCells,Lib.strCells,if_true] at this ⊢;omega) (d3.o.next g.o));go_wp2_with (go_at_call 174;refine b2.o.mono ?_;rintro e w9 ⟨rfl,a4,C⟩;have a9:=I a4;have b6:=I C;clear a4 C);go_roundg q;case measure=>omega
    case rel=>exact⟨0+1,by omega,by go_num,by
     have hE:bs ++ Lib.byteCells ([123] ++ J (0+1))=((bs ++ Lib.byteCells ([123] ++ J 0)) ++ Lib.strCells (s1 ++ ⟨#[58]⟩)) ++ Lib.byteCells (tx 0):=by rw[b3.o];simp[Lib.byteCells,Lib.strCells,z4a,if_true]
     rw[hE];exact a9.o,g.o.trans b6.o⟩
   ·have t1:(0:Int) <(k:Int):=by omega
    have b4:=I hk0;have f9:=I (wbyte B b _ 44 wr (.inr b0.o) (by have:=F.o;simp[Lib.byteCells,hk0] at this ⊢;omega) (Nat.le_trans a0.o K.o.size));go_upto_region 18 with (go_at_call 196;refine f9.o.mono ?_;rintro e w5 ⟨rfl,d8,C⟩;have f0:=I d8;have a1:=I (K.o.trans C);clear d8 C);have dk:=(a1.o.cell (p:=⟨p,o,none⟩) HP.o).trans (show w.cell? ⟨p,o,none⟩= some (.int .i64 6) from O.o 0 _ rfl);have a3:=(a1.o.cell (p:=⟨p,o+5,none⟩) HP.o).trans (O.o 5 _ rfl);go_upto_region 19 with (fail);have b7:=I (z10 B b _ (s1 ++ ⟨#[58]⟩) w5.drew (.inr f0.o.drew) (by
     have h1:(s1 ++ ⟨#[58]⟩:ByteArray).size= s1.size+1:=by rw[ByteArray.size_append];rfl
     have h2:s1.data.size= s1.size:=rfl;have:=F.o;rw[h1];simp[Lib.byteCells,b4.o] at this ⊢;omega) (Nat.le_trans a0.o a1.o.size))
    clear dk a3;refine zr [(0,true),(1,true),(2,true),(3,true),(4,true),(5,true),(6,true),(7,true),(8,true),(9,true),(10,true),(11,false)] (fun z=>Below B w5 z) (by kernel_rfl) (by intro c a d v w h;cases d<;>exact h) ?_;have G:Below B w5 w5.drew:=(Below.refl _ w5).drew;refine zf 79 (.pointer (some ⟨b,0,none⟩)) rfl rfl rfl rfl G rfl ?_;go_frame;refine z7 80 (.pointer (some ⟨b,0,none⟩)) rfl rfl rfl G (fun z hz=>by go_simp) ?_;go_frame;refine z7 81 (.pointer (some ⟨b,0,none⟩)) rfl rfl rfl G (fun z hz=>by go_simp) ?_;go_frame;refine zf 82 (.pointer (some ⟨p,o,none⟩)) rfl rfl rfl rfl G rfl ?_;go_frame;refine z7 83 (.pointer (some ⟨p,o,none⟩)) rfl rfl rfl G (fun z hz=>by go_simp) ?_;go_frame;refine z7 84 (.pointer (some ⟨p,o+4,none⟩)) rfl rfl rfl G (fun z hz=>by go_simp) ?_;go_frame;refine z7 85 (.slice (some ⟨bn,a2,none⟩) ns.length nc) rfl rfl rfl G (fun z hz=>by have dd:=((a1.o.trans hz).cell (p:=⟨p,o+4,none⟩) HP.o).trans (O.o 4 _ rfl);go_simp) ?_;go_frame;refine zf 86 (.int .i64 k) rfl rfl rfl rfl G rfl ?_;go_frame;refine z7 87 (.pointer (some ⟨bn,a2+k,none⟩)) rfl rfl rfl G (fun z hz=>by go_simp) ?_;go_frame;refine z7 88 (.string s1) rfl rfl rfl G (fun z hz=>by have dd:=((a1.o.trans hz).cell (p:=⟨bn,a2+k,none⟩) c7.o).trans c8.o;go_simp) ?_;go_frame;refine z7 89 (.string (s1 ++ ⟨#[58]⟩)) rfl rfl rfl G (fun z hz=>by have g5:=d2.o;go_simp;omega) ?_;go_frame;refine zv 90 191 Tryz.func191 (by kernel_rfl) [.pointer (some ⟨b,0,none⟩),.string (s1 ++ ⟨#[58]⟩)] rfl rfl rfl rfl rfl ?_;refine b7.o.mono ?_;rintro e z1 ⟨rfl,N,C⟩;have X:Below B w5 z1:=G.trans C;refine⟨_,rfl,X,?_⟩;go_frame;refine zF ?_;have b5:=I X;have a8:=I N;clear G X N C;have g:=I (a1.o.trans b5.o);have a3:=(g.o.cell (p:=⟨p,o+5,none⟩) HP.o).trans (O.o 5 _ rfl);have b2:=I (d4.o ks b1 (o1+k*6) B b _ z1 Y.o (Nat.le_trans a0.o g.o.size) (zb c9.o g.o Y.o) (d6.o.under g.o) (.inr a8.o) (by have:=F.o;simp[Lib.byteCells,Lib.strCells,b4.o] at this ⊢;omega) (d3.o.next g.o));go_wp2_with (go_at_call 174;refine b2.o.mono ?_;rintro e w9 ⟨rfl,a4,C⟩;have a9:=I a4;have b6:=I C;clear a4 C);go_roundg q;case measure=>omega
    case rel=>exact⟨k+1,by omega,by go_num,by
     have hE:bs ++ Lib.byteCells ([123] ++ J (k+1))=((bs ++ Lib.byteCells ([123] ++ J k) ++ [Value.int .u8 44]) ++ Lib.strCells (s1 ++ ⟨#[58]⟩)) ++ Lib.byteCells (tx k):=by rw[b3.o];simp[Lib.byteCells,Lib.strCells,z4a,b4.o]
     rw[hE];exact a9.o,g.o.trans b6.o⟩
end
section
open Go Go.RowKit
theorem zbA (t:VT) (txt:List UInt8) (ht:TextD t txt) (h0:txt≠[]) (hl:txt.length<=1000000) (hr:(decide (cntV t 0<=200) && zw t 1)= true) (cs:List Value) (w:World) (htb:TabP w) (hv:ValAt w w.heap.size cs t):
  Calls Tryz.prog 159 #[.agg ⟨cs⟩] w fun e w'=>e= .returned (.tuple #[.string ⟨txt.toArray⟩,.int .i64 0])/\Below w.heap.size w w':=by
 have F:=I (zc w (.cells ⟨cs⟩ 52));have a0:=I (zV w (.cells ⟨cs⟩ 52));have N:=I (zL w cs 52);have HL:=I (zp hv);have HV:=I hv;have HT:=I ht;have a9:=I htb;clear htb;have H0:=I (And.intro h0 hl);have O:=I (z1s t cs (w.alloc (.cells ⟨cs⟩ 52)) (hv.next F.o));rw[hr] at O;clear hv ht h0 hl hr;go_enter Tryz.func159,Tryz.ntmps159;go_upto_region 1 with (fail);generalize w.alloc (.cells ⟨cs⟩ 52)= W at*;go_upto_region 4 with (first|((with_reducible refine za tyK52 _ rfl ?_ N.o rfl HL.o.1 ?_);exact wA rfl)|(go_at_call 61;refine zi O.o ?_;intro w2 C));have K:=I (zdL w2);have G:=I (zc w2 (.cells #[.pointer none,.slice none 0 0] 228));have a1:=I (zV w2 (.cells #[.pointer none,.slice none 0 0] 228));generalize w2.alloc (.cells #[.pointer none,.slice none 0 0] 228)= W3 at*;obtain⟨B,hB⟩:∃ B,w2.heap.size= B:=⟨_,rfl⟩;rw[hB] at K G a1;rw[hB];have g:Hid (w.heap.size < B):=I (hB▸Nat.lt_of_lt_of_le a0.o C.o.size);have X:=I (beT F.o C.o);have A:=I (X.o.trans (G.o.mono (Nat.le_of_lt g.o)));have Y:=I (zb (zb N.o C.o a0.o) G.o g.o);have a6:=I (HT.o cs w.heap.size 0 B B [] W3 g.o (Nat.le_of_lt a1.o) Y.o ((HV.o.under A.o).more (Nat.le_of_lt g.o)) K.o (by simpa using H0.o.2) ⟨w,Nat.le_of_lt g.o,a9.o,A.o⟩);clear hB N F C O HT Y K;go_wp2_with (first|(go_at_call 174;refine a6.o.mono ?_;rintro e w4 ⟨rfl,a2,a3⟩;have a5:=I a2;have a7:=I a3;clear a2 a3)|(go_at_call 175;refine zi (zdM B B txt _ a5.o H0.o.1) ?_;intro w5 a8));go_ret2;exact⟨rfl,A.o.trans ((a7.o.trans a8.o).mono (Nat.le_of_lt g.o))⟩
theorem z5u (r:Bool) (x:VT):∀ (l:List VT) (first:Bool) (ns:List ByteArray),textL r first ns (l ++ [x]) =
  textL r first ns l ++ ((if first= true/\l=[] then[] else[44]) ++ ((if r= true then((ns.drop l.length).headD default).data.toList ++ [58] else[]) ++ textV x))
 |[],first,ns=>by
  rw[List.nil_append,textL,textL,textL]
  simp
 |a::l,first,ns=>by
  rw[List.cons_append,textL,z5u r x l false ns.tail,textL]
  rw[if_neg (show ¬ (false= true/\l=[]) by simp),if_neg (show ¬ (first= true/\a::l=[]) by simp)]
  rw[show(ns.tail.drop l.length)= ns.drop (a::l).length by rw[List.drop_tail];rfl]
  simp only[List.append_assoc]
theorem z3I (r:Bool) (ns:List ByteArray) (its:List VT) (nm tx:Nat->List UInt8) (hnm:∀ k,k < its.length->nm k= if r= true then((ns.drop k).headD default).data.toList ++ [58] else[])
  (htx:∀ k x,its[k]?= some x->tx k= textV x):∀ k,k<=its.length->joinK nm tx k= textL r true ns (its.take k)
 |0,_=>by rw[List.take_zero,textL];rfl
 |k+1,h=>by
  obtain⟨x,hx⟩:∃ x,its[k]?= some x:=⟨_,List.getElem?_eq_getElem (by omega)⟩
  have hk:(its.take k).length= k:=by rw[List.length_take];omega
  rw[List.take_add_one,hx]
  show joinK nm tx k ++ ((if k= 0 then[] else[44]) ++ (nm k ++ tx k))= textL r true ns (its.take k ++ [x])
  rw[z5u,z3I r ns its nm tx hnm htx k (by omega),hnm k (by omega),htx k x hx,hk]
  have:(true= true/\its.take k=[])↔k= 0:=by
   constructor
   ·rintro⟨_,h2⟩;rw[h2] at hk;exact hk.symm
   ·rintro rfl;exact⟨rfl,List.take_zero⟩
  by_cases h0:k= 0
  ·rw[if_pos h0,if_pos (this.2 h0)]
  ·rw[if_neg h0,if_neg (fun e=>h0 (this.1 e))]
theorem z5v (k n:Int) (f:Nat) (s:ByteArray) (ns:List ByteArray) (its:List VT):
  (k= 1->textV (.mk k n f s ns its)= if n= 1 then trueL else falseL)/\(k= 2->textV (.mk k n f s ns its)= Lib.itoa n)/\(k= 3->textV (.mk k n f s ns its)= textF f)/\
  (k= 4->textV (.mk k n f s ns its)= z2n s.data.toList)/\(k= 5->textV (.mk k n f s ns its)=[91] ++ (textL false true ns its ++ [93]))/\(k= 6->textV (.mk k n f s ns its)=[123] ++ (textL true true ns its ++ [125])):=by
 refine⟨?_,?_,?_,?_,?_,?_⟩<;>(rintro rfl;rw[textV])
 ·rw[if_pos rfl]
 ·rw[if_neg (by decide),if_pos rfl]
 ·rw[if_neg (by decide),if_neg (by decide),if_pos rfl]
 ·rw[if_neg (by decide),if_neg (by decide),if_neg (by decide),if_pos rfl]
 ·rw[if_neg (by decide),if_neg (by decide),if_neg (by decide),if_neg (by decide)];rfl
 ·rw[if_neg (by decide),if_neg (by decide),if_neg (by decide),if_neg (by decide)];rfl
theorem zbu (t:VT):saneV t->∀ d,zw t d= true->TextD t (textV t):=by
 induction t using VT.ind with
 |h k n f s ns its ih=>
  intro F d K;rw[saneV] at F;obtain⟨e1,e2,e3,e4,e5,e6⟩:=z5v k n f s ns its;rcases z1U K with ⟨rfl,G,_,_⟩|⟨rfl,_,_⟩|⟨rfl,_,_⟩|⟨rfl,h4,_,_⟩|⟨rfl,h5,h6⟩|⟨rfl,h5,h6,h7⟩
  ·rw[e1 rfl]
   rcases G with rfl|rfl
   ·exact z8t f s ns its
   ·exact z9N f s ns its
  ·rw[e2 rfl];exact zbw n F.1.1 F.1.2 f s ns its
  ·rw[e3 rfl];exact zbv n f s ns its
  ·rw[e4 rfl];exact zby n f s h4 ns its
  ·rw[e5 rfl]
   have g:∀ i x,its[i]?= some x->TextD x (((its[i]?).map textV).getD []):=fun i x hx=>by
    rw[hx];have A:=List.mem_of_getElem? hx;exact ih x A (z3e F.2.2 x A) (d+1) (z1V h6 x A)
   have h:=z9M n f s ns its (fun i=>((its[i]?).map textV).getD []) (fun _=>[]) (fun _=>rfl) g;have C:=z3I false ns its (fun _=>[]) (fun i=>((its[i]?).map textV).getD []) (fun _ _=>rfl) (fun k x hx=>by simp only[hx];rfl) its.length (Nat.le_refl _);rw[List.take_length] at C;rw[C] at h;exact h
  ·rw[e6 rfl]
   have g:∀ i x,its[i]?= some x->TextD x (((its[i]?).map textV).getD []):=fun i x hx=>by
    rw[hx];have A:=List.mem_of_getElem? hx;exact ih x A (z3e F.2.2 x A) (d+1) (z1V h7 x A)
   have h:=zbx n f s ns its (fun i=>((its[i]?).map textV).getD []) (fun i=>((ns.drop i).headD default).data.toList ++ [58]) h5 (fun i s1 h1=>by
    have:(ns.drop i).headD default= s1:=by rw[z0c h1];rfl
    rw[this]) g
   have C:=z3I true ns its (fun i=>((ns.drop i).headD default).data.toList ++ [58]) (fun i=>((its[i]?).map textV).getD []) (fun _ _=>rfl) (fun k x hx=>by simp only[hx];rfl) its.length (Nat.le_refl _);rw[List.take_length] at C;rw[C] at h;exact h
theorem zdn {t:VT} {d:Nat} (hr:zw t d= true):textV t≠[]:=by
 cases t with
 |mk k n f s ns its=>
  obtain⟨e1,e2,e3,e4,e5,e6⟩:=z5v k n f s ns its;rcases z1U hr with ⟨rfl,g,_,_⟩|⟨rfl,_,_⟩|⟨rfl,_,_⟩|⟨rfl,h4,_,_⟩|⟨rfl,h5,h6⟩|⟨rfl,h5,h6,h7⟩
  ·rw[e1 rfl];split<;>decide
  ·rw[e2 rfl]
   rcases z9q n with ⟨_,e⟩|⟨_,e⟩
   ·rw[e];exact zas _
   ·rw[e];simp
  ·rw[e3 rfl,zbz]
   cases keyF f with
   |none=>decide
   |some q=>
    obtain⟨s,p⟩:=q;obtain⟨c,t,h,_⟩:=zae p [];rw[List.append_nil] at h;show(if s= true then[45] else[]) ++ bodyF p≠[];rw[h];simp
  ·rw[e4 rfl];simp[z2n]
  ·rw[e5 rfl];simp
  ·rw[e6 rfl];simp
def z5k (t:VT):Bool:=decide (cntV t 0<=200) && zw t 1
theorem zdo (t:VT) (cs:List Value) (w:World) (htb:TabP w) (hv:ValAt w w.heap.size cs t):
  Calls Tryz.prog 159 #[.agg ⟨cs⟩] w fun e w'=>e= .returned (.tuple (if z5k t= true then #[.string ⟨(textV t).toArray⟩,.int .i64 0] else #[.string ⟨#[]⟩,.int .i64 5]))/\Below w.heap.size w w':=by
 cases hr:z5k t with
 |true=>
  have g:=hr;unfold z5k at g;rw[Bool.and_eq_true] at g;have A:=z90 t cs hv;exact zbA t (textV t) (zbu t A 1 g.2) (zdn g.2) (Nat.le_trans (z7V A hr) (by decide)) hr cs w htb hv
 |false=>exact zer t hr cs w hv
end
end Go.Proofs.YtdjfpcmlffekkaaGreatDoor
