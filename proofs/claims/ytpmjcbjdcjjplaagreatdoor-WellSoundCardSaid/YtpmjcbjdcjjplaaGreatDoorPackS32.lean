/- Parts of a proof: Text2, Top2. -/
import Derived.Test.YtpmjcbjdcjjplaaGreatDoorPackS24
import Derived.Test.YtpmjcbjdcjjplaaGreatDoorPackS28
set_option maxHeartbeats 8000000
set_option maxRecDepth 100000
set_option linter.unusedVariables false
set_option linter.unusedSimpArgs false
namespace Go.Proofs.YtpmjcbjdcjjplaaGreatDoor
section
open Go Go.RowKit
def TabB (B:Nat) (w:World):Prop:=∃ w0:World,w0.heap.size<=B/\TabP w0/\Below w0.heap.size w0 w
theorem TabB.here {B:Nat} {w:World} (h:TabB B w):TabP w:=let ⟨_,_,h1,h2⟩:=h;h1.next h2
theorem TabB.next {B:Nat} {w w':World} (h:TabB B w) (hb:Below B w w'):TabB B w':=let ⟨w0,h0,h1,h2⟩:=h;⟨w0,h0,h1,h2.trans (hb.mono h0)⟩
theorem TabP.low {w:World} (h:TabP w):TabB w.heap.size w:=⟨w,Nat.le_refl _,h,Below.refl _ _⟩
def TextD (t:VT) (txt:List UInt8):Prop:=∀ (cs:List Value) (p o B b:Nat) (bs:List Value) (w:World),p < B->B<=w.heap.size->w.rangeAt p o cs->ValAt w B cs t->Bld0 B b bs w->bs.length+txt.length<=1000000->TabB B w->
 Calls Tryz.prog 147 #[.pointer (some ⟨b,0,none⟩),.pointer (some ⟨p,o,none⟩)] w fun e w'=>e= .returned (.tuple #[])/\(Bld B b (bs ++ Lib.byteCells txt) w'/\Below B w w')
theorem zeB (l:List UInt8) (c:UInt8):escL (l ++ [c])= escL l ++ ((if c= 34\/c= 92 then[92] else[]) ++ [c]):=by
 induction l with
 |nil=>rfl
 |cons a l ih=>rw[List.cons_append,escL,ih,escL];simp
theorem zeC {l:List UInt8} {k:Nat} {c:UInt8} (h:l[k]?= some c):escL (l.take (k+1))= escL (l.take k) ++ ((if c= 34\/c= 92 then[92] else[]) ++ [c]):=by
 rw[← zeB,List.take_add_one,h];rfl
theorem zeA (l:List UInt8) (k:Nat):(escL (l.take k)).length<=2*k:=by
 have h1:=z5s (l.take k);have h2:(l.take k).length<=k:=by rw[List.length_take];exact Nat.min_le_left _ _
 omega
theorem z86 (b:Bool) (w:World):Calls Tryz.prog 187 #[.bool b] w fun e w'=>e= .returned (.string ⟨(if b= true then trueL else falseL).toArray⟩)/\w'= w:=by
 cases b with
 |true=>
  go_enter Tryz.func187,Tryz.ntmps187;go_wp2_with (go_at_call 211;refine(show Calls Tryz.prog 211 #[.bool true] w fun e w'=>e= .returned (.string ⟨trueL.toArray⟩)/\w'= w from by (go_enter Tryz.func211,Tryz.ntmps211;go_wp2;go_ret;exact⟨rfl,rfl⟩)).mono ?_;rintro e z ⟨rfl,rfl⟩);go_ret;exact⟨rfl,rfl⟩
 |false=>
  go_enter Tryz.func187,Tryz.ntmps187;go_wp2_with (go_at_call 211;refine(show Calls Tryz.prog 211 #[.bool false] w fun e w'=>e= .returned (.string ⟨falseL.toArray⟩)/\w'= w from by (go_enter Tryz.func211,Tryz.ntmps211;go_wp2;go_ret;exact⟨rfl,rfl⟩)).mono ?_;rintro e z ⟨rfl,rfl⟩);go_ret;exact⟨rfl,rfl⟩
theorem zgp (s:ByteArray) (B b:Nat) (bs:List Value) (w:World) (hBw:B<=w.heap.size) (hb:Bld0 B b bs w) (hsz:s.size<=200) (hlen:bs.length+ (2*s.size+2)<=2000000):
  Calls Tryz.prog 190 #[.pointer (some ⟨b,0,none⟩),.string s] w fun e w'=>e= .returned (.tuple #[])/\(Bld B b (bs ++ Lib.byteCells (z2Y s.data.toList)) w'/\Below B w w'):=by
 have H1:=I (wbyte B b bs 34 w hb (by omega) hBw);have Y:=I (And.intro hBw (And.intro hlen hsz));have c9:∀ W:World,(convert 9 188 (.string s)).run Tryz.prog W= .ok (.slice (some ⟨W.heap.size,0,none⟩) s.size (grownCap W s.size 0 5)) (W.drew.alloc (.cells (bytesRow s (grownCap W s.size 0 5)) 5 ((bytesRow s (grownCap W s.size 0 5)).size,(bytesRow s (grownCap W s.size 0 5)).size+1))):=fun W=>run_bytes_of_string W _ _ _ s Tryz.underlying9 Tryz.underlying188 Tryz.underlying5;have b3:Hid (s.data.toList.length= s.size):=I (by cases s;rfl);have c6:=I (fun(k:Nat) (c:UInt8)=>zeC (l:=s.data.toList) (k:=k) (c:=c));have c5:=I (fun(k:Nat)=>zeA s.data.toList k);have c4:Hid (escL (s.data.toList.take s.size)= escL s.data.toList):=I (by rw[List.take_of_length_le (Nat.le_of_eq b3.o)]);have HQ:Hid (z2Y s.data.toList=[34] ++ (escL s.data.toList ++ [34])):=I rfl;have d4:(s.size:Int)<=200:=by omega
 clear hBw hlen hb hsz;go_enter Tryz.func190,Tryz.ntmps190;go_upto_region 1 with (go_at_call 191;refine H1.o.mono ?_;rintro e w1 ⟨rfl,b5,g⟩;have b8:=I b5;have b2:=I g;clear b5 g);go_upto_region 2 with (fail);have b9:Hid (∀ (k:Nat) c,s.data.toList[k]?= some c->((w1.alloc (Obj.cells (bytesRow s (grownCap w1 s.size 0 5)) 5 ((bytesRow s (grownCap w1 s.size 0 5)).size,(bytesRow s (grownCap w1 s.size 0 5)).size+1))).drew).heap[w1.heap.size]?= some (.cells (bytesRow s (grownCap w1 s.size 0 5)) 5 ((bytesRow s (grownCap w1 s.size 0 5)).size,(bytesRow s (grownCap w1 s.size 0 5)).size+1))/\(bytesRow s (grownCap w1 s.size 0 5))[k]?= some (.int .u8 c.toNat)):=I (fun k c h=>⟨heap_alloc_new w1 _,z58 s _ k h⟩);have a8:Hid (Below w1.heap.size w1 ((w1.alloc (Obj.cells (bytesRow s (grownCap w1 s.size 0 5)) 5 ((bytesRow s (grownCap w1 s.size 0 5)).size,(bytesRow s (grownCap w1 s.size 0 5)).size+1))).drew)):=I (zc w1 _).drew;generalize (w1.alloc (Obj.cells (bytesRow s (grownCap w1 s.size 0 5)) 5 ((bytesRow s (grownCap w1 s.size 0 5)).size,(bytesRow s (grownCap w1 s.size 0 5)).size+1))).drew= W2 at*;generalize bytesRow s (grownCap w1 s.size 0 5)= BR at*;generalize grownCap w1 s.size 0 5= cp at*;clear c9 H1;have a9:=I (z5p b8.o a8.o);have b0:=I (b2.o.trans (a8.o.mono (Nat.le_trans Y.o.1 b2.o.size)));go_loopg [13] s.size (fun q x u=>∃ k:Nat,k+q= s.size/\x= .int .i64 k/\Bld B b (bs ++ Lib.byteCells ([34] ++ escL (s.data.toList.take k))) u/\Below B w u/\Fz W2 u);case atStart=>exact⟨0,by omega,rfl,a9.o,b0.o,Fz.refl _⟩
 case round=>
  obtain⟨k,hk,rfl,b6,b7,C⟩:=hrel;have a3:=I b6;have G:=I b7;have a0:=I C;have X:=I (c5.o k);clear b6 b7 C;cases gk with
  |zero=>
   obtain rfl:k= s.size:=by omega
   have d2: ¬ ((s.size:Int) <(s.size:Int)):=by omega
   have c7:=I (wbyte B b _ 34 wr (.inr a3.o) (by have h1:=Y.o.2;have h2:=X.o;simp only[List.length_append,Lib.byteCells_length,List.length_cons,List.length_nil];omega) (Nat.le_trans Y.o.1 G.o.size));go_wp2_with (go_at_call 191;refine c7.o.mono ?_;rintro e w3 ⟨rfl,A,g⟩;have N:=I A;have K:=I g;clear A g)
   go_end0
   exact⟨rfl,by have:=N.o;rw[c4.o] at this;rw[HQ.o];simpa [Lib.byteCells] using this,G.o.trans K.o⟩
  |succ q=>
   have d3:(k:Int) <(s.size:Int):=by omega
   obtain⟨c,hc⟩:∃ c,s.data.toList[k]?= some c:=⟨_,List.getElem?_eq_getElem (by rw[b3.o];omega)⟩;have a4:=b9.o k c hc;have b4:=a0.o _ _ _ _ a4.1 (by simp);have dk:wr.cell? ⟨w1.heap.size,k,none⟩= some (.int .u8 c.toNat):=(cell_of_row wr w1.heap.size k BR 5 _ b4).trans a4.2;have HE:=I (c6.o k c hc);clear hc a4 b4;by_cases hq:c= 34\/c= 92
   ·rw[if_pos hq] at HE
    have a1:=I (z6x B b _ 92 wr (.inr a3.o) (by have h1:=Y.o.2;have h2:=X.o;simp only[List.length_append,Lib.byteCells_length,List.length_cons,List.length_nil];omega) (Nat.le_trans Y.o.1 G.o.size));rcases hq with rfl|rfl
    ·have a7:=I (fun w4 (h:Bld B b (bs ++ Lib.byteCells ([34] ++ escL (s.data.toList.take k)) ++ [.int .u8 92]) w4) (h2:Below B wr w4)=>z6x B b _ 34 w4 (.inr h) (by have h1:=Y.o.2;have h2:=X.o;simp only[List.length_append,Lib.byteCells_length,List.length_cons,List.length_nil];omega) (Nat.le_trans Y.o.1 (Nat.le_trans G.o.size h2.size)))
     go_upto_region 5 with (fail);go_upto_region 6 with (go_at_call 191;refine a1.o.mono ?_;rintro e w3 ⟨rfl,A,g,C⟩;have N:=I A;have K:=I g;have O:=I C;clear A g C);go_wp2_with (go_at_call 191;refine(a7.o _ N.o K.o).mono ?_;rintro e w5 ⟨rfl,A,g,C⟩;have a2:=I A;have a6:=I g;have a5:=I C;clear A g C);go_roundg q;case measure=>omega
     case rel=>exact⟨k+1,by omega,by go_num,by have:=a2.o;rw[HE.o];simpa [Lib.byteCells] using this,G.o.trans (K.o.trans a6.o),a0.o.trans (O.o.trans a5.o)⟩
    ·have a7:=I (fun w4 (h:Bld B b (bs ++ Lib.byteCells ([34] ++ escL (s.data.toList.take k)) ++ [.int .u8 92]) w4) (h2:Below B wr w4)=>z6x B b _ 92 w4 (.inr h) (by have h1:=Y.o.2;have h2:=X.o;simp only[List.length_append,Lib.byteCells_length,List.length_cons,List.length_nil];omega) (Nat.le_trans Y.o.1 (Nat.le_trans G.o.size h2.size)))
     go_upto_region 5 with (fail);go_upto_region 6 with (go_at_call 191;refine a1.o.mono ?_;rintro e w3 ⟨rfl,A,g,C⟩;have N:=I A;have K:=I g;have O:=I C;clear A g C);go_wp2_with (go_at_call 191;refine(a7.o _ N.o K.o).mono ?_;rintro e w5 ⟨rfl,A,g,C⟩;have a2:=I A;have a6:=I g;have a5:=I C;clear A g C);go_roundg q;case measure=>omega
     case rel=>exact⟨k+1,by omega,by go_num,by have:=a2.o;rw[HE.o];simpa [Lib.byteCells] using this,G.o.trans (K.o.trans a6.o),a0.o.trans (O.o.trans a5.o)⟩
   ·rw[if_neg hq] at HE
    have t34: ¬ ((c.toNat:Int)= 34):=fun h=>hq (.inl (UInt8.toNat_inj.1 (by simpa using (by omega:c.toNat= 34))));have t92: ¬ ((c.toNat:Int)= 92):=fun h=>hq (.inr (UInt8.toNat_inj.1 (by simpa using (by omega:c.toNat= 92))));have a1:=I (z6x B b _ (c.toNat:Int) wr (.inr a3.o) (by have h1:=Y.o.2;have h2:=X.o;simp only[List.length_append,Lib.byteCells_length,List.length_cons,List.length_nil];omega) (Nat.le_trans Y.o.1 G.o.size));have e34:((c.toNat:Int) ==34)= false:=by rw[beq_eq_false_iff_ne];exact t34
    have e92:((c.toNat:Int) ==92)= false:=by rw[beq_eq_false_iff_ne];exact t92
    clear hq t34 t92;go_wp2_with (go_at_call 191;refine a1.o.mono ?_;rintro e w3 ⟨rfl,A,g,C⟩;have N:=I A;have K:=I g;have O:=I C;clear A g C);go_roundg q;case measure=>omega
    case rel=>exact⟨k+1,by omega,by go_num,by have:=N.o;rw[HE.o];simpa [Lib.byteCells] using this,G.o.trans K.o,a0.o.trans O.o⟩
theorem z32 {B b:Nat} {bs:List Value} {w w':World} (h:Bld0 B b bs w) (hb:Below w.heap.size w w'):Bld0 B b bs w':=h.elim (fun h=> .inl (z5p h hb)) (fun h=> .inr (z5p h hb))
theorem z50 (l:List UInt8):(⟨l.toArray⟩:ByteArray).size= l.length:=by simp[ByteArray.size]
theorem zds (n:Int) (h0: -9223372036854775808<=n) (h1:n<=9223372036854775807) (f:Nat) (s:ByteArray) (ns:List ByteArray) (its:List VT):TextD (VT.mk 2 n f s ns its) (Lib.itoa n):=by
 intro cs p o B b bs w hp C hr hv hb X Y;obtain⟨vn,vi,rfl,_,_,hf,_,_,_,_⟩:=hv.inv;have a3:=I hr;have d0:w.cell? ⟨p,o,none⟩= some (.int .i64 2):=hr 0 _ rfl;have HP:=I hp;have K:=I C;have a0:TabP w.drew:=Y.here.next (Below.refl _ w).drew;have HC:=I (z7W n h0 h1 w.drew a0);have a4:=I (fun z (hz:Below w.drew.heap.size w.drew z)=>z1g B b bs ⟨(Lib.itoa n).toArray⟩ z (z32 (z3x hb) hz) (by rw[z50];omega) (Nat.le_trans C hz.size));clear hr hv hb hp C X Y a0 hf h0 h1;generalize hT:Lib.itoa n= T at*;clear hT;go_enter Tryz.func147,Tryz.ntmps147;go_upto_region 5 with (fail);clear d0;refine zo [(0,true),(1,true),(2,true),(3,true),(4,true),(5,true),(6,true),(7,false),(8,false)] (fun z=>Below B w z) (by kernel_rfl) (by intro c a d v w h;cases d<;>exact h) ?_;have g:Below B w w.drew:=(Below.refl _ w).drew;refine zf 25 (.pointer (some ⟨b,0,none⟩)) rfl rfl rfl rfl g rfl ?_;go_frame;refine z7 26 (.pointer (some ⟨b,0,none⟩)) rfl rfl rfl g (fun z hz=>by go_simp) ?_;go_frame;refine z7 27 (.pointer (some ⟨b,0,none⟩)) rfl rfl rfl g (fun z hz=>by go_simp) ?_;go_frame;refine zf 28 (.pointer (some ⟨p,o,none⟩)) rfl rfl rfl rfl g rfl ?_;go_frame;refine z7 29 (.pointer (some ⟨p,o,none⟩)) rfl rfl rfl g (fun z hz=>by go_simp) ?_;go_frame;refine z7 30 (.pointer (some ⟨p,o+1,none⟩)) rfl rfl rfl g (fun z hz=>by go_simp) ?_;go_frame;refine z7 31 (.int .i64 n) rfl rfl rfl g (fun z hz=>by have dd:=(hz.cell (p:=⟨p,o+1,none⟩) HP.o).trans (a3.o 1 _ rfl);go_simp) ?_;go_frame;refine zA 32 188 Tryz.func188 (by kernel_rfl) [.int .i64 n,.int .i64 10] rfl rfl rfl rfl rfl ?_;refine HC.o.mono ?_;rintro e z1 ⟨rfl,A⟩;refine⟨_,rfl,g.trans (A.mono K.o),?_⟩;go_frame;refine zA 33 186 Tryz.func186 (by kernel_rfl) [.pointer (some ⟨b,0,none⟩),.string ⟨T.toArray⟩] rfl rfl rfl rfl rfl ?_;refine(a4.o z1 A).mono ?_;rintro e z2 ⟨rfl,N,O⟩;have G:Below B w z2:=(g.trans (A.mono K.o)).trans O;refine⟨_,rfl,G,?_⟩;go_frame;refine zD ?_;have a1:=I G;have a2:=I N;clear g G N O A;go_wp2
 (try simp only[Exit.inBlock,Exit.then])
 refine bodyPost_ret (results_none rfl _ _ _) rfl ?_;exact⟨rfl,a2.o,a1.o⟩
theorem zdr (n:Int) (f:Nat) (s:ByteArray) (ns:List ByteArray) (its:List VT):TextD (VT.mk 3 n f s ns its) (textF f):=by
 intro cs p o B b bs w hp C hr hv hb X Y;obtain⟨vn,vi,rfl,_,_,hf,_,_,_,_⟩:=hv.inv;have a3:=I hr;have d0:w.cell? ⟨p,o,none⟩= some (.int .i64 3):=hr 0 _ rfl;have HP:=I hp;have K:=I C;have a0:TabP w.drew:=Y.here.next (Below.refl _ w).drew;have HC:=I (zcj f (wf64 hf) w.drew a0);have a4:=I (fun z (hz:Below w.drew.heap.size w.drew z)=>z1g B b bs ⟨(textF f).toArray⟩ z (z32 (z3x hb) hz) (by rw[z50];omega) (Nat.le_trans C hz.size));clear hr hv hb hp C X Y a0 hf;generalize hT:textF f= T at*;clear hT;go_enter Tryz.func147,Tryz.ntmps147;go_upto_region 7 with (fail);clear d0;refine zo [(0,true),(1,true),(2,true),(3,true),(4,true),(5,true),(6,true),(7,false),(8,false)] (fun z=>Below B w z) (by kernel_rfl) (by intro c a d v w h;cases d<;>exact h) ?_;have g:Below B w w.drew:=(Below.refl _ w).drew;refine zf 36 (.pointer (some ⟨b,0,none⟩)) rfl rfl rfl rfl g rfl ?_;go_frame;refine z7 37 (.pointer (some ⟨b,0,none⟩)) rfl rfl rfl g (fun z hz=>by go_simp) ?_;go_frame;refine z7 38 (.pointer (some ⟨b,0,none⟩)) rfl rfl rfl g (fun z hz=>by go_simp) ?_;go_frame;refine zf 39 (.pointer (some ⟨p,o,none⟩)) rfl rfl rfl rfl g rfl ?_;go_frame;refine z7 40 (.pointer (some ⟨p,o,none⟩)) rfl rfl rfl g (fun z hz=>by go_simp) ?_;go_frame;refine z7 41 (.pointer (some ⟨p,o+2,none⟩)) rfl rfl rfl g (fun z hz=>by go_simp) ?_;go_frame;refine z7 42 (.float .f64 f) rfl rfl rfl g (fun z hz=>by have dd:=(hz.cell (p:=⟨p,o+2,none⟩) HP.o).trans (a3.o 2 _ rfl);go_simp) ?_;go_frame;refine zA 43 189 Tryz.func189 (by kernel_rfl) [.float .f64 f] rfl rfl rfl rfl rfl ?_;refine HC.o.mono ?_;rintro e z1 ⟨rfl,A⟩;refine⟨_,rfl,g.trans (A.mono K.o),?_⟩;go_frame;refine zA 44 186 Tryz.func186 (by kernel_rfl) [.pointer (some ⟨b,0,none⟩),.string ⟨T.toArray⟩] rfl rfl rfl rfl rfl ?_;refine(a4.o z1 A).mono ?_;rintro e z2 ⟨rfl,N,O⟩;have G:Below B w z2:=(g.trans (A.mono K.o)).trans O;refine⟨_,rfl,G,?_⟩;go_frame;refine zD ?_;have a1:=I G;have a2:=I N;clear g G N O A;go_wp2
 (try simp only[Exit.inBlock,Exit.then])
 refine bodyPost_ret (results_none rfl _ _ _) rfl ?_;exact⟨rfl,a2.o,a1.o⟩
theorem zbq (f:Nat) (s:ByteArray) (ns:List ByteArray) (its:List VT):TextD (VT.mk 1 1 f s ns its) (trueL):=by
 intro cs p o B b bs w hp C hr hv hb X Y;obtain⟨vn,vi,rfl,_,_,hf,_,_,_,_⟩:=hv.inv;have a2:=I hr;have d0:w.cell? ⟨p,o,none⟩= some (.int .i64 1):=hr 0 _ rfl;have HP:=I hp;have K:=I C;have a5:TabP w.drew:=Y.here.next (Below.refl _ w).drew;have HC:Hid (Calls Tryz.prog 187 #[.bool true] w.drew fun e w'=>e= .returned (.string ⟨trueL.toArray⟩)/\Below w.drew.heap.size w.drew w'):=I ((z86 true w.drew).mono fun e w' h=>⟨h.1,by rw[h.2];exact Below.refl _ _⟩);have a3:=I (fun z (hz:Below w.drew.heap.size w.drew z)=>z1g B b bs ⟨(trueL).toArray⟩ z (z32 (z3x hb) hz) (by rw[z50];omega) (Nat.le_trans C hz.size));clear hr hv hb hp C X Y a5 hf;generalize hT:trueL= T at*;clear hT;go_enter Tryz.func147,Tryz.ntmps147;go_upto_region 3 with (fail);clear d0;refine zo [(0,true),(1,true),(2,true),(3,true),(4,true),(5,true),(6,true),(7,true),(8,false),(9,false)] (fun z=>Below B w z) (by kernel_rfl) (by intro c a d v w h;cases d<;>exact h) ?_;have g:Below B w w.drew:=(Below.refl _ w).drew;refine zf 13 (.pointer (some ⟨b,0,none⟩)) rfl rfl rfl rfl g rfl ?_;go_frame;refine z7 14 (.pointer (some ⟨b,0,none⟩)) rfl rfl rfl g (fun z hz=>by go_simp) ?_;go_frame;refine z7 15 (.pointer (some ⟨b,0,none⟩)) rfl rfl rfl g (fun z hz=>by go_simp) ?_;go_frame;refine zf 16 (.pointer (some ⟨p,o,none⟩)) rfl rfl rfl rfl g rfl ?_;go_frame;refine z7 17 (.pointer (some ⟨p,o,none⟩)) rfl rfl rfl g (fun z hz=>by go_simp) ?_;go_frame;refine z7 18 (.pointer (some ⟨p,o+1,none⟩)) rfl rfl rfl g (fun z hz=>by go_simp) ?_;go_frame;refine z7 19 (.int .i64 1) rfl rfl rfl g (fun z hz=>by have dd:=(hz.cell (p:=⟨p,o+1,none⟩) HP.o).trans (a2.o 1 _ rfl);go_simp) ?_;go_frame;refine z7 20 (.bool true) rfl rfl rfl g (fun z hz=>by go_simp) ?_;go_frame;refine zA 21 187 Tryz.func187 (by kernel_rfl) [.bool true] rfl rfl rfl rfl rfl ?_;refine HC.o.mono ?_;rintro e z1 ⟨rfl,A⟩;refine⟨_,rfl,g.trans (A.mono K.o),?_⟩;go_frame;refine zA 22 186 Tryz.func186 (by kernel_rfl) [.pointer (some ⟨b,0,none⟩),.string ⟨T.toArray⟩] rfl rfl rfl rfl rfl ?_;refine(a3.o z1 A).mono ?_;rintro e z2 ⟨rfl,N,O⟩;have G:Below B w z2:=(g.trans (A.mono K.o)).trans O;refine⟨_,rfl,G,?_⟩;go_frame;refine zD ?_;have a0:=I G;have a1:=I N;clear g G N O A;go_wp2
 (try simp only[Exit.inBlock,Exit.then])
 refine bodyPost_ret (results_none rfl _ _ _) rfl ?_;exact⟨rfl,a1.o,a0.o⟩
theorem z9W (f:Nat) (s:ByteArray) (ns:List ByteArray) (its:List VT):TextD (VT.mk 1 0 f s ns its) (falseL):=by
 intro cs p o B b bs w hp C hr hv hb X Y;obtain⟨vn,vi,rfl,_,_,hf,_,_,_,_⟩:=hv.inv;have a2:=I hr;have d0:w.cell? ⟨p,o,none⟩= some (.int .i64 1):=hr 0 _ rfl;have HP:=I hp;have K:=I C;have a5:TabP w.drew:=Y.here.next (Below.refl _ w).drew;have HC:Hid (Calls Tryz.prog 187 #[.bool false] w.drew fun e w'=>e= .returned (.string ⟨falseL.toArray⟩)/\Below w.drew.heap.size w.drew w'):=I ((z86 false w.drew).mono fun e w' h=>⟨h.1,by rw[h.2];exact Below.refl _ _⟩);have a3:=I (fun z (hz:Below w.drew.heap.size w.drew z)=>z1g B b bs ⟨(falseL).toArray⟩ z (z32 (z3x hb) hz) (by rw[z50];omega) (Nat.le_trans C hz.size));clear hr hv hb hp C X Y a5 hf;generalize hT:falseL= T at*;clear hT;go_enter Tryz.func147,Tryz.ntmps147;go_upto_region 3 with (fail);clear d0;refine zo [(0,true),(1,true),(2,true),(3,true),(4,true),(5,true),(6,true),(7,true),(8,false),(9,false)] (fun z=>Below B w z) (by kernel_rfl) (by intro c a d v w h;cases d<;>exact h) ?_;have g:Below B w w.drew:=(Below.refl _ w).drew;refine zf 13 (.pointer (some ⟨b,0,none⟩)) rfl rfl rfl rfl g rfl ?_;go_frame;refine z7 14 (.pointer (some ⟨b,0,none⟩)) rfl rfl rfl g (fun z hz=>by go_simp) ?_;go_frame;refine z7 15 (.pointer (some ⟨b,0,none⟩)) rfl rfl rfl g (fun z hz=>by go_simp) ?_;go_frame;refine zf 16 (.pointer (some ⟨p,o,none⟩)) rfl rfl rfl rfl g rfl ?_;go_frame;refine z7 17 (.pointer (some ⟨p,o,none⟩)) rfl rfl rfl g (fun z hz=>by go_simp) ?_;go_frame;refine z7 18 (.pointer (some ⟨p,o+1,none⟩)) rfl rfl rfl g (fun z hz=>by go_simp) ?_;go_frame;refine z7 19 (.int .i64 0) rfl rfl rfl g (fun z hz=>by have dd:=(hz.cell (p:=⟨p,o+1,none⟩) HP.o).trans (a2.o 1 _ rfl);go_simp) ?_;go_frame;refine z7 20 (.bool false) rfl rfl rfl g (fun z hz=>by go_simp) ?_;go_frame;refine zA 21 187 Tryz.func187 (by kernel_rfl) [.bool false] rfl rfl rfl rfl rfl ?_;refine HC.o.mono ?_;rintro e z1 ⟨rfl,A⟩;refine⟨_,rfl,g.trans (A.mono K.o),?_⟩;go_frame;refine zA 22 186 Tryz.func186 (by kernel_rfl) [.pointer (some ⟨b,0,none⟩),.string ⟨T.toArray⟩] rfl rfl rfl rfl rfl ?_;refine(a3.o z1 A).mono ?_;rintro e z2 ⟨rfl,N,O⟩;have G:Below B w z2:=(g.trans (A.mono K.o)).trans O;refine⟨_,rfl,G,?_⟩;go_frame;refine zD ?_;have a0:=I G;have a1:=I N;clear g G N O A;go_wp2
 (try simp only[Exit.inBlock,Exit.then])
 refine bodyPost_ret (results_none rfl _ _ _) rfl ?_;exact⟨rfl,a1.o,a0.o⟩
theorem zdu (n:Int) (f:Nat) (s:ByteArray) (hsz:s.size<=200) (ns:List ByteArray) (its:List VT):TextD (VT.mk 4 n f s ns its) (z2Y s.data.toList):=by
 intro cs p o B b bs w hp g O hv Y G X;obtain⟨vn,vi,rfl,_,_,_,_,_,_,_⟩:=hv.inv;have d0:w.cell? ⟨p,o,none⟩= some (.int .i64 4):=O 0 _ rfl;have d3:=O 3 _ rfl;have HS:=I (zgp s B b bs w g Y hsz (by omega));clear O hv Y hp g G X hsz;go_enter Tryz.func147,Tryz.ntmps147;go_wp2_with (go_at_call 190;refine HS.o.mono ?_;rintro e w3 ⟨rfl,A,C⟩;have K:=I A;have N:=I C;clear A C)
 (try simp only[Exit.inBlock,Exit.then])
 refine bodyPost_ret (results_none rfl _ _ _) rfl ?_;exact⟨rfl,K.o,N.o⟩
theorem zbp (n:Int) (f:Nat) (s:ByteArray) (ns:List ByteArray) (its:List VT) (tx:Nat->List UInt8) (nm:Nat->List UInt8) (hnm:∀ i,nm i=[]) (hit:∀ i x,its[i]?= some x->TextD x (tx i)):
  TextD (.mk 5 n f s ns its) ([91] ++ (joinK (nm) tx its.length ++ [93])):=by
 intro cs p o B b bs w hp a9 hr hv hb Y d2;have b6:=I d2;clear d2;obtain⟨vn,vi,rfl,_,_,_,_,hn,c7,hi⟩:=hv.inv;obtain⟨_,NA,nc,rfl,_⟩:=id hn;obtain⟨_,A,c,rfl,hA⟩:=hi;obtain⟨_,f3,c9⟩:=z1l hn;have f8:=I c9;have HA:=I hA;have d8:=I hit;have e3:=I hnm;have O:=I hr;have HP:=I hp;have a0:=I a9;have a2:=I Y;have e0:=I (fun k n=>z64 (nm) tx (k:=k) (n:=n));have d9:Hid (joinK (nm) tx 0=[]):=I rfl;have e1:Hid (∀ k,joinK (nm) tx (k+1)= joinK (nm) tx k ++ ((if k= 0 then[] else[44]) ++ ((nm) k ++ tx k))):=I fun _=>rfl;have g2:(its.length:Int)<=9223372036854775807:=by unfold maxLen at c7;omega
 have d0:w.cell? ⟨p,o,none⟩= some (.int .i64 5):=hr 0 _ rfl;have e6:=I (z1g B b bs ⟨#[91]⟩ w hb (by have:(⟨#[91]⟩:ByteArray).size= 1:=rfl;simp at Y;omega) a9);clear hr hv hb hp a9 Y hit hA c9 hn hnm;generalize hJ:joinK (nm) tx= J at*;clear hJ;go_enter Tryz.func147,Tryz.ntmps147;go_upto_region 13 with (go_at_call 186;refine e6.o.mono ?_;rintro e w1 ⟨rfl,a1,g⟩;have d4:=I a1;have b4:=I g;clear a1 g);have d5:=(b4.o.cell (p:=⟨p,o+5,none⟩) HP.o).trans (O.o 5 _ rfl);go_wp2;clear d0 d5;go_loopg [65] its.length (fun q x u=>∃ k:Nat,k+q= its.length/\x= .int .i64 k/\Bld B b (bs ++ Lib.byteCells ([91] ++ J k)) u/\Below B w u);case atStart=>exact⟨0,by omega,rfl,by rw[d9.o];exact d4.o,b4.o⟩
 case round=>
  obtain⟨k,hk,rfl,c5,c6⟩:=hrel;have a4:=I c5;have C:=I c6;clear c5 c6;cases gk with
  |zero=>
   obtain rfl:k= its.length:=by omega
   have g0: ¬ ((its.length:Int) <(its.length:Int)):=by omega
   have e4:=I (z1g B b _ ⟨#[93]⟩ wr (.inr a4.o) (by have h1:(⟨#[93]⟩:ByteArray).size= 1:=rfl;have:=a2.o;simp[Lib.byteCells] at this ⊢;omega) (Nat.le_trans a0.o C.o.size));go_wp2_with (go_at_call 186;refine e4.o.mono ?_;rintro e w3 ⟨rfl,b9,g⟩;have d6:=I b9;have e2:=I g;clear b9 g)
   go_end0
   exact⟨rfl,by have:=d6.o;rw[z7M,List.append_assoc,← z74] at this;simpa using this,C.o.trans e2.o⟩
  |succ q=>
   have g3:(k:Int) <(its.length:Int):=by omega
   obtain⟨x,hx⟩:∃ x,its[k]?= some x:=⟨_,List.getElem?_eq_getElem (by omega)⟩;obtain⟨b1,o1,rfl,a1,c1⟩:=HA.o (by omega);obtain⟨ks,_,c8,d3⟩:=c1 k x hx;have b7:=I (d8.o k x hx);have b3:=I c8;have b8:=I d3;have N:=I a1;have b0:=e0.o k its.length (by omega);have G:Hid (bs.length+ (1+ ((J k).length+ ((if k= 0 then([]:List UInt8) else[44]).length+ ((((nm) k:List UInt8)).length+ (tx k).length))))<=999999):=I (by have:=a2.o;simp only[List.length_append,List.length_singleton] at this;omega);have a6:=I (e1.o k);clear c1 c8 d3 hx b0;have d1:=e3.o k;rw[d1] at G a6;clear d1;by_cases hk0:k= 0
   ·subst hk0
    go_upto_region 18 with (fail);have dk:=(C.o.cell (p:=⟨p,o,none⟩) HP.o).trans (show w.cell? ⟨p,o,none⟩= some (.int .i64 5) from O.o 0 _ rfl);have e7:=(C.o.cell (p:=⟨p,o+5,none⟩) HP.o).trans (O.o 5 _ rfl);have a5:=I (b7.o ks b1 o1 B b _ wr N.o (Nat.le_trans a0.o C.o.size) (zb b3.o C.o N.o) (b8.o.under C.o) (.inr a4.o) (by have:=G.o;simp[Lib.byteCells,Lib.strCells,if_true] at this ⊢;omega) (b6.o.next C.o));go_wp2_with (go_at_call 147;refine a5.o.mono ?_;rintro e w9 ⟨rfl,X,g⟩;have a3:=I X;have a7:=I g;clear X g);go_roundg q;case measure=>omega
    case rel=>exact⟨0+1,by omega,by go_num,by
     have hE:bs ++ Lib.byteCells ([91] ++ J (0+1))=(bs ++ Lib.byteCells ([91] ++ J 0)) ++ Lib.byteCells (tx 0):=by rw[a6.o];simp[Lib.byteCells,Lib.strCells,z54,if_true]
     rw[hE];exact a3.o,C.o.trans a7.o⟩
   ·have t1:(0:Int) <(k:Int):=by omega
    have b2:=I hk0;have e5:=I (wbyte B b _ 44 wr (.inr a4.o) (by have:=G.o;simp[Lib.byteCells,hk0] at this ⊢;omega) (Nat.le_trans a0.o C.o.size));go_upto_region 18 with (go_at_call 191;refine e5.o.mono ?_;rintro e w5 ⟨rfl,c4,g⟩;have d7:=I c4;have K:=I (C.o.trans g);clear c4 g);have dk:=(K.o.cell (p:=⟨p,o,none⟩) HP.o).trans (show w.cell? ⟨p,o,none⟩= some (.int .i64 5) from O.o 0 _ rfl);have e7:=(K.o.cell (p:=⟨p,o+5,none⟩) HP.o).trans (O.o 5 _ rfl);have a5:=I (b7.o ks b1 (o1+k*6) B b _ w5 N.o (Nat.le_trans a0.o K.o.size) (zb b3.o K.o N.o) (b8.o.under K.o) (.inr d7.o) (by have:=G.o;simp[Lib.byteCells,Lib.strCells,b2.o] at this ⊢;omega) (b6.o.next K.o));go_wp2_with (go_at_call 147;refine a5.o.mono ?_;rintro e w9 ⟨rfl,X,g⟩;have a3:=I X;have a7:=I g;clear X g);go_roundg q;case measure=>omega
    case rel=>exact⟨k+1,by omega,by go_num,by
     have hE:bs ++ Lib.byteCells ([91] ++ J (k+1))=(bs ++ Lib.byteCells ([91] ++ J k) ++ [Value.int .u8 44]) ++ Lib.byteCells (tx k):=by rw[a6.o];simp[Lib.byteCells,Lib.strCells,z54,b2.o]
     rw[hE];exact a3.o,K.o.trans a7.o⟩
theorem zdt (n:Int) (f:Nat) (s:ByteArray) (ns:List ByteArray) (its:List VT) (tx:Nat->List UInt8) (nm:Nat->List UInt8) (hnl:ns.length= its.length) (hnm:∀ i s1,ns[i]?= some s1->nm i= s1.data.toList ++ [58]) (hit:∀ i x,its[i]?= some x->TextD x (tx i)):
  TextD (.mk 6 n f s ns its) ([123] ++ (joinK (nm) tx its.length ++ [125])):=by
 intro cs p o B b bs w hp c4 hr hv hb a6 e7;have d4:=I e7;clear e7;obtain⟨vn,vi,rfl,_,_,_,_,hn,e3,hi⟩:=hv.inv;obtain⟨_,NA,nc,rfl,_⟩:=id hn;obtain⟨_,A,c,rfl,hA⟩:=hi;obtain⟨_,h3,e5⟩:=z1l hn;have f7:=I e5;have HA:=I hA;have f2:=I hit;have f8:=I hnm;have X:=I hr;have HP:=I hp;have a1:=I c4;have a8:=I a6;have f4:=I (fun k n=>z64 (nm) tx (k:=k) (n:=n));have f3:Hid (joinK (nm) tx 0=[]):=I rfl;have f5:Hid (∀ k,joinK (nm) tx (k+1)= joinK (nm) tx k ++ ((if k= 0 then[] else[44]) ++ ((nm) k ++ tx k))):=I fun _=>rfl;have i1:(its.length:Int)<=9223372036854775807:=by unfold maxLen at e3;omega
 have d0:w.cell? ⟨p,o,none⟩= some (.int .i64 6):=hr 0 _ rfl;have g1:=I (z1g B b bs ⟨#[123]⟩ w hb (by have:(⟨#[123]⟩:ByteArray).size= 1:=rfl;simp at a6;omega) c4);clear hr hv hb hp c4 a6 hit hA e5 hn hnm;generalize hJ:joinK (nm) tx= J at*;clear hJ;go_enter Tryz.func147,Tryz.ntmps147;go_upto_region 13 with (go_at_call 186;refine g1.o.mono ?_;rintro e w1 ⟨rfl,O,C⟩;have e9:=I O;have d2:=I C;clear O C);have d5:=(d2.o.cell (p:=⟨p,o+5,none⟩) HP.o).trans (X.o 5 _ rfl);go_wp2;clear d0 d5;go_loopg [65] its.length (fun q x u=>∃ k:Nat,k+q= its.length/\x= .int .i64 k/\Bld B b (bs ++ Lib.byteCells ([123] ++ J k)) u/\Below B w u);case atStart=>exact⟨0,by omega,rfl,by rw[f3.o];exact e9.o,d2.o⟩
 case round=>
  obtain⟨k,hk,rfl,e0,e2⟩:=hrel;have b2:=I e0;have N:=I e2;clear e0 e2;cases gk with
  |zero=>
   obtain rfl:k= its.length:=by omega
   have h9: ¬ ((its.length:Int) <(its.length:Int)):=by omega
   have f9:=I (z1g B b _ ⟨#[125]⟩ wr (.inr b2.o) (by have h1:(⟨#[125]⟩:ByteArray).size= 1:=rfl;have:=a8.o;simp[Lib.byteCells] at this ⊢;omega) (Nat.le_trans a1.o N.o.size));go_wp2_with (go_at_call 186;refine f9.o.mono ?_;rintro e w3 ⟨rfl,d8,C⟩;have f0:=I d8;have f6:=I C;clear d8 C)
   go_end0
   exact⟨rfl,by have:=f0.o;rw[z7M,List.append_assoc,← z74] at this;simpa using this,N.o.trans f6.o⟩
  |succ q=>
   have i3:(k:Int) <(its.length:Int):=by omega
   obtain⟨x,hx⟩:∃ x,its[k]?= some x:=⟨_,List.getElem?_eq_getElem (by omega)⟩;obtain⟨b1,o1,rfl,O,c1⟩:=HA.o (by omega);obtain⟨ks,_,e4,e8⟩:=c1 k x hx;have d6:=I (f2.o k x hx);have d1:=I e4;have d7:=I e8;have a0:=I O;have c5:=f4.o k its.length (by omega);have G:Hid (bs.length+ (1+ ((J k).length+ ((if k= 0 then([]:List UInt8) else[44]).length+ ((((nm) k:List UInt8)).length+ (tx k).length))))<=999999):=I (by have:=a8.o;simp only[List.length_append,List.length_singleton] at this;omega);have b4:=I (f5.o k);clear c1 e4 e8 hx c5;obtain⟨s1,c6⟩:∃ s1,ns[k]?= some s1:=⟨_,List.getElem?_eq_getElem (by omega)⟩;obtain⟨bn,a3,rfl,e1,cn⟩:=f7.o (by omega);have c9:=I (cn k s1 c6).1;have c8:=I e1;have e6:=f8.o k s1 c6;rw[e6] at G b4;have i2:(k:Int) <(ns.length:Int):=by omega
   have h4:(ns.length:Int)=(its.length:Int):=by omega
   clear cn c6 e6 e1;have d3:Hid (s1.size+1<=1000000):=I (by
    have h2:s1.data.size= s1.size:=rfl;have:=G.o;simp at this;omega)
   by_cases hk0:k= 0
   ·subst hk0
    go_upto_region 18 with (fail);have dk:=(N.o.cell (p:=⟨p,o,none⟩) HP.o).trans (show w.cell? ⟨p,o,none⟩= some (.int .i64 6) from X.o 0 _ rfl);have a4:=(N.o.cell (p:=⟨p,o+5,none⟩) HP.o).trans (X.o 5 _ rfl);go_upto_region 19 with (fail);have b8:=I (z1g B b _ (s1 ++ ⟨#[58]⟩) wr.drew (.inr b2.o.drew) (by
     have h1:(s1 ++ ⟨#[58]⟩:ByteArray).size= s1.size+1:=by rw[ByteArray.size_append];rfl
     have h2:s1.data.size= s1.size:=rfl;have:=G.o;rw[h1];simp[Lib.byteCells,if_true] at this ⊢;omega) (Nat.le_trans a1.o N.o.size))
    clear dk a4;refine zo [(0,true),(1,true),(2,true),(3,true),(4,true),(5,true),(6,true),(7,true),(8,true),(9,true),(10,true),(11,false)] (fun z=>Below B wr z) (by kernel_rfl) (by intro c a d v w h;cases d<;>exact h) ?_;have K:Below B wr wr.drew:=(Below.refl _ wr).drew;refine zf 79 (.pointer (some ⟨b,0,none⟩)) rfl rfl rfl rfl K rfl ?_;go_frame;refine z7 80 (.pointer (some ⟨b,0,none⟩)) rfl rfl rfl K (fun z hz=>by go_simp) ?_;go_frame;refine z7 81 (.pointer (some ⟨b,0,none⟩)) rfl rfl rfl K (fun z hz=>by go_simp) ?_;go_frame;refine zf 82 (.pointer (some ⟨p,o,none⟩)) rfl rfl rfl rfl K rfl ?_;go_frame;refine z7 83 (.pointer (some ⟨p,o,none⟩)) rfl rfl rfl K (fun z hz=>by go_simp) ?_;go_frame;refine z7 84 (.pointer (some ⟨p,o+4,none⟩)) rfl rfl rfl K (fun z hz=>by go_simp) ?_;go_frame;refine z7 85 (.slice (some ⟨bn,a3,none⟩) ns.length nc) rfl rfl rfl K (fun z hz=>by have dd:=((N.o.trans hz).cell (p:=⟨p,o+4,none⟩) HP.o).trans (X.o 4 _ rfl);go_simp) ?_;go_frame;refine zf 86 (.int .i64 0) rfl rfl rfl rfl K rfl ?_;go_frame;refine z7 87 (.pointer (some ⟨bn,a3,none⟩)) rfl rfl rfl K (fun z hz=>by go_simp) ?_;go_frame;refine z7 88 (.string s1) rfl rfl rfl K (fun z hz=>by have dd:=((N.o.trans hz).cell (p:=⟨bn,a3,none⟩) c8.o).trans c9.o;go_simp) ?_;go_frame;refine z7 89 (.string (s1 ++ ⟨#[58]⟩)) rfl rfl rfl K (fun z hz=>by have g6:=d3.o;go_simp;omega) ?_;go_frame;refine zA 90 186 Tryz.func186 (by kernel_rfl) [.pointer (some ⟨b,0,none⟩),.string (s1 ++ ⟨#[58]⟩)] rfl rfl rfl rfl rfl ?_;refine b8.o.mono ?_;rintro e z1 ⟨rfl,O,C⟩;have Y:Below B wr z1:=K.trans C;refine⟨_,rfl,Y,?_⟩;go_frame;refine zD ?_;have b6:=I Y;have a9:=I O;clear K Y O C;have g:=I (N.o.trans b6.o);have a4:=(g.o.cell (p:=⟨p,o+5,none⟩) HP.o).trans (X.o 5 _ rfl);have b3:=I (d6.o ks b1 o1 B b _ z1 a0.o (Nat.le_trans a1.o g.o.size) (zb d1.o g.o a0.o) (d7.o.under g.o) (.inr a9.o) (by have:=G.o;simp[Lib.byteCells,Lib.strCells,if_true] at this ⊢;omega) (d4.o.next g.o));go_wp2_with (go_at_call 147;refine b3.o.mono ?_;rintro e w9 ⟨rfl,a5,C⟩;have b0:=I a5;have b7:=I C;clear a5 C);go_roundg q;case measure=>omega
    case rel=>exact⟨0+1,by omega,by go_num,by
     have hE:bs ++ Lib.byteCells ([123] ++ J (0+1))=((bs ++ Lib.byteCells ([123] ++ J 0)) ++ Lib.strCells (s1 ++ ⟨#[58]⟩)) ++ Lib.byteCells (tx 0):=by rw[b4.o];simp[Lib.byteCells,Lib.strCells,z54,if_true]
     rw[hE];exact b0.o,g.o.trans b7.o⟩
   ·have t1:(0:Int) <(k:Int):=by omega
    have b5:=I hk0;have g0:=I (wbyte B b _ 44 wr (.inr b2.o) (by have:=G.o;simp[Lib.byteCells,hk0] at this ⊢;omega) (Nat.le_trans a1.o N.o.size));go_upto_region 18 with (go_at_call 191;refine g0.o.mono ?_;rintro e w5 ⟨rfl,d9,C⟩;have f1:=I d9;have a2:=I (N.o.trans C);clear d9 C);have dk:=(a2.o.cell (p:=⟨p,o,none⟩) HP.o).trans (show w.cell? ⟨p,o,none⟩= some (.int .i64 6) from X.o 0 _ rfl);have a4:=(a2.o.cell (p:=⟨p,o+5,none⟩) HP.o).trans (X.o 5 _ rfl);go_upto_region 19 with (fail);have b8:=I (z1g B b _ (s1 ++ ⟨#[58]⟩) w5.drew (.inr f1.o.drew) (by
     have h1:(s1 ++ ⟨#[58]⟩:ByteArray).size= s1.size+1:=by rw[ByteArray.size_append];rfl
     have h2:s1.data.size= s1.size:=rfl;have:=G.o;rw[h1];simp[Lib.byteCells,b5.o] at this ⊢;omega) (Nat.le_trans a1.o a2.o.size))
    clear dk a4;refine zo [(0,true),(1,true),(2,true),(3,true),(4,true),(5,true),(6,true),(7,true),(8,true),(9,true),(10,true),(11,false)] (fun z=>Below B w5 z) (by kernel_rfl) (by intro c a d v w h;cases d<;>exact h) ?_;have K:Below B w5 w5.drew:=(Below.refl _ w5).drew;refine zf 79 (.pointer (some ⟨b,0,none⟩)) rfl rfl rfl rfl K rfl ?_;go_frame;refine z7 80 (.pointer (some ⟨b,0,none⟩)) rfl rfl rfl K (fun z hz=>by go_simp) ?_;go_frame;refine z7 81 (.pointer (some ⟨b,0,none⟩)) rfl rfl rfl K (fun z hz=>by go_simp) ?_;go_frame;refine zf 82 (.pointer (some ⟨p,o,none⟩)) rfl rfl rfl rfl K rfl ?_;go_frame;refine z7 83 (.pointer (some ⟨p,o,none⟩)) rfl rfl rfl K (fun z hz=>by go_simp) ?_;go_frame;refine z7 84 (.pointer (some ⟨p,o+4,none⟩)) rfl rfl rfl K (fun z hz=>by go_simp) ?_;go_frame;refine z7 85 (.slice (some ⟨bn,a3,none⟩) ns.length nc) rfl rfl rfl K (fun z hz=>by have dd:=((a2.o.trans hz).cell (p:=⟨p,o+4,none⟩) HP.o).trans (X.o 4 _ rfl);go_simp) ?_;go_frame;refine zf 86 (.int .i64 k) rfl rfl rfl rfl K rfl ?_;go_frame;refine z7 87 (.pointer (some ⟨bn,a3+k,none⟩)) rfl rfl rfl K (fun z hz=>by go_simp) ?_;go_frame;refine z7 88 (.string s1) rfl rfl rfl K (fun z hz=>by have dd:=((a2.o.trans hz).cell (p:=⟨bn,a3+k,none⟩) c8.o).trans c9.o;go_simp) ?_;go_frame;refine z7 89 (.string (s1 ++ ⟨#[58]⟩)) rfl rfl rfl K (fun z hz=>by have g6:=d3.o;go_simp;omega) ?_;go_frame;refine zA 90 186 Tryz.func186 (by kernel_rfl) [.pointer (some ⟨b,0,none⟩),.string (s1 ++ ⟨#[58]⟩)] rfl rfl rfl rfl rfl ?_;refine b8.o.mono ?_;rintro e z1 ⟨rfl,O,C⟩;have Y:Below B w5 z1:=K.trans C;refine⟨_,rfl,Y,?_⟩;go_frame;refine zD ?_;have b6:=I Y;have a9:=I O;clear K Y O C;have g:=I (a2.o.trans b6.o);have a4:=(g.o.cell (p:=⟨p,o+5,none⟩) HP.o).trans (X.o 5 _ rfl);have b3:=I (d6.o ks b1 (o1+k*6) B b _ z1 a0.o (Nat.le_trans a1.o g.o.size) (zb d1.o g.o a0.o) (d7.o.under g.o) (.inr a9.o) (by have:=G.o;simp[Lib.byteCells,Lib.strCells,b5.o] at this ⊢;omega) (d4.o.next g.o));go_wp2_with (go_at_call 147;refine b3.o.mono ?_;rintro e w9 ⟨rfl,a5,C⟩;have b0:=I a5;have b7:=I C;clear a5 C);go_roundg q;case measure=>omega
    case rel=>exact⟨k+1,by omega,by go_num,by
     have hE:bs ++ Lib.byteCells ([123] ++ J (k+1))=((bs ++ Lib.byteCells ([123] ++ J k) ++ [Value.int .u8 44]) ++ Lib.strCells (s1 ++ ⟨#[58]⟩)) ++ Lib.byteCells (tx k):=by rw[b4.o];simp[Lib.byteCells,Lib.strCells,z54,b5.o]
     rw[hE];exact b0.o,g.o.trans b7.o⟩
end
section
open Go Go.RowKit
theorem zdw (t:VT) (txt:List UInt8) (ht:TextD t txt) (h0:txt≠[]) (hl:txt.length<=1000000) (hr:(decide (cntV t 0<=200) && zr t 1)= true) (cs:List Value) (w:World) (htb:TabP w) (hv:ValAt w w.heap.size cs t):
  Calls Tryz.prog 121 #[.agg ⟨cs⟩] w fun e w'=>e= .returned (.tuple #[.string ⟨txt.toArray⟩,.int .i64 0])/\Below w.heap.size w w':=by
 have G:=I (zc w (.cells ⟨cs⟩ 39));have a1:=I (zy w (.cells ⟨cs⟩ 39));have O:=I (zv w cs 39);have HL:=I (zm hv);have HV:=I hv;have HT:=I ht;have b0:=I htb;clear htb;have H0:=I (And.intro h0 hl);have X:=I (z1T t cs (w.alloc (.cells ⟨cs⟩ 39)) (hv.next G.o));rw[hr] at X;clear hv ht h0 hl hr;go_enter Tryz.func121,Tryz.ntmps121;go_upto_region 1 with (fail);generalize w.alloc (.cells ⟨cs⟩ 39)= W at*;go_upto_region 4 with (first|((with_reducible refine za tyK39 _ rfl ?_ O.o rfl HL.o.1 ?_);exact wA rfl)|(go_at_call 35;refine zg X.o ?_;intro w2 C));have N:=I (zfM w2);have K:=I (zc w2 (.cells #[.pointer none,.slice none 0 0] 201));have a2:=I (zy w2 (.cells #[.pointer none,.slice none 0 0] 201));generalize w2.alloc (.cells #[.pointer none,.slice none 0 0] 201)= W3 at*;obtain⟨B,hB⟩:∃ B,w2.heap.size= B:=⟨_,rfl⟩;rw[hB] at N K a2;rw[hB];have g:Hid (w.heap.size < B):=I (hB▸Nat.lt_of_lt_of_le a1.o C.o.size);have Y:=I (beT G.o C.o);have A:=I (Y.o.trans (K.o.mono (Nat.le_of_lt g.o)));have a0:=I (zb (zb O.o C.o a1.o) K.o g.o);have a7:=I (HT.o cs w.heap.size 0 B B [] W3 g.o (Nat.le_of_lt a2.o) a0.o ((HV.o.under A.o).more (Nat.le_of_lt g.o)) N.o (by simpa using H0.o.2) ⟨w,Nat.le_of_lt g.o,b0.o,A.o⟩);clear hB O G C X HT a0 N;go_wp2_with (first|(go_at_call 147;refine a7.o.mono ?_;rintro e w4 ⟨rfl,a3,a4⟩;have a6:=I a3;have a8:=I a4;clear a3 a4)|(go_at_call 148;refine zg (zfN B B txt _ a6.o H0.o.1) ?_;intro w5 a9));go_ret2;exact⟨rfl,A.o.trans ((a8.o.trans a9.o).mono (Nat.le_of_lt g.o))⟩
theorem z6t (r:Bool) (x:VT):∀ (l:List VT) (first:Bool) (ns:List ByteArray),textL r first ns (l ++ [x]) =
  textL r first ns l ++ ((if first= true/\l=[] then[] else[44]) ++ ((if r= true then((ns.drop l.length).headD default).data.toList ++ [58] else[]) ++ textV x))
 |[],first,ns=>by
  rw[List.nil_append,textL,textL,textL]
  simp
 |a::l,first,ns=>by
  rw[List.cons_append,textL,z6t r x l false ns.tail,textL]
  rw[if_neg (show ¬ (false= true/\l=[]) by simp),if_neg (show ¬ (first= true/\a::l=[]) by simp)]
  rw[show(ns.tail.drop l.length)= ns.drop (a::l).length by rw[List.drop_tail];rfl]
  simp only[List.append_assoc]
theorem z4v (r:Bool) (ns:List ByteArray) (its:List VT) (nm tx:Nat->List UInt8) (hnm:∀ k,k < its.length->nm k= if r= true then((ns.drop k).headD default).data.toList ++ [58] else[])
  (htx:∀ k x,its[k]?= some x->tx k= textV x):∀ k,k<=its.length->joinK nm tx k= textL r true ns (its.take k)
 |0,_=>by rw[List.take_zero,textL];rfl
 |k+1,h=>by
  obtain⟨x,hx⟩:∃ x,its[k]?= some x:=⟨_,List.getElem?_eq_getElem (by omega)⟩
  have hk:(its.take k).length= k:=by rw[List.length_take];omega
  rw[List.take_add_one,hx]
  show joinK nm tx k ++ ((if k= 0 then[] else[44]) ++ (nm k ++ tx k))= textL r true ns (its.take k ++ [x])
  rw[z6t,z4v r ns its nm tx hnm htx k (by omega),hnm k (by omega),htx k x hx,hk]
  have:(true= true/\its.take k=[])↔k= 0:=by
   constructor
   ·rintro⟨_,h2⟩;rw[h2] at hk;exact hk.symm
   ·rintro rfl;exact⟨rfl,List.take_zero⟩
  by_cases h0:k= 0
  ·rw[if_pos h0,if_pos (this.2 h0)]
  ·rw[if_neg h0,if_neg (fun e=>h0 (this.1 e))]
theorem z6u (k n:Int) (f:Nat) (s:ByteArray) (ns:List ByteArray) (its:List VT):
  (k= 1->textV (.mk k n f s ns its)= if n= 1 then trueL else falseL)/\(k= 2->textV (.mk k n f s ns its)= Lib.itoa n)/\(k= 3->textV (.mk k n f s ns its)= textF f)/\
  (k= 4->textV (.mk k n f s ns its)= z2Y s.data.toList)/\(k= 5->textV (.mk k n f s ns its)=[91] ++ (textL false true ns its ++ [93]))/\(k= 6->textV (.mk k n f s ns its)=[123] ++ (textL true true ns its ++ [125])):=by
 refine⟨?_,?_,?_,?_,?_,?_⟩<;>(rintro rfl;rw[textV])
 ·rw[if_pos rfl]
 ·rw[if_neg (by decide),if_pos rfl]
 ·rw[if_neg (by decide),if_neg (by decide),if_pos rfl]
 ·rw[if_neg (by decide),if_neg (by decide),if_neg (by decide),if_pos rfl]
 ·rw[if_neg (by decide),if_neg (by decide),if_neg (by decide),if_neg (by decide)];rfl
 ·rw[if_neg (by decide),if_neg (by decide),if_neg (by decide),if_neg (by decide)];rfl
theorem zdq (t:VT):saneV t->∀ d,zr t d= true->TextD t (textV t):=by
 induction t using VT.ind with
 |h k n f s ns its ih=>
  intro G d N;rw[saneV] at G;obtain⟨e1,e2,e3,e4,e5,e6⟩:=z6u k n f s ns its;rcases z2r N with ⟨rfl,K,_,_⟩|⟨rfl,_,_⟩|⟨rfl,_,_⟩|⟨rfl,h4,_,_⟩|⟨rfl,h5,h6⟩|⟨rfl,h5,h6,h7⟩
  ·rw[e1 rfl]
   rcases K with rfl|rfl
   ·exact z9W f s ns its
   ·exact zbq f s ns its
  ·rw[e2 rfl];exact zds n G.1.1 G.1.2 f s ns its
  ·rw[e3 rfl];exact zdr n f s ns its
  ·rw[e4 rfl];exact zdu n f s h4 ns its
  ·rw[e5 rfl]
   have g:∀ i x,its[i]?= some x->TextD x (((its[i]?).map textV).getD []):=fun i x hx=>by
    rw[hx];have A:=List.mem_of_getElem? hx;exact ih x A (z3X G.2.2 x A) (d+1) (z2s h6 x A)
   have h:=zbp n f s ns its (fun i=>((its[i]?).map textV).getD []) (fun _=>[]) (fun _=>rfl) g;have C:=z4v false ns its (fun _=>[]) (fun i=>((its[i]?).map textV).getD []) (fun _ _=>rfl) (fun k x hx=>by simp only[hx];rfl) its.length (Nat.le_refl _);rw[List.take_length] at C;rw[C] at h;exact h
  ·rw[e6 rfl]
   have g:∀ i x,its[i]?= some x->TextD x (((its[i]?).map textV).getD []):=fun i x hx=>by
    rw[hx];have A:=List.mem_of_getElem? hx;exact ih x A (z3X G.2.2 x A) (d+1) (z2s h7 x A)
   have h:=zdt n f s ns its (fun i=>((its[i]?).map textV).getD []) (fun i=>((ns.drop i).headD default).data.toList ++ [58]) h5 (fun i s1 h1=>by
    have:(ns.drop i).headD default= s1:=by rw[z0d h1];rfl
    rw[this]) g
   have C:=z4v true ns its (fun i=>((ns.drop i).headD default).data.toList ++ [58]) (fun i=>((its[i]?).map textV).getD []) (fun _ _=>rfl) (fun k x hx=>by simp only[hx];rfl) its.length (Nat.le_refl _);rw[List.take_length] at C;rw[C] at h;exact h
theorem zfo {t:VT} {d:Nat} (hr:zr t d= true):textV t≠[]:=by
 cases t with
 |mk k n f s ns its=>
  obtain⟨e1,e2,e3,e4,e5,e6⟩:=z6u k n f s ns its;rcases z2r hr with ⟨rfl,g,_,_⟩|⟨rfl,_,_⟩|⟨rfl,_,_⟩|⟨rfl,h4,_,_⟩|⟨rfl,h5,h6⟩|⟨rfl,h5,h6,h7⟩
  ·rw[e1 rfl];split<;>decide
  ·rw[e2 rfl]
   rcases zaX n with ⟨_,e⟩|⟨_,e⟩
   ·rw[e];exact zc6 _
   ·rw[e];simp
  ·rw[e3 rfl,zdv]
   cases keyF f with
   |none=>decide
   |some q=>
    obtain⟨s,p⟩:=q;obtain⟨c,t,h,_⟩:=zbT p [];rw[List.append_nil] at h;show(if s= true then[45] else[]) ++ bodyF p≠[];rw[h];simp
  ·rw[e4 rfl];simp[z2Y]
  ·rw[e5 rfl];simp
  ·rw[e6 rfl];simp
def z6g (t:VT):Bool:=decide (cntV t 0<=200) && zr t 1
theorem zfp (t:VT) (cs:List Value) (w:World) (htb:TabP w) (hv:ValAt w w.heap.size cs t):
  Calls Tryz.prog 121 #[.agg ⟨cs⟩] w fun e w'=>e= .returned (.tuple (if z6g t= true then #[.string ⟨(textV t).toArray⟩,.int .i64 0] else #[.string ⟨#[]⟩,.int .i64 5]))/\Below w.heap.size w w':=by
 cases hr:z6g t with
 |true=>
  have g:=hr;unfold z6g at g;rw[Bool.and_eq_true] at g;have A:=zaw t cs hv;exact zdw t (textV t) (zdq t A 1 g.2) (zfo g.2) (Nat.le_trans (z9c A hr) (by decide)) hr cs w htb hv
 |false=>exact zgv t hr cs w hv
end
end Go.Proofs.YtpmjcbjdcjjplaaGreatDoor
