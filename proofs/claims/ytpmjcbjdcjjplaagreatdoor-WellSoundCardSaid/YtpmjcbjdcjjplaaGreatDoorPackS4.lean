/- Parts of a proof: Sl, Tree, ValP, Only, But0, ParS, Apart, Model. -/
import Derived.Deep.MidRow
import Derived.Lib.Bytealg
import Derived.Test.YtpmjcbjdcjjplaaGreatDoorPackS1
import Derived.Test.YtpmjcbjdcjjplaaGreatDoorPackS2
import Derived.Test.YtpmjcbjdcjjplaaGreatDoorPackS3
set_option maxHeartbeats 8000000
set_option maxRecDepth 100000
set_option linter.unusedVariables false
set_option linter.unusedSimpArgs false
namespace Go.Proofs.YtpmjcbjdcjjplaaGreatDoor
section
open Go Go.RowKit
def SlAt {α:Type} (w:World) (B k:Nat) (R:List Value->α->Prop) (v:Value) (l:List α):Prop:=
 l.length<=9223372036854775807/\∃ A c,v= .slice A l.length c/\(0 < l.length->∃ b o,A= some ⟨b,o,none⟩/\b < B/\
  ∀ (i:Nat) x,l[i]?= some x->∃ cs:List Value,cs.length= k/\w.rangeAt b (o+i*k) cs/\R cs x)
theorem zb {w w':World} {B b o:Nat} {cs:List Value} (h:w.rangeAt b o cs) (hb:Below B w w') (hB:b < B):w'.rangeAt b o cs:=
 fun j v hv=>(hb.cell (p:=⟨b,o+j,none⟩) hB).trans (h j v hv)
section
variable {α:Type} {w w':World} {B k:Nat} {R R':List Value->α->Prop} {v:Value} {l:List α}
theorem SlAt.below (h:SlAt w B k R v l) (hb:Below B w w') (hR:∀ cs x,x∈l->R cs x->R' cs x):SlAt w' B k R' v l:=by
 obtain⟨h0,A,c,rfl,h1⟩:=h;refine⟨h0,A,c,rfl,fun hp=> ?_⟩;obtain⟨b,o,rfl,g,h2⟩:=h1 hp;refine⟨b,o,rfl,g,fun i x hx=> ?_⟩;obtain⟨cs,h3,h4,h5⟩:=h2 i x hx;exact⟨cs,h3,zb h4 hb g,hR cs x (List.mem_of_getElem? hx) h5⟩
theorem SlAt.more {B':Nat} (h:SlAt w B k R v l) (hB:B<=B'):SlAt w B' k R v l:=by
 obtain⟨h0,A,c,rfl,h1⟩:=h;refine⟨h0,A,c,rfl,fun hp=> ?_⟩;obtain⟨b,o,rfl,hlt,h2⟩:=h1 hp;exact⟨b,o,rfl,by omega,h2⟩
theorem SlAt.nil (w:World) (B k:Nat) (R:List Value->α->Prop):SlAt w B k R (.slice none 0 0) []:=⟨by simp,none,0,rfl,fun h=>by simp at h⟩
end
def flat {α:Type} (enc:α->List Value) (l:List α):List Value:=l.flatMap enc
def Enc {α:Type} (enc:α->List Value):List Value->α->Prop:=fun cs x=>cs= enc x
section
variable {α:Type} {enc:α->List Value} {k:Nat}
theorem z4s (l:List α) (x:α):flat enc (l ++ [x])= flat enc l ++ enc x:=by simp[flat]
theorem z0Z (hk:∀ x,(enc x).length= k):∀ (l:List α) (i:Nat) (x:α),l[i]?= some x->∀ j u,(enc x)[j]?= some u->(flat enc l)[i*k+j]?= some u
 |[],i,x,h=>by simp at h
 |y::l,0,x,h=>fun j u hu=>by
  have:y= x:=by simpa using h
  subst this
  show(enc y ++ flat enc l)[0*k+j]?= some u
  rw[Nat.zero_mul,Nat.zero_add,List.getElem?_append_left (by have:=(List.getElem?_eq_some_iff.1 hu).1;exact this)]
  exact hu
 |y::l,i+1,x,h=>fun j u hu=>by
  show(enc y ++ flat enc l)[(i+1) *k+j]?= some u
  rw[List.getElem?_append_right (by rw[hk,Nat.succ_mul];omega),hk]
  have:=z0Z hk l i x (by simpa using h) j u hu
  rw[show(i+1) *k+j - k= i*k+j by rw[Nat.succ_mul];omega]
  exact this
end
def OwnSl {α:Type} (T:TypeId) (k:Nat) (enc:α->List Value) (w:World) (base:Nat) (v:Value) (l:List α):Prop:=w.ownsRow base T k v l.length (flat enc l)
section
variable {α:Type} {T:TypeId} {k:Nat} {enc:α->List Value} {w w':World} {base:Nat} {v:Value} {l:List α}
theorem OwnSl.nil (w:World) (base:Nat):OwnSl T k enc w base (.slice none 0 0) []:=⟨by simp[flat],.inl ⟨rfl,rfl⟩⟩
theorem OwnSl.at (h:OwnSl T k enc w base v l) (hk:∀ x,(enc x).length= k) (hl:l.length<=9223372036854775807):SlAt w w.heap.size k (Enc enc) v l:=by
 refine⟨hl,?_⟩;rcases h.2 with ⟨rfl,h0⟩|⟨g,A,N,K,_,G,_⟩
 ·exact⟨none,0,by rw[h0],fun h1=>by omega⟩
 ·refine⟨some ⟨g,0,none⟩,A,K,fun _=> ?_⟩
  have C:g < w.heap.size:=by
   rcases Nat.lt_or_ge g w.heap.size with h2|h2
   ·exact h2
   ·rw[Array.getElem?_eq_none h2] at G;cases G
  refine⟨g,0,rfl,C,fun i x hx=>⟨enc x,hk x,fun j u hu=> ?_,rfl⟩⟩;have:=World.ownsRow.cells h (g:=g) (by rw[K];rfl) (i*k+j) u (z0Z hk l i x hx j u hu);rw[Addr.add_mid] at this;rw[show 0+i*k+j= 0+ (i*k+j) by omega];exact this
theorem OwnSl.mono {base':Nat} (h:OwnSl T k enc w base v l) (hb:base'<=base):OwnSl T k enc w base' v l:=by
 refine⟨h.1,?_⟩;rcases h.2 with h1|⟨g,cap,cur,h1,h2,h3⟩
 ·exact .inl h1
 ·exact .inr ⟨g,cap,cur,h1,by omega,h3⟩
theorem OwnSl.below (h:OwnSl T k enc w base v l) (hb:Below w.heap.size w w'):OwnSl T k enc w' base v l:=
 World.ownsRow.kept h (row:=none) ⟨hb.os,hb.tape,hb.output,hb.size,fun i hi _=>hb.block i hi⟩ (by cases e:v.ownBlock<;>simp)
theorem OwnSl.block (h:OwnSl T k enc w base v l) {b:Nat} (hb:v.ownBlock= some b):base<=b:=by
 rcases h.2 with ⟨rfl,_⟩|⟨g,cap,cur,rfl,hg,_⟩
 ·cases hb
 ·have:g= b:=by simpa [Value.ownBlock] using hb
  omega
end
section
variable {P:Program} {ops:Array Oper} {rest:List Oper} {o:Oper} {a:Act} {w:World} {Q:Exit->Act->World->Prop}
theorem z0N (T:TypeId) (x:Operand) (ho:o.op= .load T x) (hw:Region.wanted o (yielded ops a.tmps)= true) (b ofs:Nat) (cs:List Value) (d:TypeDesc)
  (hx:a.eval x= .pointer (some ⟨b,ofs,none⟩)) (hc:w.rangeAt b ofs cs) (hu:P.underlying T= some d) (hd:d.isRow= true) (hi:(P.info? T).map (·.size)= some cs.length)
  (h:wpList P ops Q rest (a.put o.dst (.agg cs.toArray)) w):wpList P ops Q (o::rest) a w:=
 wpList_step fun K hK=>by
  rw[if_pos hw]
  exact wp_load_mid T x ho b ofs hx cs d hc hu hd hi (hK _ _ h)
structure TypK0 (P:Program) (T:TypeId) (n:Nat):Prop where
 d:∃ d,P.underlying T= some d/\d.isRow= true
 i:(P.info? T).map (·.size)= some n
theorem za {P:Program} {ops:Array Oper} {rest:List Oper} {o:Oper} {a:Act} {w:World} {Q:Exit->Act->World->Prop} {T:TypeId} {n:Nat} (k:TypK0 P T n) (x:Operand) (ho:o.op= .load T x) (hw:Region.wanted o (yielded ops a.tmps)= true) {b ofs:Nat} {cs:List Value} (hc:w.rangeAt b ofs cs) (hx:a.eval x= .pointer (some ⟨b,ofs,none⟩)) (hl:cs.length= n) (h:wpList P ops Q rest (a.put o.dst (.agg cs.toArray)) w):wpList P ops Q (o::rest) a w:=by
 obtain⟨d,h1,h2⟩:=k.d;exact z0N T x ho hw b ofs cs d hx hc h1 h2 (by rw[hl];exact k.i) h
theorem tyK27:TypK0 Tryz.prog 27 6:=⟨⟨_,Tryz.underlying27,rfl⟩,by kernel_rfl⟩
theorem tyK36:TypK0 Tryz.prog 36 3:=⟨⟨_,Tryz.underlying36,rfl⟩,by kernel_rfl⟩
theorem tyK39:TypK0 Tryz.prog 39 6:=⟨⟨_,Tryz.underlying39,rfl⟩,by kernel_rfl⟩
theorem tyK41:TypK0 Tryz.prog 41 11:=⟨⟨_,Tryz.underlying41,rfl⟩,by kernel_rfl⟩
theorem tyK47:TypK0 Tryz.prog 47 10:=⟨⟨_,Tryz.underlying47,rfl⟩,by kernel_rfl⟩
theorem tyK49:TypK0 Tryz.prog 49 29:=⟨⟨_,Tryz.underlying49,rfl⟩,by kernel_rfl⟩
theorem tyK71:TypK0 Tryz.prog 71 8:=⟨⟨_,Tryz.underlying71,rfl⟩,by kernel_rfl⟩
theorem z2x:TypK0 Tryz.prog 146 9:=⟨⟨_,Tryz.underlying146,rfl⟩,by kernel_rfl⟩
theorem z4M (T:TypeId) (x y:Operand) (ho:o.op= .store T x y) (hw:Region.wanted o (yielded ops a.tmps)= true) (b ofs:Nat) (cs:List Value)
  (hx:a.eval x= .pointer (some ⟨b,ofs,none⟩)) (hy:a.eval y= .agg cs.toArray) (ht:w.there b ofs cs.length) (hi:(P.info? T).map (·.size)= some cs.length) (h1:∀ v∈cs,v.oneCell'= true)
  (h:wpList P ops Q rest (a.put o.dst undef) (w.setCells b ofs cs)):wpList P ops Q (o::rest) a w:=
 wpList_step fun K hK=>by
  rw[if_pos hw]
  exact wp_store_mid T x y ho b ofs cs.toArray hx hy (by simpa using ht) (by simpa using hi) (all_oneCell_toArray h1) (by simpa using hK _ _ h)
theorem zp (T:TypeId) {x:Operand} (ho:o.op= .load T x) (b ofs:Nat) (cs:List Value) (d:TypeDesc)
  (hx:a.eval x= .pointer (some ⟨b,ofs,none⟩)) (hc:w.rangeAt b ofs cs) (hu:P.underlying T= some d) (hd:d.isRow= true) (hi:(P.info? T).map (·.size)= some cs.length):
  (execOp a.eval o).run P w= .ok (.value (.agg cs.toArray)) w:=by
 unfold execOp;simp only[ho,hx,Instr.loadAt,Instr.sureAddr,Sem.run_bind,Sem.run_pure,Result.andThen_ok,run_loadVar_mid w b ofs T cs d hc hu hd hi]
end
end
section
open Go Go.RowKit
inductive VT where
 |mk (kind n:Int) (f:Nat) (s:ByteArray) (names:List ByteArray) (items:List VT)
inductive TT where
 |mk (kind:Int) (names:List ByteArray) (items:List TT)
inductive ET where
 |mk (kind:Int) (s:ByteArray) (v:VT) (names:List ByteArray) (kids:List ET)
def VT.items:VT->List VT| .mk _ _ _ _ _ l=>l
def TT.items:TT->List TT| .mk _ _ l=>l
def ET.kids:ET->List ET| .mk _ _ _ _ l=>l
theorem VT.ind {P:VT->Prop} (h:∀ k n f s ns its,(∀ x∈its,P x)->P (.mk k n f s ns its)):∀ t,P t
 | .mk k n f s ns its=>h k n f s ns its fun x hx=>VT.ind h x
termination_by t=>SizeOf.sizeOf t
decreasing_by have:=List.sizeOf_lt_of_mem hx;simp;omega
theorem TT.ind {P:TT->Prop} (h:∀ k ns its,(∀ x∈its,P x)->P (.mk k ns its)):∀ t,P t
 | .mk k ns its=>h k ns its fun x hx=>TT.ind h x
termination_by t=>SizeOf.sizeOf t
decreasing_by have:=List.sizeOf_lt_of_mem hx;simp;omega
theorem ET.ind {P:ET->Prop} (h:∀ k s v ns its,(∀ x∈its,P x)->P (.mk k s v ns its)):∀ t,P t
 | .mk k s v ns its=>h k s v ns its fun x hx=>ET.ind h x
termination_by t=>SizeOf.sizeOf t
decreasing_by have:=List.sizeOf_lt_of_mem hx;simp;omega
def wfI (i:Int):Prop:=(Lit.int .i64 i).wf= true
def StrR:List Value->ByteArray->Prop:=fun cs s=>cs=[.string s]/\s.size<=maxLen
def IntR:List Value->Int->Prop:=fun cs i=>cs=[.int .i64 i]/\wfI i
def PairR:List Value->Int × Int->Prop:=fun cs p=>cs=[.int .i64 p.1,.int .i64 p.2]/\wfI p.1/\wfI p.2
inductive ValAt (w:World) (B:Nat):List Value->VT->Prop
 |mk {k n:Int} {f:Nat} {s:ByteArray} {ns:List ByteArray} {its:List VT} {vn:Value} {A:Option Addr} {c:Nat} (b o:Nat) (css:Nat->List Value)
   (hk:wfI k) (hn:wfI n) (hf:(Lit.float .f64 f).wf= true) (hs:s.size<=maxLen) (hns:SlAt w B 1 StrR vn ns) (hl:its.length<=maxLen)
   (hA:0 < its.length->A= some ⟨b,o,none⟩/\b < B) (hc:∀ i,i < its.length->(css i).length= 6/\w.rangeAt b (o+i*6) (css i))
   (hi:∀ i x,its[i]?= some x->ValAt w B (css i) x):
   ValAt w B [.int .i64 k,.int .i64 n,.float .f64 f,.string s,vn,.slice A its.length c] (.mk k n f s ns its)
inductive TypAt (w:World) (B:Nat):List Value->TT->Prop
 |mk {k:Int} {ns:List ByteArray} {its:List TT} {vn:Value} {A:Option Addr} {c:Nat} (b o:Nat) (css:Nat->List Value)
   (hk:wfI k) (hns:SlAt w B 1 StrR vn ns) (hl:its.length<=maxLen)
   (hA:0 < its.length->A= some ⟨b,o,none⟩/\b < B) (hc:∀ i,i < its.length->(css i).length= 3/\w.rangeAt b (o+i*3) (css i))
   (hi:∀ i x,its[i]?= some x->TypAt w B (css i) x):
   TypAt w B [.int .i64 k,vn,.slice A its.length c] (.mk k ns its)
inductive ExpAt (w:World) (B:Nat):List Value->ET->Prop
 |mk {k:Int} {s:ByteArray} {t:VT} {c0 c1 c2 c3 c4 c5:Value} {ns:List ByteArray} {its:List ET} {vn:Value} {A:Option Addr} {c:Nat} (b o:Nat) (css:Nat->List Value)
   (hk:wfI k) (hs:s.size<=maxLen) (hv:ValAt w B [c0,c1,c2,c3,c4,c5] t) (hns:SlAt w B 1 StrR vn ns) (hl:its.length<=maxLen)
   (hA:0 < its.length->A= some ⟨b,o,none⟩/\b < B) (hc:∀ i,i < its.length->(css i).length= 10/\w.rangeAt b (o+i*10) (css i))
   (hi:∀ i x,its[i]?= some x->ExpAt w B (css i) x):
   ExpAt w B [.int .i64 k,.string s,c0,c1,c2,c3,c4,c5,vn,.slice A its.length c] (.mk k s t ns its)
section
variable {w w':World} {B B':Nat} {cs:List Value}
theorem z10:maxLen<=9223372036854775807:=by unfold maxLen;omega
theorem z5w {α:Type} {k:Nat} {R:List Value->α->Prop} {its:List α} {A:Option Addr} {c b o:Nat} {css:Nat->List Value} (hl:its.length<=maxLen)
  (hA:0 < its.length->A= some ⟨b,o,none⟩/\b < B) (hc:∀ i,i < its.length->(css i).length= k/\w.rangeAt b (o+i*k) (css i)) (hi:∀ i x,its[i]?= some x->R (css i) x):
  SlAt w B k R (.slice A its.length c) its:=
 ⟨Nat.le_trans hl z10,A,c,rfl,fun h0=>⟨b,o,(hA h0).1,(hA h0).2,fun i x hx=>⟨css i,(hc i (List.getElem?_eq_some_iff.1 hx).1).1,(hc i (List.getElem?_eq_some_iff.1 hx).1).2,hi i x hx⟩⟩⟩
theorem z5x {α:Type} {k:Nat} {R:List Value->α->Prop} {its:List α} {v:Value} (h:SlAt w B k R v its) (hm:its.length<=maxLen):
  ∃ (A:Option Addr) (c b o:Nat) (css:Nat->List Value),v= .slice A its.length c/\(0 < its.length->A= some ⟨b,o,none⟩/\b < B)/\(∀ i,i < its.length->(css i).length= k/\w.rangeAt b (o+i*k) (css i))/\(∀ i x,its[i]?= some x->R (css i) x):=by
 obtain⟨_,A,c,rfl,h1⟩:=h;by_cases h0:0 < its.length
 ·obtain⟨b,o,rfl,C,h2⟩:=h1 h0
  have g:∀ i,∃ cs:List Value,∀ x,its[i]?= some x->cs.length= k/\w.rangeAt b (o+i*k) cs/\R cs x:=fun i=>by
   cases hx:its[i]? with
   |none=>exact⟨[],fun x h=>by cases h⟩
   |some x=>
    obtain⟨cs,h3⟩:=h2 i x hx;exact⟨cs,fun y hy=>by injection hy with hy;subst hy;exact h3⟩
  refine⟨_,c,b,o,fun i=>(g i).choose,rfl,fun _=>⟨rfl,C⟩,fun i hi=> ?_,fun i x hx=>((g i).choose_spec x hx).2.2⟩;have:=(g i).choose_spec its[i] (List.getElem?_eq_getElem hi);exact⟨this.1,this.2.1⟩
 ·exact⟨A,c,0,0,fun _=>[],rfl,fun h=>absurd h h0,fun i hi=>by omega,fun i x hx=>by have:=(List.getElem?_eq_some_iff.1 hx).1;omega⟩
theorem ValAt.under {t:VT} (h:ValAt w B cs t) (hb:Below B w w'):ValAt w' B cs t:=by
 induction h with
 |mk b o css hk hn hf hs hns hl hA hc hi ih=>
  exact .mk b o css hk hn hf hs (hns.below hb fun _ _ _ h=>h) hl hA (fun i h=>⟨(hc i h).1,zb (hc i h).2 hb (hA (by omega)).2⟩) ih
theorem ValAt.more {t:VT} (h:ValAt w B cs t) (hB:B<=B'):ValAt w B' cs t:=by
 induction h with
 |mk b o css hk hn hf hs hns hl hA hc hi ih=>
  exact .mk b o css hk hn hf hs (hns.more hB) hl (fun h=>⟨(hA h).1,Nat.lt_of_lt_of_le (hA h).2 hB⟩) hc ih
theorem TypAt.under {t:TT} (h:TypAt w B cs t) (hb:Below B w w'):TypAt w' B cs t:=by
 induction h with
 |mk b o css hk hns hl hA hc hi ih=>
  exact .mk b o css hk (hns.below hb fun _ _ _ h=>h) hl hA (fun i h=>⟨(hc i h).1,zb (hc i h).2 hb (hA (by omega)).2⟩) ih
theorem TypAt.more {t:TT} (h:TypAt w B cs t) (hB:B<=B'):TypAt w B' cs t:=by
 induction h with
 |mk b o css hk hns hl hA hc hi ih=>
  exact .mk b o css hk (hns.more hB) hl (fun h=>⟨(hA h).1,Nat.lt_of_lt_of_le (hA h).2 hB⟩) hc ih
theorem ExpAt.under {t:ET} (h:ExpAt w B cs t) (hb:Below B w w'):ExpAt w' B cs t:=by
 induction h with
 |mk b o css hk hs hv hns hl hA hc hi ih=>
  exact .mk b o css hk hs (hv.under hb) (hns.below hb fun _ _ _ h=>h) hl hA (fun i h=>⟨(hc i h).1,zb (hc i h).2 hb (hA (by omega)).2⟩) ih
theorem ExpAt.more {t:ET} (h:ExpAt w B cs t) (hB:B<=B'):ExpAt w B' cs t:=by
 induction h with
 |mk b o css hk hs hv hns hl hA hc hi ih=>
  exact .mk b o css hk hs (hv.more hB) (hns.more hB) hl (fun h=>⟨(hA h).1,Nat.lt_of_lt_of_le (hA h).2 hB⟩) hc ih
theorem ValAt.inv {k n:Int} {f:Nat} {s:ByteArray} {ns:List ByteArray} {its:List VT} (h:ValAt w B cs (.mk k n f s ns its)):
  ∃ vn vi,cs=[.int .i64 k,.int .i64 n,.float .f64 f,.string s,vn,vi]/\wfI k/\wfI n/\(Lit.float .f64 f).wf= true/\s.size<=maxLen/\SlAt w B 1 StrR vn ns/\its.length<=maxLen/\SlAt w B 6 (ValAt w B) vi its:=by
 cases h with
 |mk b o css hk hn hf hs hns hl hA hc hi=>exact⟨_,_,rfl,hk,hn,hf,hs,hns,hl,z5w hl hA hc hi⟩
theorem TypAt.inv {k:Int} {ns:List ByteArray} {its:List TT} (h:TypAt w B cs (.mk k ns its)):
  ∃ vn vi,cs=[.int .i64 k,vn,vi]/\wfI k/\SlAt w B 1 StrR vn ns/\its.length<=maxLen/\SlAt w B 3 (TypAt w B) vi its:=by
 cases h with
 |mk b o css hk hns hl hA hc hi=>exact⟨_,_,rfl,hk,hns,hl,z5w hl hA hc hi⟩
theorem ExpAt.inv {k:Int} {s:ByteArray} {t:VT} {ns:List ByteArray} {its:List ET} (h:ExpAt w B cs (.mk k s t ns its)):
  ∃ c0 c1 c2 c3 c4 c5 vn vi,cs=[.int .i64 k,.string s,c0,c1,c2,c3,c4,c5,vn,vi]/\wfI k/\s.size<=maxLen/\ValAt w B [c0,c1,c2,c3,c4,c5] t/\SlAt w B 1 StrR vn ns/\its.length<=maxLen/\SlAt w B 10 (ExpAt w B) vi its:=by
 cases h with
 |mk b o css hk hs hv hns hl hA hc hi=>exact⟨_,_,_,_,_,_,_,_,rfl,hk,hs,hv,hns,hl,z5w hl hA hc hi⟩
theorem ValAt.of {k n:Int} {f:Nat} {s:ByteArray} {ns:List ByteArray} {its:List VT} {vn vi:Value} (hk:wfI k) (hn:wfI n) (hf:(Lit.float .f64 f).wf= true) (hs:s.size<=maxLen)
  (hns:SlAt w B 1 StrR vn ns) (hl:its.length<=maxLen) (hi:SlAt w B 6 (ValAt w B) vi its):ValAt w B [.int .i64 k,.int .i64 n,.float .f64 f,.string s,vn,vi] (.mk k n f s ns its):=by
 obtain⟨A,c,b,o,css,rfl,h1,h2,h3⟩:=z5x hi hl;exact .mk b o css hk hn hf hs hns hl h1 h2 h3
theorem TypAt.of {k:Int} {ns:List ByteArray} {its:List TT} {vn vi:Value} (hk:wfI k)
  (hns:SlAt w B 1 StrR vn ns) (hl:its.length<=maxLen) (hi:SlAt w B 3 (TypAt w B) vi its):TypAt w B [.int .i64 k,vn,vi] (.mk k ns its):=by
 obtain⟨A,c,b,o,css,rfl,h1,h2,h3⟩:=z5x hi hl;exact .mk b o css hk hns hl h1 h2 h3
theorem ExpAt.of {k:Int} {s:ByteArray} {t:VT} {ns:List ByteArray} {its:List ET} {c0 c1 c2 c3 c4 c5 vn vi:Value} (hk:wfI k) (hs:s.size<=maxLen) (hv:ValAt w B [c0,c1,c2,c3,c4,c5] t)
  (hns:SlAt w B 1 StrR vn ns) (hl:its.length<=maxLen) (hi:SlAt w B 10 (ExpAt w B) vi its):ExpAt w B [.int .i64 k,.string s,c0,c1,c2,c3,c4,c5,vn,vi] (.mk k s t ns its):=by
 obtain⟨A,c,b,o,css,rfl,h1,h2,h3⟩:=z5x hi hl;exact .mk b o css hk hs hv hns hl h1 h2 h3
end
structure VarT where
 name:ByteArray
 label:Int
 type:TT
 init:VT
structure MsgT where
 name:ByteArray
 label:Int
 key:TT
 body:TT
structure NodeT where
 kind:Int
 label:Int
 next:List Int
 conds:List ET
 expr:ET
 body:ET
 var:Int
 msg:Int
 catch_:Int
 wait:Int
 from_:Int
structure ModelT where
 labels:Int
 order:List (Int × Int)
 grants:List (Int × Int)
 vars:List VarT
 msgs:List MsgT
 nodes:List NodeT
structure VarAt (w:World) (B:Nat) (cs:List Value) (x:VarT):Prop where
 ex:∃ ct ci,cs=[.string x.name,.int .i64 x.label] ++ ct ++ ci/\ct.length= 3/\ci.length= 6/\TypAt w B ct x.type/\ValAt w B ci x.init
 name:x.name.size<=maxLen
 label:wfI x.label
structure MsgAt (w:World) (B:Nat) (cs:List Value) (x:MsgT):Prop where
 ex:∃ ck cb,cs=[.string x.name,.int .i64 x.label] ++ ck ++ cb/\ck.length= 3/\cb.length= 3/\TypAt w B ck x.key/\TypAt w B cb x.body
 name:x.name.size<=maxLen
 label:wfI x.label
structure NodeAt (w:World) (B:Nat) (cs:List Value) (x:NodeT):Prop where
 ex:∃ vn vc ce cb,cs=[.int .i64 x.kind,.int .i64 x.label,vn,vc] ++ ce ++ cb ++ [.int .i64 x.var,.int .i64 x.msg,.int .i64 x.catch_,.int .i64 x.wait,.int .i64 x.from_]/\
  ce.length= 10/\cb.length= 10/\SlAt w B 1 IntR vn x.next/\SlAt w B 10 (ExpAt w B) vc x.conds/\x.conds.length<=maxLen/\ExpAt w B ce x.expr/\ExpAt w B cb x.body
 wf:wfI x.kind/\wfI x.label/\wfI x.var/\wfI x.msg/\wfI x.catch_/\wfI x.wait/\wfI x.from_
structure ModelAt (w:World) (B:Nat) (cs:List Value) (m:ModelT):Prop where
 ex:∃ v1 v2 v3 v4 v5,cs=[.int .i64 m.labels,v1,v2,v3,v4,v5]/\SlAt w B 2 PairR v1 m.order/\SlAt w B 2 PairR v2 m.grants/\SlAt w B 11 (VarAt w B) v3 m.vars/\SlAt w B 8 (MsgAt w B) v4 m.msgs/\SlAt w B 29 (NodeAt w B) v5 m.nodes
 wf:wfI m.labels
section
variable {w w':World} {B B':Nat} {cs:List Value}
theorem VarAt.under {x:VarT} (h:VarAt w B cs x) (hb:Below B w w'):VarAt w' B cs x:=by
 obtain⟨⟨ct,ci,h1,h2,h3,h4,h5⟩,h6,h7⟩:=h;exact⟨⟨ct,ci,h1,h2,h3,h4.under hb,h5.under hb⟩,h6,h7⟩
theorem MsgAt.under {x:MsgT} (h:MsgAt w B cs x) (hb:Below B w w'):MsgAt w' B cs x:=by
 obtain⟨⟨ct,ci,h1,h2,h3,h4,h5⟩,h6,h7⟩:=h;exact⟨⟨ct,ci,h1,h2,h3,h4.under hb,h5.under hb⟩,h6,h7⟩
theorem NodeAt.under {x:NodeT} (h:NodeAt w B cs x) (hb:Below B w w'):NodeAt w' B cs x:=by
 obtain⟨⟨vn,vc,ce,cb,h1,h2,h3,h4,h5,h6,h7,h8⟩,h9⟩:=h;exact⟨⟨vn,vc,ce,cb,h1,h2,h3,h4.below hb (fun _ _ _ h=>h),h5.below hb (fun _ _ _ h=>h.under hb),h6,h7.under hb,h8.under hb⟩,h9⟩
theorem ModelAt.under {m:ModelT} (h:ModelAt w B cs m) (hb:Below B w w'):ModelAt w' B cs m:=by
 obtain⟨⟨v1,v2,v3,v4,v5,h1,h2,h3,h4,h5,h6⟩,h7⟩:=h;exact⟨⟨v1,v2,v3,v4,v5,h1,h2.below hb (fun _ _ _ h=>h),h3.below hb (fun _ _ _ h=>h),h4.below hb (fun _ _ _ h=>h.under hb),h5.below hb (fun _ _ _ h=>h.under hb),h6.below hb (fun _ _ _ h=>h.under hb)⟩,h7⟩
theorem SlAt.one {α:Type} {k:Nat} {R:List Value->α->Prop} {v:Value} {l:List α} (h:SlAt w B k R v l):v.oneCell'= true:=by
 obtain⟨_,A,c,rfl,_⟩:=h;rfl
theorem ValAt.one {x:VT} (h:ValAt w B cs x):∀ v∈cs,v.oneCell'= true:=by
 cases x
 obtain⟨C,A,rfl,_,_,_,_,h1,_,h2⟩:=h.inv;intro v g;simp only[List.mem_cons,List.not_mem_nil,or_false] at g;rcases g with rfl|rfl|rfl|rfl|rfl|rfl
 ·rfl
 ·rfl
 ·rfl
 ·rfl
 ·exact h1.one
 ·exact h2.one
theorem TypAt.one {x:TT} (h:TypAt w B cs x):∀ v∈cs,v.oneCell'= true:=by
 cases x
 obtain⟨vn,vi,rfl,_,h1,_,h2⟩:=h.inv;intro v hv;simp only[List.mem_cons,List.not_mem_nil,or_false] at hv;rcases hv with rfl|rfl|rfl
 ·rfl
 ·exact h1.one
 ·exact h2.one
theorem ExpAt.one {x:ET} (h:ExpAt w B cs x):∀ v∈cs,v.oneCell'= true:=by
 cases x
 obtain⟨c0,c1,c2,c3,c4,c5,C,A,rfl,_,_,h3,h1,_,h2⟩:=h.inv;have h4:=h3.one;intro v g;simp only[List.mem_cons,List.not_mem_nil,or_false] at g h4;rcases g with rfl|rfl|h|h|h|h|h|h|rfl|rfl
 ·rfl
 ·rfl
 ·exact h4 v (.inl h)
 ·exact h4 v (.inr (.inl h))
 ·exact h4 v (.inr (.inr (.inl h)))
 ·exact h4 v (.inr (.inr (.inr (.inl h))))
 ·exact h4 v (.inr (.inr (.inr (.inr (.inl h)))))
 ·exact h4 v (.inr (.inr (.inr (.inr (.inr h)))))
 ·exact h1.one
 ·exact h2.one
theorem VarAt.one {x:VarT} (h:VarAt w B cs x):∀ v∈cs,v.oneCell'= true:=by
 obtain⟨⟨C,A,rfl,_,_,h1,h2⟩,_,_⟩:=h;intro v g;simp only[List.mem_append,List.mem_cons,List.not_mem_nil,or_false] at g;rcases g with ((rfl|rfl)|g)|g
 ·rfl
 ·rfl
 ·exact h1.one v g
 ·exact h2.one v g
theorem MsgAt.one {x:MsgT} (h:MsgAt w B cs x):∀ v∈cs,v.oneCell'= true:=by
 obtain⟨⟨C,A,rfl,_,_,h1,h2⟩,_,_⟩:=h;intro v g;simp only[List.mem_append,List.mem_cons,List.not_mem_nil,or_false] at g;rcases g with ((rfl|rfl)|g)|g
 ·rfl
 ·rfl
 ·exact h1.one v g
 ·exact h2.one v g
theorem NodeAt.one {x:NodeT} (h:NodeAt w B cs x):∀ v∈cs,v.oneCell'= true:=by
 obtain⟨⟨A,vc,ce,cb,rfl,_,_,h1,h2,_,h3,h4⟩,_⟩:=h;intro v g;simp only[List.mem_append,List.mem_cons,List.not_mem_nil,or_false] at g;rcases g with (((rfl|rfl|rfl|rfl)|g)|g)|(rfl|rfl|rfl|rfl|rfl)
 ·rfl
 ·rfl
 ·exact h1.one
 ·exact h2.one
 ·exact h3.one v g
 ·exact h4.one v g
 all_goals rfl
theorem SlAt.weak {α:Type} {k:Nat} {R R':List Value->α->Prop} {v:Value} {l:List α} (h:SlAt w B k R v l) (hR:∀ cs x,R cs x->R' cs x):SlAt w B k R' v l:=by
 obtain⟨h0,A,c,rfl,h1⟩:=h;refine⟨h0,A,c,rfl,fun hp=> ?_⟩;obtain⟨b,o,rfl,hlt,h2⟩:=h1 hp;refine⟨b,o,rfl,hlt,fun i x hx=> ?_⟩;obtain⟨cs,h3,h4,h5⟩:=h2 i x hx;exact⟨cs,h3,h4,hR cs x h5⟩
theorem VarAt.more {x:VarT} (h:VarAt w B cs x) (hB:B<=B'):VarAt w B' cs x:=by
 obtain⟨⟨ct,ci,h1,h2,h3,h4,h5⟩,h6,h7⟩:=h;exact⟨⟨ct,ci,h1,h2,h3,h4.more hB,h5.more hB⟩,h6,h7⟩
theorem MsgAt.more {x:MsgT} (h:MsgAt w B cs x) (hB:B<=B'):MsgAt w B' cs x:=by
 obtain⟨⟨ct,ci,h1,h2,h3,h4,h5⟩,h6,h7⟩:=h;exact⟨⟨ct,ci,h1,h2,h3,h4.more hB,h5.more hB⟩,h6,h7⟩
theorem NodeAt.more {x:NodeT} (h:NodeAt w B cs x) (hB:B<=B'):NodeAt w B' cs x:=by
 obtain⟨⟨vn,vc,ce,cb,h1,h2,h3,h4,h5,h6,h7,h8⟩,h9⟩:=h;exact⟨⟨vn,vc,ce,cb,h1,h2,h3,h4.more hB,(h5.more hB).weak (fun _ _ h=>h.more hB),h6,h7.more hB,h8.more hB⟩,h9⟩
theorem ModelAt.more {m:ModelT} (h:ModelAt w B cs m) (hB:B<=B'):ModelAt w B' cs m:=by
 obtain⟨⟨v1,v2,v3,v4,v5,h1,h2,h3,h4,h5,h6⟩,h7⟩:=h;exact⟨⟨v1,v2,v3,v4,v5,h1,h2.more hB,h3.more hB,(h4.more hB).weak (fun _ _ h=>h.more hB),(h5.more hB).weak (fun _ _ h=>h.more hB),(h6.more hB).weak (fun _ _ h=>h.more hB)⟩,h7⟩
end
end
section
open Go
structure Cmp {α:Type} (f:α->α->Int):Prop where
 anti:∀ a b,f b a= - f a b
 trans:∀ a b c,f a b<=0->f b c<=0->f a c<=0
def cmpI (a b:Int):Int:=if a < b then -1 else if b < a then 1 else 0
def cmpS (a b:ByteArray):Int:=Lib.compareBytes a.data.toList b.data.toList
def listC {α:Type} (f:α->α->Int):List α->List α->Int
 |[],[]=>0
 |[],_::_=> -1
 |_::_,[]=>1
 |a::l,b::r=>if f a b≠0 then f a b else listC f l r
theorem cmpI_good:Cmp cmpI:=⟨fun a b=>by unfold cmpI;split<;>split<;>omega,fun a b c h1 h2=>by
 unfold cmpI at*
 split at h1<;>split at h2<;>split<;>try split
 all_goals (first|omega|(split at h1<;>omega)|(split at h2<;>omega)|(split at h1<;>split at h2<;>omega))⟩
theorem zdX (a b:UInt8):a < b\/a= b\/b < a:=by
 rcases Nat.lt_trichotomy a.toNat b.toNat with h|h|h
 ·exact .inl (UInt8.lt_iff_toNat_lt.2 h)
 ·exact .inr (.inl (UInt8.toNat_inj.1 h))
 ·exact .inr (.inr (UInt8.lt_iff_toNat_lt.2 h))
theorem z2C:∀ a b:List UInt8,Lib.compareBytes b a= - Lib.compareBytes a b
 |[],[]=>rfl
 |[],_::_=>rfl
 |_::_,[]=>rfl
 |a::as1,b::bs=>by
  unfold Lib.compareBytes
  rcases zdX a b with h|h|h
  ·rw[if_neg (UInt8.lt_asymm h),if_pos h,if_pos h];rfl
  ·subst h
   simp only[UInt8.lt_irrefl,if_false]
   exact z2C as1 bs
  ·rw[if_pos h,if_neg (UInt8.lt_asymm h),if_pos h]
section
variable {α:Type} {f:α->α->Int}
theorem Cmp.refl (h:Cmp f) (a:α):f a a= 0:=by have:=h.anti a a;omega
theorem Cmp.lt_le (h:Cmp f) {a b c:α} (h1:f a b < 0) (h2:f b c<=0):f a c < 0:=by
 rcases Int.lt_or_le (f a c) 0 with h3|h3
 ·exact h3
 ·have h4:=h.anti a c
  have h5:=h.trans b c a h2 (by omega);have:=h.anti a b;omega
theorem Cmp.le_lt (h:Cmp f) {a b c:α} (h1:f a b<=0) (h2:f b c < 0):f a c < 0:=by
 rcases Int.lt_or_le (f a c) 0 with h3|h3
 ·exact h3
 ·have h4:=h.anti a c
  have h5:=h.trans c a b (by omega) h1;have:=h.anti b c;omega
theorem Cmp.then {g:α->α->Int} (h:Cmp f) (k:Cmp g):Cmp fun a b=>if f a b≠0 then f a b else g a b:=by
 refine⟨fun a b=> ?_,fun a b c h1 h2=> ?_⟩
 ·have:=h.anti a b
  have:=k.anti a b;split<;>split<;>omega
 ·by_cases e1:f a b= 0
  ·rw[if_neg (by omega)] at h1
   by_cases e2:f b c= 0
   ·rw[if_neg (by omega)] at h2
    have h3:=h.trans a b c (by omega) (by omega);by_cases e3:f a c= 0
    ·rw[if_neg (by omega)];exact k.trans a b c h1 h2
    ·rw[if_pos e3];exact h3
   ·rw[if_pos e2] at h2
    have:=h.le_lt (show f a b<=0 by omega) (show f b c < 0 by omega);rw[if_pos (by omega)];omega
  ·rw[if_pos e1] at h1
   have h4:f b c<=0:=by
    by_cases e2:f b c= 0
    ·omega
    ·rw[if_pos e2] at h2;exact h2
   have:=h.lt_le (show f a b < 0 by omega) h4;rw[if_pos (by omega)];omega
theorem Cmp.on {β:Type} (h:Cmp f) (g:β->α):Cmp fun a b=>f (g a) (g b):=⟨fun a b=>h.anti _ _,fun a b c=>h.trans _ _ _⟩
end
def fOrd (a b:Nat):Option Ordering:=FloatKind.f64.format.order a b
def nanB (a:Nat):Bool:=fOrd a a !=some .eq
def rankZ (a:Nat):Int:=if(fOrd a 0 ==some .eq)= true/\a≠0 then -1 else 0
def cmpF (a b:Nat):Int:=
 if nanB a≠nanB b then(if nanB a= true then 1 else -1) else if nanB a= true then 0
 else if(fOrd a b ==some .lt)= true\/(fOrd a b ==some .eq)= true/\rankZ a < rankZ b then -1
 else if(fOrd a b ==some .gt)= true\/(fOrd a b ==some .eq)= true/\rankZ b < rankZ a then 1 else 0
open Ieee in
def clsD:Datum->Int
 | .infinity s=>if s then -1 else 1
 |_=>0
open Ieee in
def valD:Datum->Int
 | .number s m i=>signed s m (i+1074).toNat
 |_=>0
open Ieee in
def nanD:Datum->Int
 | .nan .. =>1
 |_=>0
open Ieee in
def lowD:Datum->Prop
 | .number _ _ i=> -1074<=i
 |_=>True
open Ieee in
theorem z7I (s:Bool) (m a k:Nat):signed s m (a+k)= signed s m a* (2 ^ k:Nat):=by
 unfold signed;have h:((m <<<(a+k):Nat):Int)=((m <<< a:Nat):Int) * ((2 ^ k:Nat):Int):=by
  rw[Nat.shiftLeft_eq,Nat.shiftLeft_eq,Nat.pow_add,← Nat.mul_assoc,Int.natCast_mul]
 cases s
 ·simpa using h
 ·simp only[if_true]
  rw[h,Int.neg_mul]
theorem zc2 (x y:Int) (k:Nat):cmpI (x* (2 ^ k:Nat)) (y* (2 ^ k:Nat))= cmpI x y:=by
 have g:(0:Int) <((2 ^ k:Nat):Int):=by have:0 < 2 ^ k:=Nat.two_pow_pos k;omega
 unfold cmpI;simp only[show(x* ((2 ^ k:Nat):Int) < y* ((2 ^ k:Nat):Int))=(x < y) from propext (Int.mul_lt_mul_right g),show(y* ((2 ^ k:Nat):Int) < x* ((2 ^ k:Nat):Int))=(y < x) from propext (Int.mul_lt_mul_right g)]
theorem z8j (x y:Int):(compare x y= .lt↔cmpI x y= -1)/\(compare x y= .eq↔cmpI x y= 0)/\(compare x y= .gt↔cmpI x y= 1):=by
 unfold cmpI;rcases Int.lt_trichotomy x y with h|h|h
 ·rw[if_pos h,Int.compare_eq_lt.2 h];simp
 ·subst h
  rw[if_neg (Int.lt_irrefl x),if_neg (Int.lt_irrefl x),Int.compare_eq_eq.2 rfl];simp
 ·rw[if_neg (by omega),if_pos h,Int.compare_eq_gt.2 h];simp
open Ieee in
def cmpD (d e:Datum):Int:=if cmpI (clsD d) (clsD e)≠0 then cmpI (clsD d) (clsD e) else cmpI (valD d) (valD e)
open Ieee in
theorem z2p (d e:Datum) (hd:lowD d) (he:lowD e) (nd:nanD d= 0) (ne:nanD e= 0):
  (d.order e= some .lt↔cmpD d e= -1)/\(d.order e= some .eq↔cmpD d e= 0)/\(d.order e= some .gt↔cmpD d e= 1):=by
 cases d with
 |nan=>simp[nanD] at nd
 |infinity s=>
  cases e with
  |nan=>simp[nanD] at ne
  |infinity t=>cases s<;>cases t<;>decide
  |number t n j=>cases s<;>simp[Datum.order,cmpD,clsD,cmpI]
 |number s m i=>
  cases e with
  |nan=>simp[nanD] at ne
  |infinity t=>cases t<;>simp[Datum.order,cmpD,clsD,cmpI]
  |number t n j=>
   have h1: -1074<=i:=hd;have h2: -1074<=j:=he;have g:cmpD (.number s m i) (.number t n j)= cmpI (signed s m (i - min i j).toNat) (signed t n (j - min i j).toNat):=by
    have h0:cmpI (clsD (.number s m i)) (clsD (.number t n j))= 0:=by simp[clsD,cmpI]
    unfold cmpD;rw[if_neg (by omega)];show cmpI (signed s m (i+1074).toNat) (signed t n (j+1074).toNat)= _;rw[show(i+1074).toNat=(i - min i j).toNat+ (min i j+1074).toNat by omega,show(j+1074).toNat=(j - min i j).toNat+ (min i j+1074).toNat by omega,z7I,z7I,zc2]
   rw[g];have:=z8j (signed s m (i - min i j).toNat) (signed t n (j - min i j).toNat)
   simpa [Datum.order] using this
open Ieee in
theorem z1k (x:Nat):lowD (FloatKind.f64.format.read x):=by
 unfold Format.read;dsimp only;have hp:Format.leastPlace FloatKind.f64.format= -1074:=by decide
 split
 ·show -1074<=_
  rw[hp];decide
 ·split
  ·show -1074<=_
   rw[hp];omega
  ·split<;>trivial
def dat (a:Nat):Ieee.Datum:=FloatKind.f64.format.read a
theorem z3s (a b:Nat):fOrd a b=(dat a).order (dat b):=rfl
open Ieee in
theorem z2q (d e:Datum) (h:nanD d≠0\/nanD e≠0):d.order e= none:=by
 cases d<;>cases e<;>first|rfl|(simp[nanD] at h)
theorem z1c (a:Nat):nanB a= decide (nanD (dat a)≠0):=by
 unfold nanB;rw[z3s];by_cases h:nanD (dat a)= 0
 ·rw[(z2p (dat a) (dat a) (z1k a) (z1k a) h h).2.1.2 (by unfold cmpD;simp[cmpI])]
  simp[h]
 ·rw[z2q _ _ (.inl h)]
  simp[h]
theorem z34 {a b:Int} (h:a= b):cmpI a b= 0:=by subst h;unfold cmpI;simp
theorem z23 (a b:Int):cmpI a b= -1/\a < b\/cmpI a b= 0/\a= b\/cmpI a b= 1/\b < a:=by
 unfold cmpI;split
 ·exact .inl ⟨rfl,by omega⟩
 ·split
  ·exact .inr (.inr ⟨rfl,by omega⟩)
  ·exact .inr (.inl ⟨rfl,by omega⟩)
theorem z89 (d e:Ieee.Datum):cmpD d e= -1\/cmpD d e= 0\/cmpD d e= 1:=by
 unfold cmpD;have h1:=z23 (clsD d) (clsD e);have h2:=z23 (valD d) (valD e);split<;>omega
theorem z8N (d:Ieee.Datum):nanD d= 0\/nanD d= 1:=by cases d<;>simp[nanD]
theorem zan (d:Ieee.Datum) (h:nanD d≠0):clsD d= 0/\valD d= 0:=by cases d<;>simp_all [nanD,clsD,valD]
theorem z4F (a:Nat) (h:nanD (dat a)≠0):rankZ a= 0:=by
 unfold rankZ;rw[z3s,z2q _ _ (.inl h)];simp
def cmpF' (a b:Nat):Int:=if cmpI (nanD (dat a)) (nanD (dat b))≠0 then cmpI (nanD (dat a)) (nanD (dat b)) else if cmpD (dat a) (dat b)≠0 then cmpD (dat a) (dat b) else cmpI (rankZ a) (rankZ b)
theorem zfQ (a b:Nat):cmpF a b= cmpF' a b:=by
 unfold cmpF cmpF';rw[z1c,z1c];rcases z8N (dat a) with g|g<;>rcases z8N (dat b) with A|A
 ·rw[g,A]
  simp only[ne_eq,not_true_eq_false,decide_false,if_false,Bool.false_eq_true,z34];obtain⟨h1,h2,h3⟩:=z2p (dat a) (dat b) (z1k a) (z1k b) g A;have C:(fOrd a b ==some .lt)= true↔cmpD (dat a) (dat b)= -1:=by rw[beq_iff_eq];exact h1
  have G:(fOrd a b ==some .eq)= true↔cmpD (dat a) (dat b)= 0:=by rw[beq_iff_eq];exact h2
  have K:(fOrd a b ==some .gt)= true↔cmpD (dat a) (dat b)= 1:=by rw[beq_iff_eq];exact h3
  simp only[C,G,K];have h4:=z89 (dat a) (dat b);have h5:=z23 (rankZ a) (rankZ b);split<;>split<;>(try split)<;>omega
 ·rw[g,A];simp[cmpI]
 ·rw[g,A];simp[cmpI]
 ·rw[g,A]
  have:=zan (dat a) (by omega);have:=zan (dat b) (by omega);rw[z4F a (by omega),z4F b (by omega)];unfold cmpD
  simp_all [cmpI]
theorem cmpF_good:Cmp cmpF:=by
 have h:cmpF= cmpF':=funext fun a=>funext fun b=>zfQ a b;rw[h];exact(cmpI_good.on fun a=>nanD (dat a)).then (((cmpI_good.on fun a=>clsD (dat a)).then (cmpI_good.on fun a=>valD (dat a))).then (cmpI_good.on rankZ))
end
section
open Go Go.RowKit
open Classical in
noncomputable def only(w:World) (p:Nat->Prop):World:= { w with heap:=w.heap.mapIdx fun b o=>if p b then o else .deferred none }
theorem zx {w:World} {p:Nat->Prop} {a:Addr} {v:Value}:(only w p).cell? a= some v↔p a.block/\w.cell? a= some v:=by
 unfold only World.cell?;simp only[Array.getElem?_mapIdx];cases h:w.heap[a.block]? with
 |none=>simp
 |some o=>
  by_cases hp:p a.block
  ·simp[hp]
  ·simp[hp]
theorem z2L {w:World} {a:Addr} {v:Value} (h:w.cell? a= some v):a.block < w.heap.size:=by
 unfold World.cell? at h;rcases Nat.lt_or_ge a.block w.heap.size with h1|h1
 ·exact h1
 ·rw[Array.getElem?_eq_none h1] at h;cases h
section
variable {w w':World} {B:Nat}
theorem z0t {b o:Nat} {cs:List Value} (h:w.rangeAt b o cs) (hc:∀ a v,w.cell? a= some v->w'.cell? a= some v):w'.rangeAt b o cs:=fun j v hv=>hc _ _ (h j v hv)
theorem SlAt.cells {α:Type} {k:Nat} {R R':List Value->α->Prop} {v:Value} {l:List α} (h:SlAt w B k R v l) (hc:∀ a v,w.cell? a= some v->w'.cell? a= some v) (hR:∀ cs x,x∈l->R cs x->R' cs x):SlAt w' B k R' v l:=by
 obtain⟨h0,A,c,rfl,h1⟩:=h;refine⟨h0,A,c,rfl,fun hp=> ?_⟩;obtain⟨b,o,rfl,g,h2⟩:=h1 hp;refine⟨b,o,rfl,g,fun i x hx=> ?_⟩;obtain⟨cs,h3,h4,h5⟩:=h2 i x hx;exact⟨cs,h3,z0t h4 hc,hR cs x (List.mem_of_getElem? hx) h5⟩
theorem ValAt.cells {cs:List Value} {t:VT} (h:ValAt w B cs t) (hc:∀ a v,w.cell? a= some v->w'.cell? a= some v):ValAt w' B cs t:=by
 induction h with
 |mk b o css hk hn hf hs hns hl hA hcc hi ih=>
  exact .mk b o css hk hn hf hs (hns.cells hc fun _ _ _ h=>h) hl hA (fun i h=>⟨(hcc i h).1,z0t (hcc i h).2 hc⟩) ih
end
theorem z4V {p q:Nat->Prop} {w w':World} (hb:∀ b,p b->b < w.heap.size->q b/\w'.heap[b]?= w.heap[b]?):∀ a v,(only w p).cell? a= some v->(only w' q).cell? a= some v:=fun a v hv=>by
 obtain⟨h1,h2⟩:=zx.1 hv
 obtain⟨h3,h4⟩:=hb a.block h1 (z2L h2)
 exact zx.2 ⟨h3,(World.cell?_of_block h4).trans h2⟩
end
section
open Go Go.RowKit
structure But (w W:World) (p q:Nat):Prop where
 os:W.os= w.os
 tape:W.tape= w.tape
 output:W.output= w.output
 size:w.heap.size<=W.heap.size
 block:∀ b,b < w.heap.size->b≠p->b≠q->W.heap[b]?= w.heap[b]?
section
variable {w W Z:World} {p q:Nat}
theorem But.refl (w:World) (p q:Nat):But w w p q:=⟨rfl,rfl,rfl,Nat.le_refl _,fun _ _ _ _=>rfl⟩
theorem But.trans (h:But w W p q) (k:But W Z p q):But w Z p q:=
 ⟨k.os.trans h.os,k.tape.trans h.tape,k.output.trans h.output,Nat.le_trans h.size k.size,fun b hb h1 h2=>(k.block b (Nat.lt_of_lt_of_le hb h.size) h1 h2).trans (h.block b hb h1 h2)⟩
theorem But.set1 (w:World) (p q i:Nat) (v:Value):But w (w.setCell ⟨p,i,none⟩ v) p q:=
 ⟨rfl,rfl,rfl,by simp[World.setCell],fun b _ h1 _=>Below.heap_setCell w ⟨p,i,none⟩ v b h1⟩
theorem But.own (h:But w W p q) {row:Option Nat} (hg:W.grownBy Z row) (hr:∀ r,row= some r->w.heap.size<=r):But w Z p q:=
 ⟨hg.os.trans h.os,hg.tape.trans h.tape,hg.output.trans h.output,Nat.le_trans h.size hg.size,fun b hb h1 h2=>(hg.block b (Nat.lt_of_lt_of_le hb h.size) (fun e=>by have:=hr b e.symm;omega)).trans (h.block b hb h1 h2)⟩
theorem But.cell (h:But w W p q) {b o:Nat} (hb:b < w.heap.size) (h1:b≠p) (h2:b≠q):W.cell? ⟨b,o,none⟩= w.cell? ⟨b,o,none⟩:=World.cell?_of_block (a:=⟨b,o,none⟩) (h.block b hb h1 h2)
theorem But.below (h:But w W p q) {B:Nat} (hB:B<=w.heap.size) (hp:B<=p) (hq:B<=q):Below B w W:=⟨h.os,h.tape,h.output,h.size,fun b hb=>h.block b (by omega) (by omega) (by omega)⟩
end
end
section
open Go Go.RowKit
structure Tok where
 kind:Int
 at_:Int
 next:Int
 n:Int
 f:Nat
 s:ByteArray
def tokC (t:Tok):List Value:=[.int .i64 t.kind,.int .i64 t.at_,.int .i64 t.next,.int .i64 t.n,.float .f64 t.f,.string t.s]
structure PS (T:TypeId) (pb tb c:Nat) (E:Int) (toks:List Tok) (w:World) (i:Nat) (d:Int):Prop where
 blk:w.heap[pb]?= some (.cells #[.slice (some ⟨tb,0,none⟩) toks.length c,.int .i64 (i:Nat),.int .i64 E,.int .i64 0,.int .i64 0,.int .i64 d] T (0,0))
 ne:tb≠pb
 lt:tb < w.heap.size/\pb < w.heap.size
 tok:∀ (j:Nat) t,toks[j]?= some t->w.rangeAt tb (j*6) (tokC t)
 len:(toks.length:Int)<=100000
section
variable {T:TypeId} {pb tb c:Nat} {E:Int} {toks:List Tok} {w w':World} {i:Nat} {d:Int}
theorem PS.cell (h:PS T pb tb c E toks w i d) (k:Nat):w.cell? ⟨pb,k,none⟩=(#[Value.slice (some ⟨tb,0,none⟩) toks.length c,.int .i64 (i:Nat),.int .i64 E,.int .i64 0,.int .i64 0,.int .i64 d]:Array Value)[k]?:=
 cell_of_row w pb k _ T _ h.blk
theorem But.setAt (w:World) (p k:Nat) (v:Value):But w (w.setCell ⟨p,k,none⟩ v) p p:=But.set1 w p p k v
theorem PS.keep (h:PS T pb tb c E toks w i d) (hb:Below w.heap.size w w'):PS T pb tb c E toks w' i d:=
 ⟨(hb.block pb h.lt.2).trans h.blk,h.ne,⟨Nat.lt_of_lt_of_le h.lt.1 hb.size,Nat.lt_of_lt_of_le h.lt.2 hb.size⟩,fun j t ht=>zb (h.tok j t ht) hb h.lt.1,h.len⟩
theorem PS.setD (h:PS T pb tb c E toks w i d) (k:Int):PS T pb tb c E toks (w.setCell ⟨pb,5,none⟩ (.int .i64 k)) i k:=by
 have g:=But.setAt w pb 5 (.int .i64 k);refine⟨?_,h.ne,⟨Nat.lt_of_lt_of_le h.lt.1 g.size,Nat.lt_of_lt_of_le h.lt.2 g.size⟩,fun j t ht=> ?_,h.len⟩
 ·show(w.heap.modify pb _)[pb]?= _
  rw[Array.getElem?_modify,if_pos rfl,h.blk];rfl
 ·intro a v A
  exact(g.cell h.lt.1 h.ne h.ne).trans (h.tok j t ht a v A)
end
theorem ExpAt.cells {w w':World} {B:Nat} {cs:List Value} {t:ET} (h:ExpAt w B cs t) (hc:∀ a v,w.cell? a= some v->w'.cell? a= some v):ExpAt w' B cs t:=by
 induction h with
 |mk b o css hk hs hv hns hl hA hcc hi ih=>
  exact .mk b o css hk hs (hv.cells hc) (hns.cells hc fun _ _ _ h=>h) hl hA (fun i h=>⟨(hcc i h).1,z0t (hcc i h).2 hc⟩) ih
def KeptE (pb:Nat) (w:World) (cs:List Value) (t:ET):Prop:=ExpAt (only w (fun b=>b≠pb)) w.heap.size cs t
theorem KeptE.next {pb:Nat} {w w':World} {cs:List Value} {t:ET} (h:KeptE pb w cs t) (hb:But w w' pb pb):KeptE pb w' cs t:=
 (ExpAt.cells h (z4V fun b hp hlt=>⟨hp,hb.block b hlt hp hp⟩)).more hb.size
end
section
open Go Go.RowKit
def Apart (x y:Value):Prop:=∀ b,x.ownBlock= some b->y.ownBlock≠some b
theorem Apart.ne {x y:Value} (h:Apart x y):y.ownBlock= none\/y.ownBlock≠x.ownBlock:=by
 cases hy:y.ownBlock with
 |none=>exact .inl rfl
 |some b=>exact .inr fun e=>h b e.symm hy
theorem Apart.symm {x y:Value} (h:Apart x y):Apart y x:=fun b h1 h2=>h b h2 h1
theorem Apart.next {x x' y:Value} {n:Nat} (h:Apart x y) (hblk:x'.ownBlock= x.ownBlock\/x'.ownBlock= some n) (hy:∀ b,y.ownBlock= some b->b < n):Apart x' y:=fun b h1 h2=>by
 rcases hblk with e|e
 ·exact h b (e▸h1) h2
 ·rw[e] at h1
  injection h1 with h1
  have:=hy b h2
  omega
end
section
open Go Go.RowKit
structure GN where
 next:List Int
 catch_:Int
 wait:Int
structure GraphR (w:World) (B:Nat) (cs:List Value) (x:GN):Prop where
 next:∃ vn,cs[2]?= some vn/\SlAt w B 1 IntR vn x.next
 catch_:cs[26]?= some (.int .i64 x.catch_)
 wait:cs[27]?= some (.int .i64 x.wait)
 one:∀ v∈cs,v.oneCell'= true
 wf:wfI x.catch_/\wfI x.wait
theorem GraphR.under {w w':World} {B:Nat} {cs:List Value} {x:GN} (h:GraphR w B cs x) (hb:Below B w w'):GraphR w' B cs x:=
 ⟨let ⟨vn,h1,h2⟩:=h.next;⟨vn,h1,h2.below hb fun _ _ _ h=>h⟩,h.catch_,h.wait,h.one,h.wf⟩
theorem GraphR.more {w:World} {B B':Nat} {cs:List Value} {x:GN} (h:GraphR w B cs x) (hB:B<=B'):GraphR w B' cs x:=
 ⟨let ⟨vn,h1,h2⟩:=h.next;⟨vn,h1,h2.more hB⟩,h.catch_,h.wait,h.one,h.wf⟩
def GraphAt (w:World) (B:Nat) (v:Value) (g:List GN):Prop:=SlAt w B 29 (GraphR w B) v g
theorem GraphAt.under {w w':World} {B:Nat} {v:Value} {g:List GN} (h:GraphAt w B v g) (hb:Below B w w'):GraphAt w' B v g:=SlAt.below h hb fun _ _ _ h=>h.under hb
theorem GraphAt.more {w:World} {B B':Nat} {v:Value} {g:List GN} (h:GraphAt w B v g) (hB:B<=B'):GraphAt w B' v g:=(SlAt.more h hB).weak fun _ _ h=>h.more hB
theorem GraphAt.next {w w':World} {v:Value} {g:List GN} (h:GraphAt w w.heap.size v g) (hb:Below w.heap.size w w'):GraphAt w' w'.heap.size v g:=(h.under hb).more hb.size
theorem SlAt.map {α β:Type} {w:World} {B k:Nat} {R:List Value->α->Prop} {R':List Value->β->Prop} {v:Value} {l:List α} (f:α->β) (h:SlAt w B k R v l) (hR:∀ cs x,R cs x->R' cs (f x)):SlAt w B k R' v (l.map f):=by
 obtain⟨h0,A,c,rfl,h1⟩:=h;refine⟨by simpa using h0,A,c,by simp,fun hp=> ?_⟩;obtain⟨b,o,rfl,g,h2⟩:=h1 (by simpa using hp);refine⟨b,o,rfl,g,fun i y hy=> ?_⟩;rw[List.getElem?_map] at hy;cases hx:l[i]? with
 |none=>rw[hx] at hy;cases hy
 |some x=>
  rw[hx] at hy;simp at hy;subst hy;obtain⟨cs,h3,h4,h5⟩:=h2 i x hx;exact⟨cs,h3,h4,hR cs x h5⟩
end
end Go.Proofs.YtpmjcbjdcjjplaaGreatDoor
