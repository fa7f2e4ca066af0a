/- Parts of a proof: MReachW. -/
import Derived.Test.YtpmjcbjdcjjplaaGreatDoorPackE45
import Derived.Test.YtpmjcbjdcjjplaaGreatDoorPackE46
set_option maxHeartbeats 8000000
set_option maxRecDepth 100000
set_option linter.unusedVariables false
set_option linter.unusedSimpArgs false
namespace Go.Proofs.YtpmjcbjdcjjplaaGreatDoor
open Go Go.RowKit
section
open Go.Maps
variable {P:Program} {ops:Array Oper} {rest:List Oper} {o:Oper} {a:Act} {w:World} {Q:Exit->Act->World->Prop} {H:Type}
theorem z7P (m x:Operand) (t:TypeId) (ho:o.op= .lookup t m x false) (hw:Region.wanted o (yielded ops a.tmps)= true) (k e:TypeId) (K:Keyed P k) (ht:P.underlying t= some (.map k e)) (he:P.underlying e= some (.int .i64))
  (hz:(zeroValue e).run P w= .ok (.int .i64 0) w) (b n:Nat) (D:DataW H) (hm:a.eval m= .map (some b)) (hown:w.ownsMap P k (plainElem P e) b n D) (key:Value) (kl:Lit) (hx:a.eval x= key) (hkey:keyOf P k key= some kl)
  (c:Int) (hc:D.atKey kl (.lit (.int .i64 0))= .lit (.int .i64 c)) (h:wpList P ops Q rest (a.put o.dst (.int .i64 c)) w):wpList P ops Q (o::rest) a w:=
 wpList_step fun K' hK=>by
  rw[if_pos hw]
  obtain⟨c',hrun,hat,_⟩:=hown.lookup_int K ht he hz hkey
  have:c'= c:=by
   rw[hc] at hat
   simpa using hat.symm
  subst this;unfold Oper.wp;simp[execOp,ho,hm,hx,hrun,Result.andThen];exact hK _ _ h
theorem OwnSl.notMap {α:Type} {T k':TypeId} {k base mb n:Nat} {enc:α->List Value} {w:World} {v:Value} {l:List α} {R:Value->Option (DataW H × List MemPlace)} {D:DataW H} (h:OwnSl T k enc w base v l) (hm:w.ownsMap P k' R mb n D):some mb≠v.ownBlock:=by
 intro G;obtain⟨X,C,O,_⟩:=hm;rcases h.2 with ⟨rfl,_⟩|⟨g,K,N,rfl,_,A,_⟩
 ·cases G
 ·have:mb= g:=by simpa [Value.ownBlock] using G
  subst this;rw[O] at A;injection A with A;cases A
theorem OwnSl.pop {w:World} {base:Nat} {A:Option Addr} {n c:Nat} {T:TypeId} {l:List Int} {f:Int} (h:OwnSl T 1 encI w base (.slice A n c) (l ++ [f])):OwnSl T 1 encI w base (.slice A l.length c) l/\n= l.length+1/\∃ b,A= some ⟨b,0,none⟩/\w.cell? ⟨b,l.length,none⟩= some (.int .i64 f)/\l.length+1<=c/\c<=maxLen:=by
 have h0:=h;unfold OwnSl at h;rw[z2U,List.length_append] at h;rcases h.2 with ⟨h1,h2⟩|⟨g,C,G,K,h3,h4,h5,h6,h7⟩
 ·simp at h2
 ·injection K with e1 e2 e3
  subst e1 e2 e3;refine⟨ownsRow_pop (z3B z3z _) h,by simp,g,rfl,?_,by simpa using h5,h6⟩;have:=World.ownsRow.cells h (g:=g) (by rfl) l.length (.int .i64 f) (by
   rw[List.getElem?_append_right (by rw[z3B z3z];omega),z3B z3z];simp[encI])
  rw[Addr.add_mid,Nat.zero_add] at this;exact this
end
theorem law3:Go.Maps.Keyed Tryz.prog 3:=Go.Maps.int_keyed Tryz.underlying3
theorem zero3 (w:World):(zeroValue 3).run Tryz.prog w= .ok (.int .i64 0) w:=by kernel_rfl
theorem zg4 (w:World) (a:Int):OwnSl 3 1 encI ((w.alloc (.map #[] 0)).alloc (.cells #[.int .i64 a] 3)) w.heap.size (.slice (some ⟨w.heap.size+1,0,none⟩) 1 1) [a]:=by
 refine⟨rfl,.inr ⟨w.heap.size+1,1,#[.int .i64 a],rfl,by omega,?_,by simp,by decide,rfl,rfl⟩⟩;have h:=heap_alloc_new (w.alloc (.map #[] 0)) (.cells #[.int .i64 a] 3);rwa [show(w.alloc (.map #[] 0)).heap.size= w.heap.size+1 by simp] at h
theorem zgR {α:Type} {T:TypeId} {k base:Nat} {enc:α->List Value} {w:World} {v:Value} {l:List α} (h:OwnSl T k enc w base v l):∃ A c,v= .slice A l.length c:=by
 rcases h.2 with ⟨rfl,h0⟩|⟨g,cap,cur,rfl,_⟩
 ·exact⟨_,_,by rw[h0]⟩
 ·exact⟨_,_,rfl⟩
theorem z9E {α:Type} (l:List α):l=[]\/∃ t x,l= t ++ [x]:=by
 rcases List.eq_nil_or_concat l with h|⟨t,x,h⟩
 ·exact .inl h
 ·exact .inr ⟨t,x,by simpa using h⟩
theorem zeI {H:Type} (D:DataW H):(intKeys D).length= Go.Maps.size D:=by
 cases D<;>simp[intKeys,Go.Maps.size]
theorem World.ownsRow.mono_base {w:World} {base b:Nat} {e:TypeId} {k n:Nat} {v:Value} {xs:List Value} (h:w.ownsRow base e k v n xs) (hb:b<=base):w.ownsRow b e k v n xs:=by
 refine⟨h.1,?_⟩;rcases h.2 with h1|⟨g,cap,cur,h1,h2,h3⟩
 ·exact .inl h1
 ·exact .inr ⟨g,cap,cur,h1,by omega,h3⟩
theorem key3 {n:Nat} (h:n<=10000):keyOf Tryz.prog 3 (.int .i64 n)= some (.int .i64 n):=Go.Maps.keyOf_int_mk Tryz.underlying3 (by
 have:=wrap64_wf n
 rwa [Go.IntWalk.wrap64_in _ (by omega)] at this)
theorem zcO (g:List GN) (a:Int) (c0 c1 c2 c3 c4 v5:Value) (w:World) (hg:GraphAt w w.heap.size v5 g) (hlen:(zH g).length<=10000) (hgn:g.length<=10000):
  Calls Tryz.prog 16 #[.agg ⟨[c0,c1,c2,c3,c4,v5]⟩,.int .i64 a] w (z5d w (z0X g a)):=by
 have HG:=I hg;obtain⟨j6,A,c,rfl,hA⟩:=hg;have a7:=I hlen;have l4:=I hgn;clear hA hlen;have m0:= @run_makeMap Tryz.prog;go_enter Tryz.func16,Tryz.ntmps16;go_upto_region 1 with (fail);have HB:=I (zc w (.cells ⟨[c0,c1,c2,c3,c4,.slice A g.length c]⟩ 27));have f2:=I (zE w (.cells ⟨[c0,c1,c2,c3,c4,.slice A g.length c]⟩ 27));have e0:=I (z0l w [c0,c1,c2,c3,c4,.slice A g.length c] 27 5 _ rfl);have HR:=I (zG w [c0,c1,c2,c3,c4,.slice A g.length c] 27);generalize w.alloc (.cells ⟨[c0,c1,c2,c3,c4,.slice A g.length c]⟩ 27)= W at*;have HE:=I (z48 g c0 c1 c2 c3 c4 (.slice A g.length c) W (HG.o.next HB.o) a7.o);go_wp2_with (first|((with_reducible refine z8 tyK27 _ rfl ?_ HR.o rfl ?_ ?_);exact wA rfl;rfl)|(go_at_call 14;fail));refine HE.o.mono ?_;rintro e w2 ⟨v,rfl,C,hb⟩;have g0:=I (beT HB.o hb);have l5:=I hb.size;have e1:=I ((hb.cell (p:=⟨w.heap.size,5,none⟩) f2.o).trans e0.o);have b8:Hid (w.heap.size < w2.heap.size):=I (Nat.lt_of_lt_of_le f2.o hb.size);obtain⟨j5,EA,ec,rfl,f4⟩:=C.at z2D (by have:=a7.o;omega);have g5:=I f4;have g6:Hid (∀ e,e∈zH g->e.1 < g.length):=I fun e he=>z5J he;have e3:Hid (z17 g= inE g.length (zH g)):=I rfl;clear hb C j5 f4 HE HR e0;have e4:Hid (((w2.alloc (.map #[] 0)).alloc (.cells #[.int .i64 a] 3)).ownsMap Tryz.prog 3 (Go.plainElem Tryz.prog 3) w2.heap.size 0 (metD [])):=I ((World.ownsMap_made w2 _ _ _).alloc _);have e6:Hid (OwnSl 3 1 encI ((w2.alloc (.map #[] 0)).alloc (.cells #[.int .i64 a] 3)) w2.heap.size (.slice (some ⟨w2.heap.size+1,0,none⟩) 1 1) [a]):=I (zg4 w2 a);have d8:Hid (Below w2.heap.size w2 ((w2.alloc (.map #[] 0)).alloc (.cells #[.int .i64 a] 3))):=I (((Below.refl _ _).alloc (Nat.le_refl _) _).alloc (by simp) _);have i2:=I (fun(met:List Nat) (h:Dfs (z17 g) a g.length met [])=>h.all);have e9:=I (z6b g a);have i3:=I (z6a g a);generalize z0X g a= RL at*;have l3:=I (fun e he=>(z2W (g:=g) e he).2);clear HG;generalize z17 g= GE at*;generalize zH g= E at*;clear j6;generalize g.length= n at*;have l8:(n:Int)<=10000:=by omega
 have k8:(E.length:Int)<=10000:=by have:=a7.o;omega
 go_wp2;go_loopg [7] (n+1) (fun q v u=>∃ met todo,Dfs GE a n met todo/\todo.length+ (n - met.length)<=q/\OwnSl 3 1 encI u w2.heap.size v todo/\u.ownsMap Tryz.prog 3 (Go.plainElem Tryz.prog 3) w2.heap.size met.length (metD met)/\Below w2.heap.size w2 u);case atStart=>exact⟨[],[a],Dfs.start _ _ _,by simp;omega,e6.o,e4.o,d8.o⟩
 case round=>
  obtain⟨met,todo,hd,hq,C,X,hb⟩:=hrel;clear e4 e6 d8;have HD:=I hd;have G:=I X;have N:=I hb;have j7:=hd.len;have f6:=hd.tl;clear hd X hb;rcases z9E todo with rfl|⟨td,f,rfl⟩
  ·obtain⟨A2,c2,rfl⟩:=zgR C
   clear C;have e7:Hid (RL.Perm (intKeys (metD met))):=I (CollectedI.perm (left:=fun _=>false) ⟨e9.o.imp fun h=>by omega,fun x=>by rw[i2.o met HD.o x,z8H];simp⟩ G.o law3 Tryz.underlying3 (fun _=>rfl));have f0:Hid (Go.Maps.size (metD met)<=10000):=I (by rw[← zeI,← e7.o.length_eq];exact Nat.le_trans i3.o hgn);have i4:Hid (Go.Maps.size (metD met)<=maxLen):=I (z3K f0.o);have i5:Hid (Go.Maps.size (metD met) *8<=140737488355328):=I (by have:=f0.o;omega);go_wp2_with (go_at_call 50;fail);refine(Tryz.maps_Keys (some w2.heap.size) wr).mono ?_;rintro e w3 ⟨rfl,rfl⟩;go_wp2_with (go_at_call 49;fail);refine(Tryz.slices_Sorted w2.heap.size met.length (metD met) _ wr G.o i4.o i5.o).mono ?_;rintro e w4 ⟨v,ss,rfl,hp,C,_,hb⟩;have HW:=I (z6W (hp.trans e7.o.symm) e9.o);have i6:Hid (ss.length= RL.length):=I (by rw[← HW.o,List.length_mergeSort]);have h9:Hid (OwnSl 3 1 encI w4 w2.heap.size v RL):=I (by
    have h1:=World.ownsRow.mono_base C (b:=w2.heap.size) (Nat.le_trans N.o.size (Nat.le_of_lt (zE _ _)));rw[HW.o,i6.o] at h1;unfold OwnSl;rw[z7k];exact h1)
   have g1:Hid (Below w.heap.size w w4):=I (g0.o.trans ((N.o.trans ((zc wr _).trans (hb.mono (Nat.le_of_lt (zE wr _)))|>.mono N.o.size)).mono (by have:=b8.o;omega)));clear hp C hb;go_wp2;go_ret;exact⟨_,rfl,h9.o.mono (by have:=b8.o;omega),g1.o⟩
  ·cases gk with
   |zero=>simp at hq
   |succ q=>
    obtain⟨A2,n2,cq,rfl⟩:=zcJ C;obtain⟨b5,rfl,tb,rfl,c9,j4,j8⟩:=C.pop;have HO:=I b5;have HP:=I HD.o.pop;rw[List.length_append,List.length_singleton] at hq f6;have j9:((td.length+1:Nat):Int)<=10002:=by omega
    clear HD C b5;go_upto_region 7 with (fail);clear c9 j4 j8 j9;go_wp2;go_loopg [7,32] E.length (fun q2 v i u=>∃ j met todo,j+q2= E.length/\i= .int .i64 j/\Dfs1 GE a n f (inE n (E.take j)) met todo/\todo.length+ (n - met.length)<=q/\OwnSl 3 1 encI u w2.heap.size v todo/\u.ownsMap Tryz.prog 3 (Go.plainElem Tryz.prog 3) w2.heap.size met.length (metD met)/\Below w2.heap.size w2 u);case atStart=>exact⟨0,met,td,by omega,rfl,HP.o,by omega,HO.o,G.o,N.o⟩
    case round=>
     clear HO HP G N j7 f6 hq;obtain⟨j,met,td,hj,rfl,hd,hq,C,X,hb⟩:=hrel;have HP:=I hd;have HO:=I C;have G:=I X;have N:=I hb;have HQ:=I hq;clear hd C X hb hq;cases gk with
     |zero=>
      have l7: ¬ ((j:Int) <(E.length:Int)):=by omega
      have i7:=I (List.take_of_length_le (l:=E) (i:=j) (by omega));rw[i7.o,← e3.o] at HP;go_wp2;go_roundg q;case measure=>omega
      case rel=>exact⟨met,td,HP.o.done,HQ.o,HO.o,G.o,N.o⟩
     |succ q2=>
      have l9:(j:Int) <(E.length:Int):=by omega
      obtain⟨e,he⟩:∃ e,E[j]?= some e:=⟨_,List.getElem?_eq_getElem (by omega)⟩;obtain⟨b,o,rfl,j3,hc⟩:=g5.o (by omega);have e8:Hid (wr.rangeAt b (o+j*3) [.int .i64 e.1,.int .i64 e.2.1,.int .i64 e.2.2]):=I (by
       obtain⟨ks,h1,h2,h3⟩:=hc j e he;have j2:ks= encE e:=h3;subst j2;exact za h2 N.o j3)
      have l2:=I (g6.o e (List.mem_of_getElem? he));have e2:=I (List.mem_of_getElem? he);have b1:Hid (inE n (E.take (j+1))= if okE n e= true then inE n (E.take j) ++ [(e.1,e.2.2.toNat)] else inE n (E.take j)):=I (by rw[z6X he,zeE]);clear hc he;go_upto_region 10 with (first|((with_reducible refine z8 tyK62 _ rfl ?_ e8.o rfl ?_ ?_);exact wA rfl;rfl)|((with_reducible refine z1i 62 _ _ rfl ?hw wr ?z (encE e) ?hwld ?hz ?hx ?hy ?hi ?h1 ?_);(case hwld=>rfl);(case hx=>rfl);(case hy=>rfl);(case hw=>exact wA rfl);(case hz=>rfl);(case hi=>kernel_rfl);(case h1=>exact z3y e);intro Z f3;have HX:=I f3;clear f3));have Y:=I (HO.o.below HX.o.below);have K:=I (G.o.kept (z6A HX.o.below none) (by simp));have O:=I (beT N.o HX.o.below);obtain⟨eb,a4⟩:∃ eb,wr.heap.size= eb:=⟨_,rfl⟩;have h6:Hid (w2.heap.size < eb):=I (a4▸G.o.lt);have d0:Z.cell? ⟨eb,0,none⟩= some (.int .i64 e.1):=a4▸HX.o.cell 0 rfl;have d2:Z.cell? ⟨eb,2,none⟩= some (.int .i64 e.2.2):=a4▸HX.o.cell 2 rfl;have i8:Hid (eb < Z.heap.size):=I (a4▸HX.o.size);have d5:=(O.o.cell (p:=⟨w.heap.size,5,none⟩) b8.o).trans e1.o;clear HX e8 HO G N;rw[a4];clear a4;by_cases hf:(e.1:Int)= f
      ·by_cases hok:okE n e= true
       ·have b9:=I hok
        rw[z6O] at hok;obtain⟨t,ht⟩:∃ t:Nat,e.2.2= t:=⟨e.2.2.toNat,by omega⟩;have k0:t < n:=by omega
        have m1:(t:Int) <(n:Int):=by omega
        have c6:Hid (e.2.2.toNat= t):=I (by omega);have f1:Hid (inE n (E.take (j+1))= inE n (E.take j) ++ [(e.1,t)]):=I (by rw[b1.o,if_pos b9.o,c6.o]);have g8:Hid ((e.1,t)∈GE):=I (by rw[e3.o,← c6.o];exact List.mem_map.2 ⟨e,List.mem_filter.2 ⟨e2.o,b9.o⟩,rfl⟩);have a6:=I (key3 (n:=t) (by omega));rw[ht] at d2;clear hok ht c6 b1 e2 b9;subst hf;by_cases hm:t∈met
        ·have b6:=I (zfS hm)
         have a0:Hid (Dfs1 GE a n e.1 (inE n (E.take (j+1))) met td):=I (by rw[f1.o];exact HP.o.skip _ (.inr hm));clear hm;go_wp2_with (first|((with_reducible refine z7P _ _ 105 rfl ?_ 3 3 law3 Tryz.underlying105 Tryz.underlying3 (zero3 _) w2.heap.size met.length (metD met) rfl K.o (.int .i64 t) (.int .i64 t) rfl a6.o 1 b6.o ?_);exact wA rfl));go_roundg q2;case measure=>omega
         case rel=>exact⟨j+1,met,td,by omega,by go_num,a0.o,HQ.o,Y.o,K.o,O.o⟩
        ·have b6:=I (zeR hm)
         have a0:Hid (Dfs1 GE a n e.1 (inE n (E.take (j+1))) (met ++ [t]) (td ++ [(t:Int)])):=I (by rw[f1.o];exact HP.o.push _ g8.o k0 rfl hm);have a8:=I a0.o.len;have b2:=I a0.o.tl;rw[List.length_append,List.length_singleton] at a8 b2;rw[List.length_append,List.length_singleton] at b2;have h7:Hid (met.length < maxLen):=I (by have:=a8.o;unfold maxLen;omega);clear hm;go_upto_region 12 with (first|((with_reducible refine z7P _ _ 105 rfl ?_ 3 3 law3 Tryz.underlying105 Tryz.underlying3 (zero3 _) w2.heap.size met.length (metD met) rfl K.o (.int .i64 t) (.int .i64 t) rfl a6.o 0 b6.o ?_);exact wA rfl)|(at_mapUpdate;refine wpList_mapUpdate_own _ rfl _ _ _ 105 rfl 3 3 law3 Tryz.underlying105 _ w2.heap.size met.length _ rfl K.o h7.o _ _ _ rfl rfl a6.o _ [] (plainElem_int Tryz.underlying3 (by decide)) ?_;intro w1 a9 a3;have e5:=I a9;have b0:=I a3;clear a9 a3));have d6:=(World.cell?_of_block (a:=⟨eb,2,none⟩) (b0.o.block eb i8.o (by intro h;injection h with h;have:=h6.o;omega))).trans d2;have h8:=I (World.ownsRow.kept Y.o b0.o (.inr fun h=>OwnSl.notMap Y.o K.o h.symm));have d9:=I (O.o.grown b0.o O.o.size (fun j hj=>by cases hj;exact Nat.le_refl _));have h4:Hid (w1.ownsMap Tryz.prog 3 (Go.plainElem Tryz.prog 3) w2.heap.size (met ++ [t]).length (metD (met ++ [t]))):=I (by rw[zcr,List.length_append];exact e5.o);clear d0 d2 d5 Y K O b0 e5;obtain⟨i0,hi,f7,f8,f9⟩:=z4Y zcf;have g7:=I hi;have i9:=I f7;have j0:=I f8;have j1:=I f9;clear hi f7 f8 f9;have c7:Hid (OwnSl 3 1 encI (w1.alloc (.cells ⟨encI (t:Int)⟩ 3)) w2.heap.size _ td):=I (OwnSl.below h8.o (zc w1 (.cells ⟨encI (t:Int)⟩ 3)));have K:=I (h4.o.alloc (.cells ⟨encI (t:Int)⟩ 3));have g3:=I (z0l w1 (encI (t:Int)) 3);have g9:Hid (td.length+1<=maxLen):=I (z3K (by have:=b2.o;have:=a8.o;omega));have h0:Hid ((td.length+1) *8<=140737488355328):=I (by have:=b2.o;have:=a8.o;omega);have b7:=I (d9.o.alloc d9.o.size (.cells ⟨encI (t:Int)⟩ 3));go_wp2_with (at_builtin;refine z72 rfl _ _ 44 rfl _ 3 i0 (.int .i64 0) 1 8 encI Tryz.underlying44 g7.o i9.o j0.o j1.o rfl (by decide) z3z zeg _ _ rfl c7.o w1.heap.size 1 (t:Int) rfl g3.o g9.o h0.o b7.o.size ?_);intro v' w' C hg;have i1:=I C;have g2:=I (zb1 b7.o b7.o.size c7.o (Nat.le_refl _) hg);have h5:=I (K.o.kept hg (OwnSl.notMap c7.o K.o));clear C hg;go_wp2;go_roundg q2;case measure=>omega
         case rel=>exact⟨j+1,met ++ [t],td ++ [(t:Int)],by omega,by go_num,a0.o,by have:=a8.o;have:=HQ.o;simp;omega,i1.o,h5.o,g2.o⟩
       ·have c5:Hid (inE n (E.take (j+1))= inE n (E.take j)):=I (by rw[b1.o,if_neg hok])
        rw[← c5.o] at HP;have f5:e.2.2 < 0\/(n:Int)<=e.2.2:=by rw[z6O] at hok;omega
        subst hf;clear hok;by_cases hneg:e.2.2 < 0
        ·have t3:decide ((0:Int)<=e.2.2)= false:=by simp;omega
         clear f5 hneg;go_wp2;go_roundg q2;case measure=>omega
         case rel=>exact⟨j+1,met,td,by omega,by go_num,HP.o,HQ.o,Y.o,K.o,O.o⟩
        ·have t3:decide ((0:Int)<=e.2.2)= true:=by simp;omega
         have t4:decide (e.2.2 <(n:Int))= false:=by simp;omega
         clear f5 hneg;go_wp2;go_roundg q2;case measure=>omega
         case rel=>exact⟨j+1,met,td,by omega,by go_num,HP.o,HQ.o,Y.o,K.o,O.o⟩
      ·have t1:((e.1:Int) ==f)= false:=by simpa using hf
       have a0:Hid (Dfs1 GE a n f (inE n (E.take (j+1))) met td):=I (by
        rw[b1.o];split
        ·exact HP.o.skip _ (.inl hf)
        ·exact HP.o)
       clear hf;go_wp2;go_roundg q2;case measure=>omega
       case rel=>exact⟨j+1,met,td,by omega,by go_num,a0.o,HQ.o,Y.o,K.o,O.o⟩
end Go.Proofs.YtpmjcbjdcjjplaaGreatDoor
