/- Parts of a proof: E10E, EvC, ConstE. -/
import Derived.Defers
import Derived.Recover
import Derived.Test.YtdjfpcmlffekkaaGreatDoorPackL28
import Derived.Test.YtdjfpcmlffekkaaGreatDoorPackL36
set_option maxHeartbeats 8000000
set_option maxRecDepth 100000
set_option linter.unusedVariables false
set_option linter.unusedSimpArgs false
namespace Go.Proofs.YtdjfpcmlffekkaaGreatDoor
section
open Go Go.RowKit
theorem Whole.thaw' {T:TypeId} {w:World} {b:Nat} {cs:List Value} (h:Whole T w b cs) (i:Nat):w.frozen? ⟨b,i,none⟩= false:=by
 unfold World.frozen?
 have h2:w.heap[b]?= some (.cells cs.toArray T):=h
 simp[h2]
theorem z3R (q r:Nat) (n m:Int) (T:TypeId) (older:List PanicEntry) (w:World) (hq:Whole 52 w q zV6) (hr:Whole T w r [.int .i64 m]) (hqr:q≠r):
  CallsD Tryz.prog 114 #[.pointer (some ⟨q,0,none⟩),.pointer (some ⟨r,0,none⟩)] (.panicking ({ v:= .iface 33 (.int .i64 n),recovered:=false }::older)) w fun e u' w'=>
   e= .returned (.tuple #[])/\u'= .panicking ({ v:= .iface 33 (.int .i64 n),recovered:=true }::older)/\Whole 52 w' q zV6/\w'.cell? ⟨r,0,none⟩= some (.int .i64 n)/\But w w' q r:=by
 have HQ:=I hq
 have HR:=I hr
 have hrf:w.frozen? ⟨r,0,none⟩= false:=by have:=Whole.thaw' hr 0;exact this
 have hta:∀ (S:TypeId) (W:World),(Instr.typeAssert (.iface 33 (.int .i64 n)) S 33 true).run Tryz.prog W= .ok (.tuple #[.int .i64 n,.bool true]) W:=fun S W=>by kernel_rfl
 refine callsD_of_wpS Tryz.func114 rfl fun c₀ cs hu=> ?_
 apply wpS_seq
 apply wpS_region
 simp[wpOpsS,go_sem,recoverD,hu,hta,Tryz.ntmps114,Exit.thenS,Array.replicate]
 refine wpS_of_wp ?_
 clear hta hrf hq hr hu
 go_wp2_with ((with_reducible refine zf 52 _ _ rfl rfl ?_ q zV6 zV6 HQ.o ?_ ?_ ?_ ?_ ?_ ?_);(exact wA rfl);rfl;rfl;rfl;kernel_rfl;exact z00 _ _ _ _;intro Z hz hb;have HX:=I hz;have HXB:=I hb;have hr2:Whole T Z r [.int .i64 m]:=HR.o.keep (hb.block r HR.o.lt (Ne.symm hqr) (Ne.symm hqr));have c0:Z.cell? ⟨r,0,none⟩= some (.int .i64 m):=hr2.cells 0 rfl;have f0:Z.frozen? ⟨r,0,none⟩= false:=hr2.thaw' 0;clear hz hb hr2)
 refine⟨rfl,_,rfl,_,results_none rfl _ _ _,rfl,rfl,?_,World.cell?_setCell_same _ _ _ (by rw[c0]),?_⟩
 ·exact HX.o.keep (Below.heap_setCell Z ⟨r,0,none⟩ _ q hqr)
 ·exact⟨HXB.o.os,HXB.o.tape,HXB.o.output,by have:=HXB.o.size;simpa [World.setCell] using this,fun b hb h1 h2=>(Below.heap_setCell Z ⟨r,0,none⟩ _ b h2).trans (HXB.o.block b hb h1 h1)⟩
theorem zad (q r:Nat) (w:World):
  CallsD Tryz.prog 114 #[.pointer (some ⟨q,0,none⟩),.pointer (some ⟨r,0,none⟩)] .returning w fun e u' w'=>e= .returned (.tuple #[])/\u'= .returning/\w'= w:=by
 have hta:∀ (S:TypeId) (W:World),(Instr.typeAssert .nilIface S 33 true).run Tryz.prog W= .ok (.tuple #[.int .i64 0,.bool false]) W:=fun S W=>by kernel_rfl
 refine callsD_of_wpS Tryz.func114 rfl fun c₀ cs hu=> ?_
 apply wpS_seq
 apply wpS_region
 simp[wpOpsS,go_sem,recoverD,hu,hta,Tryz.ntmps114,Exit.thenS,Array.replicate]
 refine wpS_of_wp ?_
 clear hta
 go_wp2
 refine⟨rfl,_,?_,_,results_none rfl _ _ _,rfl,rfl,rfl⟩
 cases c₀
 simp only at hu
 subst hu
 rfl
theorem z2c {fn:Func} {p q:Tmp} (h:fn.results= #[.cell p 52,.cell q 33]) (tmps:Array Value) (w:World) (g g2:Nat) (cs:List Value) (n:Int) (hl:cs.length= 6)
  (hp:tmps.getD p undef= .pointer (some ⟨g,0,none⟩)) (hq:tmps.getD q undef= .pointer (some ⟨g2,0,none⟩)) (hg:Whole 52 w g cs) (hc:w.cell? ⟨g2,0,none⟩= some (.int .i64 n)):(results fn tmps).run Tryz.prog w= .ok (.tuple #[.agg ⟨cs⟩,.int .i64 n]) w:=by
 have hp':tmps[p]?.getD undef= .pointer (some ⟨g,0,none⟩):=by simpa using hp
 have hq':tmps[q]?.getD undef= .pointer (some ⟨g2,0,none⟩):=by simpa using hq
 have hl1:=run_loadVar_mid (P:=Tryz.prog) w g 0 52 cs _ hg.range Tryz.underlying52 rfl (by rw[hl];kernel_rfl)
 have hl2:(loadVar 33 ⟨g2,0,none⟩).run Tryz.prog w= .ok (.int .i64 n) w:=by simp[go_sem,loadVar,hc,Tryz.isAgg33]
 simp[results,h,hp',hq',asAddr,hl1,hl2]
def EvTop (r:Res) (w:World) (e:Ending) (w':World):Prop:=
 (∃ v cs,r= .ok v/\e= .returned (.tuple #[.agg ⟨cs⟩,.int .i64 0])/\Kept (fun b=>w.heap.size<=b) w' cs v/\zv v= true/\Below w.heap.size w w')\/(∃ n,r= .error n/\e= .returned (.tuple #[.agg ⟨zV6⟩,.int .i64 n])/\Below w.heap.size w w')
structure ES (w W:World) (cs:List Value):Prop where
 wx:Whole 54 W w.heap.size cs
 wv:Whole 52 W (w.heap.size+1) zV6
 we:Whole 33 W (w.heap.size+2) [.int .i64 0]
 bel:Below w.heap.size w W
theorem zdB (w:World) (cs:List Value):ES w (((w.alloc (.cells ⟨cs⟩ 54)).alloc (.cells zV6.toArray 52)).alloc (.cells #[.int .i64 0] 33)) cs:=by
 have h1:=Whole.new w cs 54
 have h2:=zd w (.cells ⟨cs⟩ 54)
 have hs:(w.alloc (.cells ⟨cs⟩ 54)).heap.size= w.heap.size+1:=by simp
 generalize w.alloc (.cells ⟨cs⟩ 54)= W1 at*
 have h3:=Whole.new W1 zV6 52
 have h4:=zd W1 (.cells zV6.toArray 52)
 have hs2:(W1.alloc (.cells zV6.toArray 52)).heap.size= w.heap.size+2:=by simp[hs]
 rw[hs] at h3
 generalize W1.alloc (.cells zV6.toArray 52)= W2 at*
 have h5:=Whole.new W2 [.int .i64 0] 33
 have h6:=zd W2 (.cells #[.int .i64 0] 33)
 rw[hs2] at h5
 exact⟨(h1.keep (h4.block _ (by omega))).keep (h6.block _ (by omega)),h3.keep (h6.block _ (by omega)),h5,(h2.trans (h4.mono (by omega))).trans (h6.mono (by omega))⟩
theorem ES.next {w W W':World} {cs:List Value} (h:ES w W cs) (hb:Below W.heap.size W W'):ES w W' cs:=
 ⟨h.wx.keep (hb.block _ h.wx.lt),h.wv.keep (hb.block _ h.wv.lt),h.we.keep (hb.block _ h.we.lt),h.bel.trans (hb.mono h.bel.size)⟩
theorem zdY (t:ET) (E:List VarT) (V:List VT) (cs:List Value) (va vb:Value) (w:World) (hx:ExpAt w w.heap.size cs t) (hE:SlAt w w.heap.size 11 (VarAt w w.heap.size) va E) (hV:SlAt w w.heap.size 6 (ValAt w w.heap.size) vb V) (hEl:E.length<=10000) (hVl:V.length<=10000) (htb:TabP w):
  Calls Tryz.prog 89 #[.agg ⟨cs⟩,va,vb] w (EvTop (evalT t E V) w):=by
 have HCL:=I (show cs.length= 10 from KeptP.len (p:=fun _=>True) (ExpAt.cells hx fun a v hv=>zp.2 ⟨trivial,hv⟩))
 have HX:=I hx
 have HE:=I hE
 have HV:=I hV
 have HEL:=I hEl
 have HVL:=I hVl
 have HTB:=I htb
 obtain⟨hvl,VB,vc,rfl,hvA⟩:=hV
 obtain⟨hel,EB0,ec,rfl,heA⟩:=hE
 have HVA:=I hvA
 have hmf:∀ (fn:Fn) (first cap:Array Value) (w:World),(Instr.makeFunc fn first cap).run Tryz.prog w= .ok (.func fn first cap) w:=fun _ _ _ _=>rfl
 clear hx hEl hVl htb hvA heA hvl hel
 go_enter_defers Tryz.func89,Tryz.ntmps89
 go_upto_region 1 with (fail)
 have HST:=I (zdB w cs)
 rw[z0q]
 generalize ((w.alloc (.cells ⟨cs⟩ 54)).alloc (.cells zV6.toArray 52)).alloc (.cells #[.int .i64 0] 33)= W at*
 go_upto_region 3 with (fail)
 go_loopg [13] V.length (fun q y u=>∃ j:Nat,j+q= V.length/\y= .int .i64 j/\Below W.heap.size W u/\∀ i x,i < j->V[i]?= some x->zv x= true)
 case atStart=>exact⟨0,by omega,rfl,Below.refl _ _,fun i x hi=>absurd hi (Nat.not_lt_zero i)⟩
 case round=>
  obtain⟨j,hj,rfl,hb,hri⟩:=hrel
  have HBU:=I hb
  have HRI:=I hri
  have HES:=I (HST.o.next hb)
  clear hb hri
  cases gk with
  |zero=>
   obtain rfl:j= V.length:=by omega
   have hge: ¬ ((V.length:Int) <(V.length:Int)):=by omega
   have HALL:Hid (V.all zv= true):=I (by
    rw[List.all_eq_true]
    intro x hx
    obtain⟨i,hi⟩:=List.mem_iff_getElem?.1 hx
    exact HRI.o i x (List.getElem?_eq_some_iff.1 hi).1 hi)
   have HXW:=I ((HX.o.under HES.o.bel).more HES.o.bel.size)
   have HPR:=I (z6a t cs wr HXW.o)
   have HRG:=I HES.o.wx.range
   obtain⟨bq,hbq⟩:∃ bq,z0i t= bq:=⟨_,rfl⟩
   have HBQ:=I hbq
   rw[hbq] at HPR
   clear hbq hmf
   cases bq with
   |false=>
    have HRES:Hid (evalT t E V= .error 2):=I (by
     unfold evalT
     rw[if_neg]
     intro h
     rw[Bool.and_eq_true,HBQ.o] at h
     cases h.2)
    go_wp2_with (first|((with_reducible refine za 54 _ rfl ?_ w.heap.size 0 cs _ rfl HRG.o Tryz.underlying54 rfl ?_ ?_);exact wA rfl;rw[HCL.o];kernel_rfl)|(go_at_call 84;refine HPR.o.mono ?_;rintro e z ⟨rfl,hb⟩;have HBY:=I hb;clear hb)|(go_at_call 115;refine(zA 2 _).mono ?_;rintro e z ⟨rfl,hzw⟩;rw[hzw];clear hzw z))
    have HESZ:=I (HES.o.next HBY.o)
    refine leaves_cons (f:=114) (args:= #[.pointer (some ⟨w.heap.size+1,0,none⟩),.pointer (some ⟨w.heap.size+1+1,0,none⟩)]) (by simp) (by simp[go_sem]) ?_
    refine(z3R (w.heap.size+1) (w.heap.size+1+1) 2 0 33 [] _ HESZ.o.wv HESZ.o.we (by omega)).mono ?_
    rintro e u' w'' ⟨rfl,rfl,hq,hr,hb⟩
    exact⟨_,z2c rfl _ _ (w.heap.size+1) (w.heap.size+1+1) zV6 2 rfl rfl rfl hq hr,.inr ⟨2,HRES.o,rfl,HESZ.o.bel.trans (hb.below (B:=w.heap.size) HESZ.o.bel.size (by omega) (by omega))⟩⟩
   |true=>
    have HEVT:Hid (evalT t E V= evalE E V t):=I (by unfold evalT;rw[if_pos (by rw[HALL.o,HBQ.o];rfl)])
    go_upto_region 8 with (first|((with_reducible refine za 54 _ rfl ?_ w.heap.size 0 cs _ rfl HRG.o Tryz.underlying54 rfl ?_ ?_);exact wA rfl;rw[HCL.o];kernel_rfl)|(go_at_call 84;refine HPR.o.mono ?_;rintro e z ⟨rfl,hb⟩;have HBY:=I hb;clear hb)|(go_at_call 115;refine(zm 2 _).mono ?_;rintro e z ⟨rfl,hzw⟩;rw[hzw];clear hzw z))
    have HES2:=I (HES.o.next HBY.o)
    have HBM:=I (zd z (.cells ⟨[.slice EB0 E.length ec,.slice VB V.length vc]⟩ 171))
    have HES3:=I (HES2.o.next HBM.o)
    have hsz3:=(z4z.1 HBQ.o)
    have HMA:Hid (MacAt (z.alloc (.cells ⟨[.slice EB0 E.length ec,.slice VB V.length vc]⟩ 171)) z.heap.size (.slice EB0 E.length ec) (.slice VB V.length vc) E V):=I
     ⟨by simp,zD z [.slice EB0 E.length ec,.slice VB V.length vc] 171,(HE.o.below HES3.o.bel fun _ _ _ k=>(k.under HES3.o.bel).more HES3.o.bel.size).more HES3.o.bel.size,(HV.o.below HES3.o.bel fun _ _ _ k=>(k.under HES3.o.bel).more HES3.o.bel.size).more HES3.o.bel.size,HEL.o,fun x hx=>List.all_eq_true.1 HALL.o x hx,HTB.o.next HES3.o.bel⟩
    have HEV:=I (zcC z.heap.size (.slice EB0 E.length ec) (.slice VB V.length vc) E V t 1 cs w.heap.size 0 (z.alloc (.cells ⟨[.slice EB0 E.length ec,.slice VB V.length vc]⟩ 171)) hsz3.2 hsz3.1 HES3.o.wx.range HES3.o.wx.lt ((HX.o.under HES3.o.bel).more HES3.o.bel.size) HMA.o)
    clear hsz3
    have HSM:Hid (w.heap.size+2 <(z.alloc (.cells ⟨[.slice EB0 E.length ec,.slice VB V.length vc]⟩ 171)).heap.size):=I HES3.o.we.lt
    go_wp2_with (go_at_call 116;fail)
    refine HEV.o.mono ?_
    rintro e z2 (⟨v,cs',hr,rfl,hk,hrw,hb⟩|⟨n,hr,rfl,hb⟩)
    ·have HES4:=I (HES3.o.next hb)
     have HCV:=I (zo hk.val).1
     have HON:=I (zo hk.val).2
     have HK:=I hk
     have HRW:=I hrw
     have HRES:Hid (evalT t E V= .ok v):=I (HEVT.o.trans hr)
     clear hk hrw hr hb
     go_wp2_with ((with_reducible refine zf 52 _ _ rfl rfl ?_ (w.heap.size+1) zV6 cs' HES4.o.wv ?_ ?_ ?_ ?_ ?_ ?_);(exact wA rfl);rw[HCV.o];rfl;rfl;rfl;rw[HCV.o];kernel_rfl;exact HON.o;intro Z hz hb;have HXZ:=I hz;have HXB:=I hb;have hr2:Whole 33 Z (w.heap.size+1+1) [.int .i64 0]:=HES4.o.we.keep (hb.block _ HES4.o.we.lt (by omega) (by omega));have c0:Z.cell? ⟨w.heap.size+1+1,0,none⟩= some (.int .i64 0):=hr2.cells 0 rfl;have f0:Z.frozen? ⟨w.heap.size+1+1,0,none⟩= false:=hr2.thaw' 0;clear hz hb hr2)
     have hc2:(Z.setCell ⟨w.heap.size+1+1,0,none⟩ (.int .i64 0)).cell? ⟨w.heap.size+1+1,0,none⟩= some (.int .i64 0):=World.cell?_setCell_same _ _ _ (by rw[c0])
     have hb2:∀ b,b≠w.heap.size+1+1->(Z.setCell ⟨w.heap.size+1+1,0,none⟩ (.int .i64 0)).heap[b]?= Z.heap[b]?:=fun b h=>Below.heap_setCell Z ⟨w.heap.size+1+1,0,none⟩ _ b h
     have hs2:(Z.setCell ⟨w.heap.size+1+1,0,none⟩ (.int .i64 0)).heap.size= Z.heap.size:=by simp[World.setCell]
     have hos:(Z.setCell ⟨w.heap.size+1+1,0,none⟩ (.int .i64 0)).os= Z.os/\(Z.setCell ⟨w.heap.size+1+1,0,none⟩ (.int .i64 0)).tape= Z.tape/\(Z.setCell ⟨w.heap.size+1+1,0,none⟩ (.int .i64 0)).output= Z.output:=⟨rfl,rfl,rfl⟩
     generalize Z.setCell ⟨w.heap.size+1+1,0,none⟩ (.int .i64 0)= Z3 at*
     refine leaves_cons (f:=114) (args:= #[.pointer (some ⟨w.heap.size+1,0,none⟩),.pointer (some ⟨w.heap.size+1+1,0,none⟩)]) (by simp) (by simp[go_sem]) ?_
     refine(zad (w.heap.size+1) (w.heap.size+1+1) _).mono ?_
     rintro e u' w'' ⟨rfl,rfl,rfl⟩
     have hZ:=HXB.o.size
     have h4:=HES4.o.bel.size
     have hW:Whole 52 w'' (w.heap.size+1) cs':=HXZ.o.keep (hb2 _ (by omega))
     refine⟨_,z2c rfl _ _ (w.heap.size+1) (w.heap.size+1+1) cs' 0 HCV.o rfl rfl hW hc2,.inl ⟨v,cs',HRES.o,rfl,HK.o.to (fun b hp hlt=> ?_) (by omega),HRW.o,?_⟩⟩
     ·have h5:=HSM.o
      have h6:w.heap.size+2 < b:=Nat.lt_of_lt_of_le h5 hp
      exact⟨by omega,(hb2 b (by omega)).trans (HXB.o.block b hlt (by omega) (by omega))⟩
     ·exact⟨hos.1.trans (HXB.o.os.trans HES4.o.bel.os),hos.2.1.trans (HXB.o.tape.trans HES4.o.bel.tape),hos.2.2.trans (HXB.o.output.trans HES4.o.bel.output),by omega,fun b hlt=>(hb2 b (by omega)).trans ((HXB.o.block b (by omega) (by omega) (by omega)).trans (HES4.o.bel.block b hlt))⟩
    ·have HESZ:=I (HES3.o.next hb)
     have HRES:Hid (evalT t E V= .error n):=I (HEVT.o.trans hr)
     clear hr hb
     go_wp2
     refine leaves_cons (f:=114) (args:= #[.pointer (some ⟨w.heap.size+1,0,none⟩),.pointer (some ⟨w.heap.size+1+1,0,none⟩)]) (by simp) (by simp[go_sem]) ?_
     refine(z3R (w.heap.size+1) (w.heap.size+1+1) n 0 33 [] _ HESZ.o.wv HESZ.o.we (by omega)).mono ?_
     rintro e u' w'' ⟨rfl,rfl,hq,hr,hb⟩
     exact⟨_,z2c rfl _ _ (w.heap.size+1) (w.heap.size+1+1) zV6 n rfl rfl rfl hq hr,.inr ⟨n,HRES.o,rfl,HESZ.o.bel.trans (hb.below (B:=w.heap.size) HESZ.o.bel.size (by omega) (by omega))⟩⟩
  |succ g=>
   have hlt:(j:Int) <(V.length:Int):=by omega
   obtain⟨y,hy⟩:∃ y,V[j]?= some y:=⟨_,List.getElem?_eq_getElem (by omega)⟩
   obtain⟨b,ob,rfl,hbb,hc⟩:=HVA.o (by omega)
   obtain⟨ks,hkl,hkr,hkv⟩:=hc j y hy
   have HCLL:=I hkl
   have HKR:Hid (wr.rangeAt b (ob+j*6) ks):=I (zc hkr HES.o.bel hbb)
   have HKV:=I ((hkv.under HES.o.bel).more HES.o.bel.size)
   have HON:=I (zo hkv).2
   have HY:=I hy
   clear hc hkl hkr hkv hy
   go_upto_region 5 with (first|((with_reducible refine za 52 _ rfl ?_ b (ob+j*6) ks _ rfl HKR.o Tryz.underlying52 rfl ?_ ?_);exact wA rfl;rw[HCLL.o];kernel_rfl)|((with_reducible refine zJ 52 _ _ rfl ?hw wr ?zn ks ?hwld ?hz ?hx ?hy ?hi ?h1 ?_);(case hwld=>rfl);(case hx=>rfl);(case hy=>rfl);(case hw=>exact wA rfl);(case hz=>exact HCLL.o);(case hi=>rw[HCLL.o];kernel_rfl);(case h1=>exact HON.o);intro Z hbx;have HX2:=I hbx;clear hbx))
   have HRZ:=I HX2.o.range
   have HBZ:=I HX2.o.below
   have HRT:=I (z1x y ks Z ((HKV.o.under HBZ.o).more HBZ.o.size))
   obtain⟨bq,hbq⟩:∃ bq,(decide (cntV y 0<=200) && zu y 1)= bq:=⟨_,rfl⟩
   have HBQ:Hid (zv y= bq):=I hbq
   rw[hbq] at HRT
   clear hbq HX2 HKR HKV
   cases bq with
   |true=>
    go_wp2_with (first|((with_reducible refine za 52 _ rfl ?_ wr.heap.size 0 ks _ rfl HRZ.o Tryz.underlying52 rfl ?_ ?_);exact wA rfl;rw[HCLL.o];kernel_rfl)|(go_at_call 61;refine HRT.o.mono ?_;rintro e z ⟨rfl,hb⟩;have HBY:=I hb;clear hb)|(go_at_call 115;refine(zm 2 _).mono ?_;rintro e z ⟨rfl,hzw⟩;rw[hzw];clear hzw z))
    go_roundg g
    case measure=>omega
    case rel=>
     refine⟨j+1,by omega,by have hv:=HVL.o;have hq:wrap64 ((j:Int)+1)=((j+1:Nat):Int):=by { unfold wrap64;omega };first|rw[hq]|rfl,HBU.o.trans ((HBZ.o.trans (HBY.o.mono HBZ.o.size)).mono HBU.o.size),fun i x hi hx=> ?_⟩
     by_cases hij:i= j
     ·subst hij
      have h1:=HY.o
      rw[hx] at h1
      injection h1 with h1
      rw[h1];exact HBQ.o
     ·exact HRI.o i x (by omega) hx
   |false=>
    have HRES:Hid (evalT t E V= .error 2):=I (by
     unfold evalT
     rw[if_neg]
     intro h
     rw[Bool.and_eq_true,List.all_eq_true] at h
     have:=h.1 y (List.mem_of_getElem? HY.o)
     rw[HBQ.o] at this
     cases this)
    go_wp2_with (first|((with_reducible refine za 52 _ rfl ?_ wr.heap.size 0 ks _ rfl HRZ.o Tryz.underlying52 rfl ?_ ?_);exact wA rfl;rw[HCLL.o];kernel_rfl)|(go_at_call 61;refine HRT.o.mono ?_;rintro e z ⟨rfl,hb⟩;have HBY:=I hb;clear hb)|(go_at_call 115;refine(zA 2 _).mono ?_;rintro e z ⟨rfl,hzw⟩;rw[hzw];clear hzw z))
    have HESZ:=I ((HES.o.next HBZ.o).next HBY.o)
    refine leaves_cons (f:=114) (args:= #[.pointer (some ⟨w.heap.size+1,0,none⟩),.pointer (some ⟨w.heap.size+1+1,0,none⟩)]) (by simp) (by simp[go_sem]) ?_
    refine(z3R (w.heap.size+1) (w.heap.size+1+1) 2 0 33 [] _ HESZ.o.wv HESZ.o.we (by omega)).mono ?_
    rintro e u' w'' ⟨rfl,rfl,hq,hr,hb⟩
    exact⟨_,z2c rfl _ _ (w.heap.size+1) (w.heap.size+1+1) zV6 2 rfl rfl rfl hq hr,.inr ⟨2,HRES.o,rfl,HESZ.o.bel.trans (hb.below (B:=w.heap.size) HESZ.o.bel.size (by omega) (by omega))⟩⟩
end
section
open Go Go.RowKit
def EvC (r:Res) (w:World) (e:Ending) (w':World):Prop:=
 ∃ cs,e= .returned (.tuple #[.agg ⟨cs⟩,.int .i64 (resV r).2])/\Kept (fun b=>w.heap.size<=b) w' cs (resV r).1/\(∀ v,r= .ok v->zv v= true)/\Below w.heap.size w w'
theorem ev_c {r:Res} {w:World} {e:Ending} {w':World} (h:EvTop r w e w'):EvC r w e w':=by
 rcases h with ⟨v,cs,rfl,rfl,h1,h2,h3⟩|⟨n,rfl,rfl,h3⟩
 ·exact⟨cs,rfl,h1,fun u hu=>by injection hu with hu;subst hu;exact h2,h3⟩
 ·exact⟨zV6,rfl,ValAt.of (zx 0 (by decide +kernel)) (zx 0 (by decide +kernel)) (by decide +kernel) (Nat.zero_le _) (SlAt.nil _ _ _ _) (Nat.zero_le _) (SlAt.nil _ _ _ _),(fun u hu=>by cases hu),h3⟩
theorem zfy (t:ET) (E:List VarT) (V:List VT) (cs:List Value) (va vb:Value) (w:World) (hx:ExpAt w w.heap.size cs t) (hE:SlAt w w.heap.size 11 (VarAt w w.heap.size) va E) (hV:SlAt w w.heap.size 6 (ValAt w w.heap.size) vb V) (hEl:E.length<=10000) (hVl:V.length<=10000) (htb:TabP w):
  Calls Tryz.prog 89 #[.agg ⟨cs⟩,va,vb] w (EvC (evalT t E V) w):=(zdY t E V cs va vb w hx hE hV hEl hVl htb).mono fun _ _ h=>ev_c h
theorem zfq (w:World) (B:Nat):ValAt w B zV6 v0:=ValAt.of (zx 0 (by decide +kernel)) (zx 0 (by decide +kernel)) (by decide +kernel) (Nat.zero_le _) (SlAt.nil _ _ _ _) (Nat.zero_le _) (SlAt.nil _ _ _ _)
theorem z5H {fn:Func} {p u:Tmp} (h:fn.results= #[.cell p 52,.tmp u]) (tmps:Array Value) (w:World) (g:Nat) (cs:List Value) (hl:cs.length= 6) (x:Value)
  (hp:tmps.getD p undef= .pointer (some ⟨g,0,none⟩)) (hm:Whole 52 w g cs) (hu:tmps.getD u undef= x):(results fn tmps).run Tryz.prog w= .ok (.tuple #[.agg ⟨cs⟩,x]) w:=by
 have hp':tmps[p]?.getD undef= .pointer (some ⟨g,0,none⟩):=by simpa using hp
 have hu':tmps[u]?.getD undef= x:=by simpa using hu
 have hl:=run_loadVar_mid (P:=Tryz.prog) w g 0 52 cs _ hm.range Tryz.underlying52 rfl (by rw[hl];kernel_rfl)
 simp[results,h,hp',hu',asAddr,hl]
end
section
open Go Go.RowKit
def z0r (x:ET):VT × Bool:=if anyE x= true then(v0,false) else((resV (evalT x [] [])).1,(resV (evalT x [] [])).2 ==0)
def zbr (x:ET) (w:World) (e:Ending) (w':World):Prop:=∃ cs,e= .returned (.tuple #[.agg ⟨cs⟩,.bool (z0r x).2])/\ValAt w' w'.heap.size cs (z0r x).1/\Below w.heap.size w w'
theorem z8L (x:ET) (cx:List Value) (w:World) (htb:TabP w) (hx:ExpAt w w.heap.size cx x):Calls Tryz.prog 71 #[.agg ⟨cx⟩] w (zbr x w):=by
 have HTB:=I htb
 have HX:=I hx
 have HLX:=I (eslen hx)
 clear htb hx
 go_enter Tryz.func71,Tryz.ntmps71
 go_upto_region 1 with (fail)
 rw[z0q]
 have h1:=(Whole.new w cx 54).keep ((zd (w.alloc (.cells ⟨cx⟩ 54)) (.cells zV6.toArray 52)).block _ (by simp))
 have h2:=Whole.new (w.alloc (.cells ⟨cx⟩ 54)) zV6 52
 rw[show(w.alloc (.cells ⟨cx⟩ 54)).heap.size= w.heap.size+1 by simp] at h2
 have HBL0:Hid (Below w.heap.size w ((w.alloc (.cells ⟨cx⟩ 54)).alloc (.cells zV6.toArray 52))):=I (((Below.refl w.heap.size w).alloc (by simp) (.cells ⟨cx⟩ 54)).alloc (by simp) (.cells zV6.toArray 52))
 generalize (w.alloc (.cells ⟨cx⟩ 54)).alloc (.cells zV6.toArray 52)= W at*
 have HEB:=I h1
 have HRS:=I h2
 clear h1 h2
 have HXW:=I ((HX.o.under HBL0.o).more HBL0.o.size)
 have HS:=I (z8j x cx w.heap.size 0 W HEB.o.range HEB.o.lt HXW.o)
 obtain⟨b,hb⟩:∃ b,anyE x= b:=⟨_,rfl⟩
 rw[hb] at HS
 have HAN:=I hb
 clear hb
 cases b with
 |true=>
  have HCR:Hid (z0r x=(v0,false)):=I (by unfold z0r;rw[HAN.o,if_pos rfl])
  go_wp2_with (first|(go_at_call 88;refine HS.o.mono ?_;rintro e u ⟨rfl,hb⟩;have HB1:=I hb;have HR1:=I (HRS.o.keep (hb.block _ HRS.o.lt));clear hb)|((with_reducible refine zf 52 _ _ rfl rfl ?_ (w.heap.size+1) (zV6) (zV6) HR1.o ?_ ?_ ?_ ?_ ?_ ?_);(exact wA rfl);rfl;rfl;rfl;kernel_rfl;exact z00 _ _ _ _;intro Z hz hb;have HZZ:=I hz;have HBZ:=I hb;clear hz hb))
  (try simp only[Exit.inBlock,Exit.then])
  refine bodyPost_ret (z5H rfl _ _ (w.heap.size+1) zV6 rfl (.bool false) rfl HZZ.o rfl) rfl ?_
  exact⟨_,by rw[HCR.o],by rw[HCR.o];exact zfq _ _,(HBL0.o.trans (HB1.o.mono HBL0.o.size)).trans (HBZ.o.below (Nat.le_trans HBL0.o.size HB1.o.size) (by omega) (by omega))⟩
 |false=>
  have HCR:Hid (z0r x=((resV (evalT x [] [])).1,(resV (evalT x [] [])).2 ==0)):=I (by unfold z0r;rw[HAN.o,if_neg (by decide)])
  go_upto_region 3 with (first|(go_at_call 88;refine HS.o.mono ?_;rintro e u ⟨rfl,hb⟩;have HB1:=I hb;have HR1:=I (HRS.o.keep (hb.block _ HRS.o.lt));have HE1:=I (HEB.o.keep (hb.block _ HEB.o.lt));clear hb))
  have HBu:Hid (Below w.heap.size w u):=I (HBL0.o.trans (HB1.o.mono HBL0.o.size))
  have HXu:=I ((HX.o.under HBu.o).more HBu.o.size)
  have HEV1:=I (zfy x [] [] cx (.slice none 0 0) (.slice none 0 0) u HXu.o (SlAt.nil _ _ _ _) (SlAt.nil _ _ _ _) (by decide) (by decide) (HTB.o.next HBu.o))
  obtain⟨n1,hn1⟩:∃ n,(resV (evalT x [] [])).2= n:=⟨_,rfl⟩
  have HN1:=I hn1
  obtain⟨r1,hr1⟩:∃ r,evalT x [] []= r:=⟨_,rfl⟩
  rw[hr1] at HEV1
  have HRR1:=I hr1
  clear hr1 hn1
  go_upto_region 4 with (first|((with_reducible refine za 54 _ rfl ?_ (w.heap.size) (0) (cx) _ rfl HE1.o.range Tryz.underlying54 rfl ?_ ?_);(exact wA rfl);rw[HLX.o];kernel_rfl)|(go_at_call 89;refine HEV1.o.mono ?_;rintro e y1 ⟨cs1,rfl,hk,hr,hb⟩;have HC1:=I (zo hk.val).1;have HOO1:=I (zo hk.val).2;have HVV1:=I hk.val;have HKP1:=I hk;have HBY1:=I hb;clear hk hr hb)|((with_reducible refine zJ 52 _ _ rfl ?hwx13 y1 ?zz13 (cs1) ?hwld13 ?hz13 ?hx13 ?hy13 ?hi13 ?h113 ?_);(case hwld13=>rfl);(case hx13=>rfl);(case hy13=>rfl);(case hwx13=>(exact wA rfl));(case hz13=>rw[HC1.o];rfl);(case hi13=>rw[HC1.o];kernel_rfl);(case h113=>exact HOO1.o);intro Z1 hZ;have HXX1:=I hZ;clear hZ))
  have HB2:Hid (Below u.heap.size u Z1):=I (HBY1.o.trans (HXX1.o.below.mono HBY1.o.size))
  have HBz:Hid (Below w.heap.size w Z1):=I (HBu.o.trans (HB2.o.mono HBu.o.size))
  have HR2:=I (HR1.o.keep (HB2.o.block _ HR1.o.lt))
  have HVZ:Hid (ValAt y1 y1.heap.size cs1 (resV r1).1):=HVV1
  have HRG:=I HXX1.o.range
  have HLT:=I HR1.o.lt
  have hN:(resV r1).2= n1:=by rw[← HRR1.o];exact HN1.o
  rw[hN]
  clear hN
  go_wp2_with (first|((with_reducible refine za 52 _ rfl ?_ (y1.heap.size) (0) (cs1) _ rfl HRG.o Tryz.underlying52 rfl ?_ ?_);(exact wA rfl);rw[HC1.o];kernel_rfl)|((with_reducible refine zf 52 _ _ rfl rfl ?_ (w.heap.size+1) (zV6) (cs1) HR2.o ?_ ?_ ?_ ?_ ?_ ?_);(exact wA rfl);rw[HC1.o];rfl;rfl;rfl;rw[HC1.o];kernel_rfl;exact HOO1.o;intro Z hz hb;have HZZ:=I hz;have HBZ:=I hb;clear hz hb))
  (try simp only[Exit.inBlock,Exit.then])
  refine bodyPost_ret (z5H rfl _ _ (w.heap.size+1) cs1 HC1.o (.bool (n1 ==0)) rfl HZZ.o rfl) rfl ?_
  have hlt:=HLT.o
  refine⟨_,by rw[HCR.o,HN1.o],?_,HBz.o.trans (HBZ.o.below HBz.o.size (by omega) (by omega))⟩
  rw[HCR.o,HRR1.o]
  exact(HKP1.o.to (q:=fun _=>True) (fun b hp hl=>⟨trivial,(HBZ.o.block b (Nat.lt_of_lt_of_le hl HXX1.o.below.size) (by omega) (by omega)).trans (HXX1.o.below.block b hl)⟩) (Nat.le_trans HXX1.o.below.size HBZ.o.size)).val
end
end Go.Proofs.YtdjfpcmlffekkaaGreatDoor
