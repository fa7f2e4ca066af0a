/- Parts of a proof: E10E, EvC. -/
import Derived.Defers
import Derived.Recover
import Derived.Test.YteolfamhmfidbaaGreatDoorPackJ30
set_option maxHeartbeats 8000000
set_option maxRecDepth 100000
set_option linter.unusedVariables false
set_option linter.unusedSimpArgs false
namespace Go.Proofs.YteolfamhmfidbaaGreatDoor
section
open Go Go.RowKit
theorem Whole.thaw' {T:TypeId} {w:World} {b:Nat} {cs:List Value} (h:Whole T w b cs) (i:Nat):w.frozen? ⟨b,i,none⟩= false:=by
 unfold World.frozen?
 have h2:w.heap[b]?= some (.cells cs.toArray T):=h
 simp[h2]
theorem z42 (q r:Nat) (n m:Int) (T:TypeId) (older:List PanicEntry) (w:World) (hq:Whole 27 w q zV6) (hr:Whole T w r [.int .i64 m]) (hqr:q≠r):
  CallsD Tryz.prog 36 #[.pointer (some ⟨q,0,none⟩),.pointer (some ⟨r,0,none⟩)] (.panicking ({ v:= .iface 42 (.int .i64 n),recovered:=false }::older)) w fun e u' w'=>
   e= .returned (.tuple #[])/\u'= .panicking ({ v:= .iface 42 (.int .i64 n),recovered:=true }::older)/\Whole 27 w' q zV6/\w'.cell? ⟨r,0,none⟩= some (.int .i64 n)/\But w w' q r:=by
 have HQ:=I hq
 have HR:=I hr
 have hrf:w.frozen? ⟨r,0,none⟩= false:=by have:=Whole.thaw' hr 0;exact this
 have hta:∀ (S:TypeId) (W:World),(Instr.typeAssert (.iface 42 (.int .i64 n)) S 42 true).run Tryz.prog W= .ok (.tuple #[.int .i64 n,.bool true]) W:=fun S W=>by kernel_rfl
 refine callsD_of_wpS Tryz.func36 rfl fun c₀ cs hu=> ?_
 apply wpS_seq
 apply wpS_region
 simp[wpOpsS,go_sem,recoverD,hu,hta,Tryz.ntmps36,Exit.thenS,Array.replicate]
 refine wpS_of_wp ?_
 clear hta hrf hq hr hu
 go_wp2_with ((with_reducible refine zd 27 _ _ rfl rfl ?_ q zV6 zV6 HQ.o ?_ ?_ ?_ ?_ ?_ ?_);(exact wA rfl);rfl;rfl;rfl;kernel_rfl;exact zZ _ _ _ _;intro Z hz hb;have HX:=I hz;have HXB:=I hb;have hr2:Whole T Z r [.int .i64 m]:=HR.o.keep (hb.block r HR.o.lt (Ne.symm hqr) (Ne.symm hqr));have c0:Z.cell? ⟨r,0,none⟩= some (.int .i64 m):=hr2.cells 0 rfl;have f0:Z.frozen? ⟨r,0,none⟩= false:=hr2.thaw' 0;clear hz hb hr2)
 refine⟨rfl,_,rfl,_,results_none rfl _ _ _,rfl,rfl,?_,World.cell?_setCell_same _ _ _ (by rw[c0]),?_⟩
 ·exact HX.o.keep (Below.heap_setCell Z ⟨r,0,none⟩ _ q hqr)
 ·exact⟨HXB.o.os,HXB.o.tape,HXB.o.output,by have:=HXB.o.size;simpa [World.setCell] using this,fun b hb h1 h2=>(Below.heap_setCell Z ⟨r,0,none⟩ _ b h2).trans (HXB.o.block b hb h1 h1)⟩
theorem zaz (q r:Nat) (w:World):
  CallsD Tryz.prog 36 #[.pointer (some ⟨q,0,none⟩),.pointer (some ⟨r,0,none⟩)] .returning w fun e u' w'=>e= .returned (.tuple #[])/\u'= .returning/\w'= w:=by
 have hta:∀ (S:TypeId) (W:World),(Instr.typeAssert .nilIface S 42 true).run Tryz.prog W= .ok (.tuple #[.int .i64 0,.bool false]) W:=fun S W=>by kernel_rfl
 refine callsD_of_wpS Tryz.func36 rfl fun c₀ cs hu=> ?_
 apply wpS_seq
 apply wpS_region
 simp[wpOpsS,go_sem,recoverD,hu,hta,Tryz.ntmps36,Exit.thenS,Array.replicate]
 refine wpS_of_wp ?_
 clear hta
 go_wp2
 refine⟨rfl,_,?_,_,results_none rfl _ _ _,rfl,rfl,rfl⟩
 cases c₀
 simp only at hu
 subst hu
 rfl
theorem z2a {fn:Func} {p q:Tmp} (h:fn.results= #[.cell p 27,.cell q 42]) (tmps:Array Value) (w:World) (g g2:Nat) (cs:List Value) (n:Int) (hl:cs.length= 6)
  (hp:tmps.getD p undef= .pointer (some ⟨g,0,none⟩)) (hq:tmps.getD q undef= .pointer (some ⟨g2,0,none⟩)) (hg:Whole 27 w g cs) (hc:w.cell? ⟨g2,0,none⟩= some (.int .i64 n)):(results fn tmps).run Tryz.prog w= .ok (.tuple #[.agg ⟨cs⟩,.int .i64 n]) w:=by
 have hp':tmps[p]?.getD undef= .pointer (some ⟨g,0,none⟩):=by simpa using hp
 have hq':tmps[q]?.getD undef= .pointer (some ⟨g2,0,none⟩):=by simpa using hq
 have hl1:=run_loadVar_mid (P:=Tryz.prog) w g 0 27 cs _ hg.range Tryz.underlying27 rfl (by rw[hl];kernel_rfl)
 have hl2:(loadVar 42 ⟨g2,0,none⟩).run Tryz.prog w= .ok (.int .i64 n) w:=by simp[go_sem,loadVar,hc,Tryz.isAgg42]
 simp[results,h,hp',hq',asAddr,hl1,hl2]
def EvTop (r:Res) (w:World) (e:Ending) (w':World):Prop:=
 (∃ v cs,r= .ok v/\e= .returned (.tuple #[.agg ⟨cs⟩,.int .i64 0])/\Kept (fun b=>w.heap.size<=b) w' cs v/\zl v= true/\Below w.heap.size w w')\/(∃ n,r= .error n/\e= .returned (.tuple #[.agg ⟨zV6⟩,.int .i64 n])/\Below w.heap.size w w')
structure ES (w W:World) (cs:List Value):Prop where
 wx:Whole 30 W w.heap.size cs
 wv:Whole 27 W (w.heap.size+1) zV6
 we:Whole 42 W (w.heap.size+2) [.int .i64 0]
 bel:Below w.heap.size w W
theorem zdx (w:World) (cs:List Value):ES w (((w.alloc (.cells ⟨cs⟩ 30)).alloc (.cells zV6.toArray 27)).alloc (.cells #[.int .i64 0] 42)) cs:=by
 have h1:=Whole.new w cs 30
 have h2:=zc w (.cells ⟨cs⟩ 30)
 have hs:(w.alloc (.cells ⟨cs⟩ 30)).heap.size= w.heap.size+1:=by simp
 generalize w.alloc (.cells ⟨cs⟩ 30)= W1 at*
 have h3:=Whole.new W1 zV6 27
 have h4:=zc W1 (.cells zV6.toArray 27)
 have hs2:(W1.alloc (.cells zV6.toArray 27)).heap.size= w.heap.size+2:=by simp[hs]
 rw[hs] at h3
 generalize W1.alloc (.cells zV6.toArray 27)= W2 at*
 have h5:=Whole.new W2 [.int .i64 0] 42
 have h6:=zc W2 (.cells #[.int .i64 0] 42)
 rw[hs2] at h5
 exact⟨(h1.keep (h4.block _ (by omega))).keep (h6.block _ (by omega)),h3.keep (h6.block _ (by omega)),h5,(h2.trans (h4.mono (by omega))).trans (h6.mono (by omega))⟩
theorem ES.next {w W W':World} {cs:List Value} (h:ES w W cs) (hb:Below W.heap.size W W'):ES w W' cs:=
 ⟨h.wx.keep (hb.block _ h.wx.lt),h.wv.keep (hb.block _ h.wv.lt),h.we.keep (hb.block _ h.we.lt),h.bel.trans (hb.mono h.bel.size)⟩
theorem zeF (t:ET) (E:List VarT) (V:List VT) (cs:List Value) (va vb:Value) (w:World) (hx:ExpAt w w.heap.size cs t) (hE:SlAt w w.heap.size 11 (VarAt w w.heap.size) va E) (hV:SlAt w w.heap.size 6 (ValAt w w.heap.size) vb V) (hEl:E.length<=10000) (hVl:V.length<=10000) (htb:TabP w):
  Calls Tryz.prog 13 #[.agg ⟨cs⟩,va,vb] w (EvTop (evalT t E V) w):=by
 have HCL:=I (show cs.length= 10 from KeptP.len (p:=fun _=>True) (ExpAt.cells hx fun a v hv=>zy.2 ⟨trivial,hv⟩))
 have HX:=I hx
 have HE:=I hE
 have HV:=I hV
 have HEL:=I hEl
 have HVL:=I hVl
 have HTB:=I htb
 obtain⟨hvl,VB,vc,rfl,hvA⟩:=hV
 obtain⟨hel,EB0,ec,rfl,heA⟩:=hE
 have HVA:=I hvA
 have hmf:∀ (fn:Fn) (first cap:Array Value) (w:World),(Instr.makeFunc fn first cap).run Tryz.prog w= .ok (.func fn first cap) w:=fun _ _ _ _=>rfl
 clear hx hEl hVl htb hvA heA hvl hel
 go_enter_defers Tryz.func13,Tryz.ntmps13
 go_upto_region 1 with (fail)
 have HST:=I (zdx w cs)
 rw[z0k]
 generalize ((w.alloc (.cells ⟨cs⟩ 30)).alloc (.cells zV6.toArray 27)).alloc (.cells #[.int .i64 0] 42)= W at*
 go_upto_region 3 with (fail)
 go_loopg [13] V.length (fun q y u=>∃ j:Nat,j+q= V.length/\y= .int .i64 j/\Below W.heap.size W u/\∀ i x,i < j->V[i]?= some x->zl x= true)
 case atStart=>exact⟨0,by omega,rfl,Below.refl _ _,fun i x hi=>absurd hi (Nat.not_lt_zero i)⟩
 case round=>
  obtain⟨j,hj,rfl,hb,hri⟩:=hrel
  have HBU:=I hb
  have HRI:=I hri
  have HES:=I (HST.o.next hb)
  clear hb hri
  cases gk with
  |zero=>
   obtain rfl:j= V.length:=by omega
   have hge: ¬ ((V.length:Int) <(V.length:Int)):=by omega
   have HALL:Hid (V.all zl= true):=I (by
    rw[List.all_eq_true]
    intro x hx
    obtain⟨i,hi⟩:=List.mem_iff_getElem?.1 hx
    exact HRI.o i x (List.getElem?_eq_some_iff.1 hi).1 hi)
   have HXW:=I ((HX.o.under HES.o.bel).more HES.o.bel.size)
   have HPR:=I (z6v t cs wr HXW.o)
   have HRG:=I HES.o.wx.range
   obtain⟨bq,hbq⟩:∃ bq,zB t= bq:=⟨_,rfl⟩
   have HBQ:=I hbq
   rw[hbq] at HPR
   clear hbq hmf
   cases bq with
   |false=>
    have HRES:Hid (evalT t E V= .error 2):=I (by
     unfold evalT
     rw[if_neg]
     intro h
     rw[Bool.and_eq_true,HBQ.o] at h
     cases h.2)
    go_wp2_with (first|((with_reducible refine z7 30 _ rfl ?_ w.heap.size 0 cs _ rfl HRG.o Tryz.underlying30 rfl ?_ ?_);exact wA rfl;rw[HCL.o];kernel_rfl)|(go_at_call 28;refine HPR.o.mono ?_;rintro e z ⟨rfl,hb⟩;have HBY:=I hb;clear hb)|(go_at_call 37;refine(zv 2 _).mono ?_;rintro e z ⟨rfl,hzw⟩;rw[hzw];clear hzw z))
    have HESZ:=I (HES.o.next HBY.o)
    refine leaves_cons (f:=36) (args:= #[.pointer (some ⟨w.heap.size+1,0,none⟩),.pointer (some ⟨w.heap.size+1+1,0,none⟩)]) (by simp) (by simp[go_sem]) ?_
    refine(z42 (w.heap.size+1) (w.heap.size+1+1) 2 0 42 [] _ HESZ.o.wv HESZ.o.we (by omega)).mono ?_
    rintro e u' w'' ⟨rfl,rfl,hq,hr,hb⟩
    exact⟨_,z2a rfl _ _ (w.heap.size+1) (w.heap.size+1+1) zV6 2 rfl rfl rfl hq hr,.inr ⟨2,HRES.o,rfl,HESZ.o.bel.trans (hb.below (B:=w.heap.size) HESZ.o.bel.size (by omega) (by omega))⟩⟩
   |true=>
    have HEVT:Hid (evalT t E V= evalE E V t):=I (by unfold evalT;rw[if_pos (by rw[HALL.o,HBQ.o];rfl)])
    go_upto_region 8 with (first|((with_reducible refine z7 30 _ rfl ?_ w.heap.size 0 cs _ rfl HRG.o Tryz.underlying30 rfl ?_ ?_);exact wA rfl;rw[HCL.o];kernel_rfl)|(go_at_call 28;refine HPR.o.mono ?_;rintro e z ⟨rfl,hb⟩;have HBY:=I hb;clear hb)|(go_at_call 37;refine(zj 2 _).mono ?_;rintro e z ⟨rfl,hzw⟩;rw[hzw];clear hzw z))
    have HES2:=I (HES.o.next HBY.o)
    have HBM:=I (zc z (.cells ⟨[.slice EB0 E.length ec,.slice VB V.length vc]⟩ 89))
    have HES3:=I (HES2.o.next HBM.o)
    have hsz3:=(z1C.1 HBQ.o)
    have HMA:Hid (MacAt (z.alloc (.cells ⟨[.slice EB0 E.length ec,.slice VB V.length vc]⟩ 89)) z.heap.size (.slice EB0 E.length ec) (.slice VB V.length vc) E V):=I
     ⟨by simp,zm z [.slice EB0 E.length ec,.slice VB V.length vc] 89,(HE.o.below HES3.o.bel fun _ _ _ k=>(k.under HES3.o.bel).more HES3.o.bel.size).more HES3.o.bel.size,(HV.o.below HES3.o.bel fun _ _ _ k=>(k.under HES3.o.bel).more HES3.o.bel.size).more HES3.o.bel.size,HEL.o,fun x hx=>List.all_eq_true.1 HALL.o x hx,HTB.o.next HES3.o.bel⟩
    have HEV:=I (zbK z.heap.size (.slice EB0 E.length ec) (.slice VB V.length vc) E V t 1 cs w.heap.size 0 (z.alloc (.cells ⟨[.slice EB0 E.length ec,.slice VB V.length vc]⟩ 89)) hsz3.2 hsz3.1 HES3.o.wx.range HES3.o.wx.lt ((HX.o.under HES3.o.bel).more HES3.o.bel.size) HMA.o)
    clear hsz3
    have HSM:Hid (w.heap.size+2 <(z.alloc (.cells ⟨[.slice EB0 E.length ec,.slice VB V.length vc]⟩ 89)).heap.size):=I HES3.o.we.lt
    go_wp2_with (go_at_call 39;fail)
    refine HEV.o.mono ?_
    rintro e z2 (⟨v,cs',hr,rfl,hk,hrw,hb⟩|⟨n,hr,rfl,hb⟩)
    ·have HES4:=I (HES3.o.next hb)
     have HCV:=I (zk hk.val).1
     have HON:=I (zk hk.val).2
     have HK:=I hk
     have HRW:=I hrw
     have HRES:Hid (evalT t E V= .ok v):=I (HEVT.o.trans hr)
     clear hk hrw hr hb
     go_wp2_with ((with_reducible refine zd 27 _ _ rfl rfl ?_ (w.heap.size+1) zV6 cs' HES4.o.wv ?_ ?_ ?_ ?_ ?_ ?_);(exact wA rfl);rw[HCV.o];rfl;rfl;rfl;rw[HCV.o];kernel_rfl;exact HON.o;intro Z hz hb;have HXZ:=I hz;have HXB:=I hb;have hr2:Whole 42 Z (w.heap.size+1+1) [.int .i64 0]:=HES4.o.we.keep (hb.block _ HES4.o.we.lt (by omega) (by omega));have c0:Z.cell? ⟨w.heap.size+1+1,0,none⟩= some (.int .i64 0):=hr2.cells 0 rfl;have f0:Z.frozen? ⟨w.heap.size+1+1,0,none⟩= false:=hr2.thaw' 0;clear hz hb hr2)
     have hc2:(Z.setCell ⟨w.heap.size+1+1,0,none⟩ (.int .i64 0)).cell? ⟨w.heap.size+1+1,0,none⟩= some (.int .i64 0):=World.cell?_setCell_same _ _ _ (by rw[c0])
     have hb2:∀ b,b≠w.heap.size+1+1->(Z.setCell ⟨w.heap.size+1+1,0,none⟩ (.int .i64 0)).heap[b]?= Z.heap[b]?:=fun b h=>Below.heap_setCell Z ⟨w.heap.size+1+1,0,none⟩ _ b h
     have hs2:(Z.setCell ⟨w.heap.size+1+1,0,none⟩ (.int .i64 0)).heap.size= Z.heap.size:=by simp[World.setCell]
     have hos:(Z.setCell ⟨w.heap.size+1+1,0,none⟩ (.int .i64 0)).os= Z.os/\(Z.setCell ⟨w.heap.size+1+1,0,none⟩ (.int .i64 0)).tape= Z.tape/\(Z.setCell ⟨w.heap.size+1+1,0,none⟩ (.int .i64 0)).output= Z.output:=⟨rfl,rfl,rfl⟩
     generalize Z.setCell ⟨w.heap.size+1+1,0,none⟩ (.int .i64 0)= Z3 at*
     refine leaves_cons (f:=36) (args:= #[.pointer (some ⟨w.heap.size+1,0,none⟩),.pointer (some ⟨w.heap.size+1+1,0,none⟩)]) (by simp) (by simp[go_sem]) ?_
     refine(zaz (w.heap.size+1) (w.heap.size+1+1) _).mono ?_
     rintro e u' w'' ⟨rfl,rfl,rfl⟩
     have hZ:=HXB.o.size
     have h4:=HES4.o.bel.size
     have hW:Whole 27 w'' (w.heap.size+1) cs':=HXZ.o.keep (hb2 _ (by omega))
     refine⟨_,z2a rfl _ _ (w.heap.size+1) (w.heap.size+1+1) cs' 0 HCV.o rfl rfl hW hc2,.inl ⟨v,cs',HRES.o,rfl,HK.o.to (fun b hp hlt=> ?_) (by omega),HRW.o,?_⟩⟩
     ·have h5:=HSM.o
      have h6:w.heap.size+2 < b:=Nat.lt_of_lt_of_le h5 hp
      exact⟨by omega,(hb2 b (by omega)).trans (HXB.o.block b hlt (by omega) (by omega))⟩
     ·exact⟨hos.1.trans (HXB.o.os.trans HES4.o.bel.os),hos.2.1.trans (HXB.o.tape.trans HES4.o.bel.tape),hos.2.2.trans (HXB.o.output.trans HES4.o.bel.output),by omega,fun b hlt=>(hb2 b (by omega)).trans ((HXB.o.block b (by omega) (by omega) (by omega)).trans (HES4.o.bel.block b hlt))⟩
    ·have HESZ:=I (HES3.o.next hb)
     have HRES:Hid (evalT t E V= .error n):=I (HEVT.o.trans hr)
     clear hr hb
     go_wp2
     refine leaves_cons (f:=36) (args:= #[.pointer (some ⟨w.heap.size+1,0,none⟩),.pointer (some ⟨w.heap.size+1+1,0,none⟩)]) (by simp) (by simp[go_sem]) ?_
     refine(z42 (w.heap.size+1) (w.heap.size+1+1) n 0 42 [] _ HESZ.o.wv HESZ.o.we (by omega)).mono ?_
     rintro e u' w'' ⟨rfl,rfl,hq,hr,hb⟩
     exact⟨_,z2a rfl _ _ (w.heap.size+1) (w.heap.size+1+1) zV6 n rfl rfl rfl hq hr,.inr ⟨n,HRES.o,rfl,HESZ.o.bel.trans (hb.below (B:=w.heap.size) HESZ.o.bel.size (by omega) (by omega))⟩⟩
  |succ g=>
   have hlt:(j:Int) <(V.length:Int):=by omega
   obtain⟨y,hy⟩:∃ y,V[j]?= some y:=⟨_,List.getElem?_eq_getElem (by omega)⟩
   obtain⟨b,ob,rfl,hbb,hc⟩:=HVA.o (by omega)
   obtain⟨ks,hkl,hkr,hkv⟩:=hc j y hy
   have HCLL:=I hkl
   have HKR:Hid (wr.rangeAt b (ob+j*6) ks):=I (za hkr HES.o.bel hbb)
   have HKV:=I ((hkv.under HES.o.bel).more HES.o.bel.size)
   have HON:=I (zk hkv).2
   have HY:=I hy
   clear hc hkl hkr hkv hy
   go_upto_region 5 with (first|((with_reducible refine z7 27 _ rfl ?_ b (ob+j*6) ks _ rfl HKR.o Tryz.underlying27 rfl ?_ ?_);exact wA rfl;rw[HCLL.o];kernel_rfl)|((with_reducible refine z0c 27 _ _ rfl ?hw wr ?zn ks ?hwld ?hz ?hx ?hy ?hi ?h1 ?_);(case hwld=>rfl);(case hx=>rfl);(case hy=>rfl);(case hw=>exact wA rfl);(case hz=>exact HCLL.o);(case hi=>rw[HCLL.o];kernel_rfl);(case h1=>exact HON.o);intro Z hbx;have HX2:=I hbx;clear hbx))
   have HRZ:=I HX2.o.range
   have HBZ:=I HX2.o.below
   have HRT:=I (z1W y ks Z ((HKV.o.under HBZ.o).more HBZ.o.size))
   obtain⟨bq,hbq⟩:∃ bq,(decide (cntV y 0<=200) && zo y 1)= bq:=⟨_,rfl⟩
   have HBQ:Hid (zl y= bq):=I hbq
   rw[hbq] at HRT
   clear hbq HX2 HKR HKV
   cases bq with
   |true=>
    go_wp2_with (first|((with_reducible refine z7 27 _ rfl ?_ wr.heap.size 0 ks _ rfl HRZ.o Tryz.underlying27 rfl ?_ ?_);exact wA rfl;rw[HCLL.o];kernel_rfl)|(go_at_call 38;refine HRT.o.mono ?_;rintro e z ⟨rfl,hb⟩;have HBY:=I hb;clear hb)|(go_at_call 37;refine(zj 2 _).mono ?_;rintro e z ⟨rfl,hzw⟩;rw[hzw];clear hzw z))
    go_roundg g
    case measure=>omega
    case rel=>
     refine⟨j+1,by omega,by have hv:=HVL.o;have hq:wrap64 ((j:Int)+1)=((j+1:Nat):Int):=by { unfold wrap64;omega };first|rw[hq]|rfl,HBU.o.trans ((HBZ.o.trans (HBY.o.mono HBZ.o.size)).mono HBU.o.size),fun i x hi hx=> ?_⟩
     by_cases hij:i= j
     ·subst hij
      have h1:=HY.o
      rw[hx] at h1
      injection h1 with h1
      rw[h1];exact HBQ.o
     ·exact HRI.o i x (by omega) hx
   |false=>
    have HRES:Hid (evalT t E V= .error 2):=I (by
     unfold evalT
     rw[if_neg]
     intro h
     rw[Bool.and_eq_true,List.all_eq_true] at h
     have:=h.1 y (List.mem_of_getElem? HY.o)
     rw[HBQ.o] at this
     cases this)
    go_wp2_with (first|((with_reducible refine z7 27 _ rfl ?_ wr.heap.size 0 ks _ rfl HRZ.o Tryz.underlying27 rfl ?_ ?_);exact wA rfl;rw[HCLL.o];kernel_rfl)|(go_at_call 38;refine HRT.o.mono ?_;rintro e z ⟨rfl,hb⟩;have HBY:=I hb;clear hb)|(go_at_call 37;refine(zv 2 _).mono ?_;rintro e z ⟨rfl,hzw⟩;rw[hzw];clear hzw z))
    have HESZ:=I ((HES.o.next HBZ.o).next HBY.o)
    refine leaves_cons (f:=36) (args:= #[.pointer (some ⟨w.heap.size+1,0,none⟩),.pointer (some ⟨w.heap.size+1+1,0,none⟩)]) (by simp) (by simp[go_sem]) ?_
    refine(z42 (w.heap.size+1) (w.heap.size+1+1) 2 0 42 [] _ HESZ.o.wv HESZ.o.we (by omega)).mono ?_
    rintro e u' w'' ⟨rfl,rfl,hq,hr,hb⟩
    exact⟨_,z2a rfl _ _ (w.heap.size+1) (w.heap.size+1+1) zV6 2 rfl rfl rfl hq hr,.inr ⟨2,HRES.o,rfl,HESZ.o.bel.trans (hb.below (B:=w.heap.size) HESZ.o.bel.size (by omega) (by omega))⟩⟩
end
section
open Go Go.RowKit
def EvC (r:Res) (w:World) (e:Ending) (w':World):Prop:=
 ∃ cs,e= .returned (.tuple #[.agg ⟨cs⟩,.int .i64 (resV r).2])/\Kept (fun b=>w.heap.size<=b) w' cs (resV r).1/\(∀ v,r= .ok v->zl v= true)/\Below w.heap.size w w'
theorem ev_c {r:Res} {w:World} {e:Ending} {w':World} (h:EvTop r w e w'):EvC r w e w':=by
 rcases h with ⟨v,cs,rfl,rfl,h1,h2,h3⟩|⟨n,rfl,rfl,h3⟩
 ·exact⟨cs,rfl,h1,fun u hu=>by injection hu with hu;subst hu;exact h2,h3⟩
 ·exact⟨zV6,rfl,ValAt.of (zI 0 (by decide +kernel)) (zI 0 (by decide +kernel)) (by decide +kernel) (Nat.zero_le _) (SlAt.nil _ _ _ _) (Nat.zero_le _) (SlAt.nil _ _ _ _),(fun u hu=>by cases hu),h3⟩
theorem zd6 (t:ET) (E:List VarT) (V:List VT) (cs:List Value) (va vb:Value) (w:World) (hx:ExpAt w w.heap.size cs t) (hE:SlAt w w.heap.size 11 (VarAt w w.heap.size) va E) (hV:SlAt w w.heap.size 6 (ValAt w w.heap.size) vb V) (hEl:E.length<=10000) (hVl:V.length<=10000) (htb:TabP w):
  Calls Tryz.prog 13 #[.agg ⟨cs⟩,va,vb] w (EvC (evalT t E V) w):=(zeF t E V cs va vb w hx hE hV hEl hVl htb).mono fun _ _ h=>ev_c h
end
end Go.Proofs.YteolfamhmfidbaaGreatDoor
