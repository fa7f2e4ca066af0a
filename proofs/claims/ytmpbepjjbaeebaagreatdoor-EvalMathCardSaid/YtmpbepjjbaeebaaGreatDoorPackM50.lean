/- Parts of a proof: Flt07. -/
import Derived.OwnWalk
import Derived.Test.YtmpbepjjbaeebaaGreatDoorPackM5
import Derived.Test.YtmpbepjjbaeebaaGreatDoorPackM47
set_option maxHeartbeats 8000000
set_option maxRecDepth 100000
set_option linter.unusedVariables false
set_option linter.unusedSimpArgs false
namespace Go.Proofs.YtmpbepjjbaeebaaGreatDoor
open Go Go.RowKit
open Go.Lib (hid)
theorem wput {T:TypeId} {w:World} {b:Nat} {cs:List Value} (h:Whole T w b cs) (i:Nat) (v:Value):Whole T (w.setCell ⟨b,i,none⟩ v) b (cs.set i v):=by
 unfold Whole at h ⊢
 simp[World.setCell,Array.getElem?_modify,h]
theorem wthaw {T:TypeId} {w:World} {b:Nat} {cs:List Value} (h:Whole T w b cs) (i:Nat):w.frozen? ⟨b,i,none⟩= false:=by
 unfold World.frozen?
 have h2:w.heap[b]?= some (.cells cs.toArray T):=h
 simp[h2]
theorem two_tok (w:World) (ca cb:List Value):Whole 156 ((w.alloc (.cells ⟨ca⟩ 156)).alloc (.cells ⟨cb⟩ 156)) w.heap.size ca∧Whole 156 ((w.alloc (.cells ⟨ca⟩ 156)).alloc (.cells ⟨cb⟩ 156)) (w.heap.size+1) cb∧Below w.heap.size w ((w.alloc (.cells ⟨ca⟩ 156)).alloc (.cells ⟨cb⟩ 156)):=by
 have h1:=Whole.new w ca 156
 have h2:=box_below w (.cells ⟨ca⟩ 156)
 have hs:(w.alloc (.cells ⟨ca⟩ 156)).heap.size= w.heap.size+1:=by simp
 generalize w.alloc (.cells ⟨ca⟩ 156)= W1 at*
 have h3:=Whole.new W1 cb 156
 have h4:=box_below W1 (.cells ⟨cb⟩ 156)
 rw[hs] at h3
 exact⟨h1.keep (h4.block _ (by omega)),h3,h2.trans (h4.mono (by omega))⟩
theorem num03_a (w:World):Calls Tryz.prog 221 #[.string ⟨#[48,112,48]⟩] w fun e w'=>e= .returned (.tuple #[.int .u64 0,.int .i64 1,.string ⟨#[112,48]⟩])∧Below w.heap.size w w':=by
 have hsl:∀ W,(Instr.sliceAt 9 (.string ⟨#[48,112,48]⟩) (some (.int .i64 1)) none none).run Tryz.prog W= .ok (.string ⟨#[112,48]⟩) W:=fun W=>by kernel_rfl
 go_enter Tryz.func221,Tryz.ntmps221
 go_upto_region 3 with (fail)
 go_loopg [5,6] 1 (fun q x y u=>u= w∧x= .int .u64 0∧((q= 1∧y= .int .i64 0)∨(q= 0∧y= .int .i64 1)))
 case atStart=>exact⟨rfl,rfl,.inl ⟨rfl,rfl⟩⟩
 case round=>
  obtain⟨rfl,rfl,⟨rfl,rfl⟩|⟨rfl,rfl⟩⟩:=hrel
  ·go_wp2
   go_roundg 0
   case measure=>omega
   case rel=>exact⟨rfl,rfl,.inr ⟨rfl,rfl⟩⟩
  ·go_wp2
   refine wp_region_ord [(0,true),(1,true),(2,true),(3,true),(4,true),(5,true),(6,true),(7,true)] (fun z=>Below wr.heap.size wr z) (by kernel_rfl) (by kernel_rfl) (by kernel_rfl) rfl (by intro c a d v w h;cases d<;>exact h) ?_
   have hs:Below wr.heap.size wr wr.drew:=(Below.refl _ _).drew
   refine ord_move (some 34) (.int .u64 0) _ _ rfl rfl rfl (by first|exact wanted_none rfl|exact wanted_if rfl rfl rfl rfl) hs rfl ?_
   go_frame
   refine ord_move (some 35) (.int .i64 1) _ _ rfl rfl rfl (by first|exact wanted_none rfl|exact wanted_if rfl rfl rfl rfl) hs rfl ?_
   go_frame
   refine ord_move (some 36) (.string ⟨#[48,112,48]⟩) _ _ rfl rfl rfl (by first|exact wanted_none rfl|exact wanted_if rfl rfl rfl rfl) hs rfl ?_
   go_frame
   refine ord_move (some 37) (.int .i64 1) _ _ rfl rfl rfl (by first|exact wanted_none rfl|exact wanted_if rfl rfl rfl rfl) hs rfl ?_
   go_frame
   refine ord_load (some 38) (.string ⟨#[112,48]⟩) _ rfl rfl (by first|exact wanted_none rfl|exact wanted_if rfl rfl rfl rfl) hs (fun z hz=>by go_simp) ?_
   go_frame
   refine ord_assign (some 2) (.int .u64 0) _ _ rfl rfl rfl (by first|exact wanted_none rfl|exact wanted_if rfl rfl rfl rfl) hs rfl ?_
   go_frame
   refine ord_assign (some 3) (.int .i64 1) _ _ rfl rfl rfl (by first|exact wanted_none rfl|exact wanted_if rfl rfl rfl rfl) hs rfl ?_
   go_frame
   refine ord_assign (some 4) (.string ⟨#[112,48]⟩) _ _ rfl rfl rfl (by first|exact wanted_none rfl|exact wanted_if rfl rfl rfl rfl) hs rfl ?_
   go_frame
   refine ord_end ?_
   go_wp2
   (try simp only[Exit.inBlock,Exit.then])
   refine bodyPost_ret (results_tmp3 rfl _ _ _) rfl ?_
   exact⟨rfl,hs⟩
theorem num03_b (w:World):Calls Tryz.prog 221 #[.string ⟨#[48]⟩] w fun e w'=>e= .returned (.tuple #[.int .u64 0,.int .i64 1,.string ⟨#[]⟩])∧Below w.heap.size w w':=by
 have hsl:∀ W,(Instr.sliceAt 9 (.string ⟨#[48]⟩) (some (.int .i64 1)) none none).run Tryz.prog W= .ok (.string ⟨#[]⟩) W:=fun W=>by kernel_rfl
 go_enter Tryz.func221,Tryz.ntmps221
 go_upto_region 3 with (fail)
 go_loopg [5,6] 1 (fun q x y u=>u= w∧x= .int .u64 0∧((q= 1∧y= .int .i64 0)∨(q= 0∧y= .int .i64 1)))
 case atStart=>exact⟨rfl,rfl,.inl ⟨rfl,rfl⟩⟩
 case round=>
  obtain⟨rfl,rfl,⟨rfl,rfl⟩|⟨rfl,rfl⟩⟩:=hrel
  ·go_wp2
   go_roundg 0
   case measure=>omega
   case rel=>exact⟨rfl,rfl,.inr ⟨rfl,rfl⟩⟩
  ·go_wp2
   refine wp_region_ord [(0,true),(1,true),(2,true),(3,true),(4,true),(5,true),(6,true),(7,true)] (fun z=>Below wr.heap.size wr z) (by kernel_rfl) (by kernel_rfl) (by kernel_rfl) rfl (by intro c a d v w h;cases d<;>exact h) ?_
   have hs:Below wr.heap.size wr wr.drew:=(Below.refl _ _).drew
   refine ord_move (some 34) (.int .u64 0) _ _ rfl rfl rfl (by first|exact wanted_none rfl|exact wanted_if rfl rfl rfl rfl) hs rfl ?_
   go_frame
   refine ord_move (some 35) (.int .i64 1) _ _ rfl rfl rfl (by first|exact wanted_none rfl|exact wanted_if rfl rfl rfl rfl) hs rfl ?_
   go_frame
   refine ord_move (some 36) (.string ⟨#[48]⟩) _ _ rfl rfl rfl (by first|exact wanted_none rfl|exact wanted_if rfl rfl rfl rfl) hs rfl ?_
   go_frame
   refine ord_move (some 37) (.int .i64 1) _ _ rfl rfl rfl (by first|exact wanted_none rfl|exact wanted_if rfl rfl rfl rfl) hs rfl ?_
   go_frame
   refine ord_load (some 38) (.string ⟨#[]⟩) _ rfl rfl (by first|exact wanted_none rfl|exact wanted_if rfl rfl rfl rfl) hs (fun z hz=>by go_simp) ?_
   go_frame
   refine ord_assign (some 2) (.int .u64 0) _ _ rfl rfl rfl (by first|exact wanted_none rfl|exact wanted_if rfl rfl rfl rfl) hs rfl ?_
   go_frame
   refine ord_assign (some 3) (.int .i64 1) _ _ rfl rfl rfl (by first|exact wanted_none rfl|exact wanted_if rfl rfl rfl rfl) hs rfl ?_
   go_frame
   refine ord_assign (some 4) (.string ⟨#[]⟩) _ _ rfl rfl rfl (by first|exact wanted_none rfl|exact wanted_if rfl rfl rfl rfl) hs rfl ?_
   go_frame
   refine ord_end ?_
   go_wp2
   (try simp only[Exit.inBlock,Exit.then])
   refine bodyPost_ret (results_tmp3 rfl _ _ _) rfl ?_
   exact⟨rfl,hs⟩
theorem made_zero (w:World):Calls Tryz.prog 165 #[.bool false,.int .u64 0,.int .i64 0] w fun e w'=>e= .returned (.tuple #[.float .f64 0,.int .i64 0])∧w'= w:=by
 have e1:∀ W:World,(callFunc 149 #[.int .u64 0]).run Tryz.prog W= .ok (.value (.float .f64 0)) W:=fun W=>by
  rw[run_callFunc_extern Tryz.func149 (by kernel_rfl) (by kernel_rfl) (by kernel_rfl) (e:=Extern.MathFloatBits.float64frombits) (by kernel_rfl)]
  rfl
 go_enter Tryz.func165,Tryz.ntmps165
 go_upto_region 3 with (fail)
 go_loopg [1,2] 0 (fun q x y u=>u= w∧x= .int .u64 0∧y= .int .i64 0)
 case atStart=>exact⟨rfl,rfl,rfl⟩
 case round=>
  obtain⟨rfl,rfl,rfl⟩:=hrel
  go_wp2
  go_ret2
  exact⟨rfl,rfl⟩
theorem parse03 (w:World):Calls Tryz.prog 203 #[.string ⟨#[48,112,48]⟩] w fun e w'=>e= .returned (.tuple #[.float .f64 0,.int .i64 0])∧Below w.heap.size w w':=by
 have hsl:∀ W,(Instr.sliceAt 9 (.string ⟨#[112,48]⟩) (some (.int .i64 1)) none none).run Tryz.prog W= .ok (.string ⟨#[48]⟩) W:=fun W=>by kernel_rfl
 go_enter Tryz.func203,Tryz.ntmps203
 go_wp2_with (first|(go_at_call 221;first|((with_reducible refine(num03_a _).mono ?_);rintro e z ⟨rfl,hb⟩;have HB1:=hid hb;clear hb)|((with_reducible refine(num03_b _).mono ?_);rintro e z ⟨rfl,hb⟩;have HB2:=hid hb;clear hb))|(go_at_call 165;refine(made_zero _).mono ?_;rintro e z ⟨rfl,hzw⟩;rw[hzw];clear hzw z))
 go_ret2
 exact⟨rfl,HB1.out.trans (HB2.out.mono HB1.out.size)⟩
theorem lxflt_any (s nm:ByteArray) (i m e f:Nat) (him:i < m) (hme:m+1 < e) (he:e≤s.size) (hsz:(s.size:Int)≤2000) (hc:lxcharsIn lxdigC s.data.toList i m) (hp:s.data.toList[m]?= some 112) (hc2:lxcharsIn lxdigC s.data.toList (m+1) e)
  (hs:lxstopAt lxdigC s.data.toList e) (hx:s.extract i e= nm) (hf:(Lit.float .f64 f).wf= true) (HP:∀ w,Calls Tryz.prog 203 #[.string nm] w fun e w'=>e= .returned (.tuple #[.float .f64 f,.int .i64 0])∧Below w.heap.size w w') (w:World):
  Calls Tryz.prog 176 #[.string s,.agg #[.int .i64 1,.int .i64 (i:Nat),.int .i64 (i:Nat),.int .i64 0,.float .f64 0,.string ⟨#[]⟩]] w fun r w'=>
   r= .returned (.tuple #[.agg #[.int .i64 3,.int .i64 (i:Nat),.int .i64 (e:Nat),.int .i64 0,.float .f64 f,.string ⟨#[]⟩],.int .i64 0])∧Below w.heap.size w w':=by
 have hm112:lxstopAt lxdigC s.data.toList m:=fun c h=>by rw[hp] at h;injection h with h;subst h;decide
 have HR1:=hid (fun w=>lxrun_any s i m (by omega) (by omega) hsz hc hm112 w)
 have HR2:=hid (fun w=>lxrun_any s (m+1) e (by omega) he hsz hc2 hs w)
 obtain⟨c3,hc3,hd3⟩:=hc2 (m+1) (Nat.le_refl _) (by omega)
 have dk:=fun h=>lbyte_at (k:=m) (c:=112) hp h
 have dk3:=fun h=>lbyte_at (k:=m+1) (c:=c3) hc3 h
 have h45:((c3.toNat:Int) ==45)= false:=by have:=digC_iff hd3;simp;omega
 have hl1:(m:Int) <(s.size:Int):=by omega
 have hl2:((m:Int)+1) <(s.size:Int):=by omega
 have hne:((e:Int) ==(m:Int)+1)= false:=by simp;omega
 have hne2: ¬ ((e:Int)=(m:Int)+1):=by omega
 have hsl:∀ W,(Instr.sliceAt 9 (.string s) (some (.int .i64 (i:Nat))) (some (.int .i64 (e:Nat))) none).run Tryz.prog W= .ok (.string nm) W:=fun W=>str_slice s nm i e (by omega) he hx W
 have hsf:∀ (W:World) (a:Addr) (f:Nat),(store a (.float .f64 f)).run Tryz.prog W= stored Tryz.prog W a (.float .f64 f) .plain:=fun W a f=>run_store _ _ _ _ _ rfl
 clear hc hp hc2 hs hx hm112 hc3 hd3
 go_enter Tryz.func176,Tryz.ntmps176
 go_upto_region 2 with (go_at_call 202;refine(HR1.out _).mono ?_;rintro r z ⟨rfl,rfl⟩)
 go_upto_region 7 with (go_at_call 202;refine(HR2.out _).mono ?_;rintro r z ⟨rfl,rfl⟩)
 go_upto_region 9 with (fail)
 have HW:=hid (two_tok w [.int .i64 1,.int .i64 (i:Nat),.int .i64 (e:Nat),.int .i64 0,.float .f64 0,.string ⟨#[]⟩] [.int .i64 0,.int .i64 0,.int .i64 0,.int .i64 0,.float .f64 0,.string ⟨#[]⟩])
 generalize (w.alloc (.cells #[.int .i64 1,.int .i64 (i:Nat),.int .i64 (e:Nat),.int .i64 0,.float .f64 0,.string ⟨#[]⟩] 156)).alloc (.cells #[.int .i64 0,.int .i64 0,.int .i64 0,.int .i64 0,.float .f64 0,.string ⟨#[]⟩] 156)= V at*
 have c1:V.cell? ⟨w.heap.size,1,none⟩= some (.int .i64 (i:Nat)):=HW.out.1.cells 1 rfl
 have c2:V.cell? ⟨w.heap.size,2,none⟩= some (.int .i64 (e:Nat)):=HW.out.1.cells 2 rfl
 have HPP:=hid (HP V)
 clear HP
 go_upto_region 10 with (go_at_call 203;refine HPP.out.mono ?_;rintro e2 z ⟨rfl,hb⟩;have HBZ:=hid hb;clear hb)
 have HZ1:=hid (HW.out.1.keep (HBZ.out.block _ HW.out.1.lt))
 have HZ2:=hid (HW.out.2.1.keep (HBZ.out.block _ HW.out.2.1.lt))
 have HBW:=hid (HW.out.2.2.trans (HBZ.out.mono HW.out.2.2.size))
 clear c1 c2
 have d0:z.cell? ⟨w.heap.size,0,none⟩= some (.int .i64 1):=HZ1.out.cells 0 rfl
 have d4:z.cell? ⟨w.heap.size,4,none⟩= some (.float .f64 0):=HZ1.out.cells 4 rfl
 have f0:z.frozen? ⟨w.heap.size,0,none⟩= false:=wthaw HZ1.out 0
 have f4:z.frozen? ⟨w.heap.size,4,none⟩= false:=wthaw HZ1.out 4
 go_upto_region 12 with (fail)
 have HN1:Hid (Whole 156 ((z.setCell ⟨w.heap.size,0,none⟩ (.int .i64 3)).setCell ⟨w.heap.size,4,none⟩ (.float .f64 f)) w.heap.size [.int .i64 3,.int .i64 (i:Nat),.int .i64 (e:Nat),.int .i64 0,.float .f64 f,.string ⟨#[]⟩]):=hid (wput (wput HZ1.out 0 (.int .i64 3)) 4 (.float .f64 f))
 have HN2:Hid (Whole 156 ((z.setCell ⟨w.heap.size,0,none⟩ (.int .i64 3)).setCell ⟨w.heap.size,4,none⟩ (.float .f64 f)) (w.heap.size+1) [.int .i64 0,.int .i64 0,.int .i64 0,.int .i64 0,.float .f64 0,.string ⟨#[]⟩]):=hid ((HZ2.out.keep (Below.heap_setCell z ⟨w.heap.size,0,none⟩ _ _ (by show w.heap.size+1≠w.heap.size;omega))).keep (Below.heap_setCell _ ⟨w.heap.size,4,none⟩ _ _ (by show w.heap.size+1≠w.heap.size;omega)))
 have HNB:Hid (Below w.heap.size w ((z.setCell ⟨w.heap.size,0,none⟩ (.int .i64 3)).setCell ⟨w.heap.size,4,none⟩ (.float .f64 f))):=hid (below_sets (vs:=[.float .f64 f]) (below_sets (vs:=[.int .i64 3]) HBW.out (Nat.le_refl _) 0) (Nat.le_refl _) 4)
 generalize (z.setCell ⟨w.heap.size,0,none⟩ (.int .i64 3)).setCell ⟨w.heap.size,4,none⟩ (.float .f64 f)= V2 at*
 clear d0 d4 f0 f4
 have HRG:=hid HN1.out.range
 go_wp2_with (first|((with_reducible refine wl_sload 156 _ rfl ?hwl w.heap.size 0 [.int .i64 3,.int .i64 (i:Nat),.int .i64 (e:Nat),.int .i64 0,.float .f64 f,.string ⟨#[]⟩] _ ?hl6 HRG.out Tryz.underlying156 rfl ?hl8 ?_);(case hwl=>(first|exact wanted_none rfl|exact wanted_if rfl rfl rfl rfl));(case hl6=>rfl);(case hl8=>kernel_rfl))|((with_reducible refine wl_wstore 156 _ _ rfl rfl ?hwe (w.heap.size+1) [.int .i64 0,.int .i64 0,.int .i64 0,.int .i64 0,.float .f64 0,.string ⟨#[]⟩] [.int .i64 3,.int .i64 (i:Nat),.int .i64 (e:Nat),.int .i64 0,.float .f64 f,.string ⟨#[]⟩] HN2.out ?ht5 ?ht6 ?ht7 ?ht8 ?ht9 ?_);(case hwe=>(first|exact wanted_none rfl|exact wanted_if rfl rfl rfl rfl));(case ht5=>rfl);(case ht6=>rfl);(case ht7=>rfl);(case ht8=>kernel_rfl);(case ht9=>exact tok_one ⟨3,i,e,0,f,⟨#[]⟩⟩);intro Z2 hz hb;have HT4:=hid hz;have HTB:=hid hb;clear hz hb))
 (try simp only[Exit.inBlock,Exit.then])
 refine bodyPost_ret (lxresults_tok2 rfl _ _ (w.heap.size+1) #[.int .i64 3,.int .i64 (i:Nat),.int .i64 (e:Nat),.int .i64 0,.float .f64 f,.string ⟨#[]⟩] rfl (.int .i64 0) rfl HT4.out rfl) rfl ?_
 exact⟨rfl,HNB.out.trans (HTB.out.below (B:=w.heap.size) HNB.out.size (by omega) (by omega))⟩
def fltB (s nm:ByteArray) (p i m e:Nat):Bool:=decide (p≤i) && (decide (i < m) && (decide (m+1 < e) && (decide (e≤s.size) && (decide ((s.size:Int)≤2000) && (chrB lxblaC s.data.toList p i && (isC (fun c=> !lxblaC c && lxdigC c) s.data.toList i && (chrB lxdigC s.data.toList i m &&
 ((s.data.toList[m]? ==some 112) && (chrB lxdigC s.data.toList (m+1) e && (stopB lxdigC s.data.toList e && ((s.extract i e).data.toList ==nm.data.toList)))))))))))
theorem tok_flt (s nm:ByteArray) (p i m e f:Nat) (h:fltB s nm p i m e= true) (hf:(Lit.float .f64 f).wf= true) (HP:∀ w,Calls Tryz.prog 203 #[.string nm] w fun e w'=>e= .returned (.tuple #[.float .f64 f,.int .i64 0])∧Below w.heap.size w w'):NextC s p i ⟨3,i,e,0,f,⟨#[]⟩⟩:=by
 unfold fltB at h
 simp only[Bool.and_eq_true,decide_eq_true_eq,beq_iff_eq] at h
 obtain⟨h1,h2,h3,h4,h5,h6,h7,h8,h9,h10,h11,h12⟩:=h
 obtain⟨c,hc,hc2⟩:=isC_at h7
 rw[Bool.and_eq_true] at hc2
 exact next_num s p i c _ h1 (by omega) h5 (chrB_in h6) hc (by simpa using hc2.1) hc2.2 fun w=>lxflt_any s nm i m e f h2 h3 h4 h5 (chrB_in h8) h9 (chrB_in h10) (stopB_at h11) (ba_ext h12) hf HP w
end Go.Proofs.YtmpbepjjbaeebaaGreatDoor
