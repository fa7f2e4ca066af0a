/- Parts of a proof: Awake10, Awk10, Law10G. -/
import Derived.Deep.DeepCutAuto
import Derived.Test.YtmpbepjjbaeebaaGreatDoorPackC5
import Derived.Test.YtmpbepjjbaeebaaGreatDoorPackC7
import Derived.Test.YtmpbepjjbaeebaaGreatDoorPackC12
import Derived.Test.YtmpbepjjbaeebaaGreatDoorPackC30
import Derived.Test.YtmpbepjjbaeebaaGreatDoorPackC44
import Derived.Test.YtmpbepjjbaeebaaGreatDoorPackC47
set_option maxHeartbeats 8000000
set_option maxRecDepth 100000
set_option linter.unusedVariables false
set_option linter.unusedSimpArgs false
namespace Go.Proofs.YtmpbepjjbaeebaaGreatDoor
section
open Go Go.RowKit
def EvC (r:Res) (w:World) (e:Ending) (w':World):Prop:=
 ∃ cs,e= .returned (.tuple #[.agg ⟨cs⟩,.int .i64 (resV r).2])/\Kept (fun b=>w.heap.size<=b) w' cs (resV r).1/\(∀ v,r= .ok v->zj v= true)/\Below w.heap.size w w'
theorem ev_c {r:Res} {w:World} {e:Ending} {w':World} (h:EvTop r w e w'):EvC r w e w':=by
 rcases h with ⟨v,cs,rfl,rfl,h1,h2,h3⟩|⟨n,rfl,rfl,h3⟩
 ·exact⟨cs,rfl,h1,fun u hu=>by injection hu with hu;subst hu;exact h2,h3⟩
 ·exact⟨zV6,rfl,ValAt.of (zr 0 (by decide +kernel)) (zr 0 (by decide +kernel)) (by decide +kernel) (Nat.zero_le _) (SlAt.nil _ _ _ _) (Nat.zero_le _) (SlAt.nil _ _ _ _),(fun u hu=>by cases hu),h3⟩
theorem z7r (t:ET) (E:List VarT) (V:List VT) (cs:List Value) (va vb:Value) (w:World) (hx:ExpAt w w.heap.size cs t) (hE:SlAt w w.heap.size 11 (VarAt w w.heap.size) va E) (hV:SlAt w w.heap.size 6 (ValAt w w.heap.size) vb V) (hEl:E.length<=10000) (hVl:V.length<=10000) (htb:TabP w):
  Calls Tryz.prog 14 #[.agg ⟨cs⟩,va,vb] w (EvC (evalT t E V) w):=(zc7 t E V cs va vb w hx hE hV hEl hVl htb).mono fun _ _ h=>ev_c h
theorem z7g {α:Type} {w:World} {B k b:Nat} {R:List Value->α->Prop} {x:α} {cs:List Value} (hl:cs.length= k) (hr:w.rangeAt b 0 cs) (h:R cs x) (hb:b < B):SlAt w B k R (.slice (some ⟨b,0,none⟩) 1 1) [x]:=
 ⟨by show 1<=_;decide,_,_,rfl,fun _=>⟨b,0,rfl,hb,fun i y hy=>by
  have hi:=(List.getElem?_eq_some_iff.1 hy).1
  simp only[List.length_singleton] at hi
  have:i= 0:=by omega
  subst this
  obtain rfl:x= y:=by simpa using hy
  exact⟨cs,hl,by rw[Nat.zero_mul];exact hr,h⟩⟩⟩
theorem z89 (w:World) (B:Nat):ValAt w B zV6 v0:=ValAt.of (zr 0 (by decide +kernel)) (zr 0 (by decide +kernel)) (by decide +kernel) (Nat.zero_le _) (SlAt.nil _ _ _ _) (Nat.zero_le _) (SlAt.nil _ _ _ _)
def nmV (s:ByteArray):VarT:=⟨s,0,.mk 0 [] [],v0⟩
def nmVC (s:ByteArray):List Value:=[.string s,.int .i64 0,.int .i64 0,.slice none 0 0,.slice none 0 0,.int .i64 0,.int .i64 0,.float .f64 0,.string ⟨#[]⟩,.slice none 0 0,.slice none 0 0]
theorem zeD (s:ByteArray) (hs:s.size<=maxLen) (w:World) (B:Nat):VarAt w B (nmVC s) (nmV s):=
 ⟨⟨[.int .i64 0,.slice none 0 0,.slice none 0 0],zV6,rfl,rfl,rfl,TypAt.of (zr 0 (by decide +kernel)) (SlAt.nil _ _ _ _) (Nat.zero_le _) (SlAt.nil _ _ _ _),z89 w B⟩,hs,zr 0 (by decide +kernel)⟩
def intVC (n:Int):List Value:=[.int .i64 2,.int .i64 n,.float .f64 0,.string ⟨#[]⟩,.slice none 0 0,.slice none 0 0]
theorem zdU (n:Int) (hn:wfI n) (w:World) (B:Nat):ValAt w B (intVC n) (.mk 2 n 0 ⟨#[]⟩ [] []):=ValAt.of (zr 2 (by decide +kernel)) hn (by decide +kernel) (Nat.zero_le _) (SlAt.nil _ _ _ _) (Nat.zero_le _) (SlAt.nil _ _ _ _)
theorem zaI:(Tryz.prog.info? 47).map (fun i=>(i.zero,i.size,i.bytes))= some (some (.agg (nmVC ⟨#[]⟩).toArray),11,168):=by kernel_rfl
theorem z33 {fn:Func} {p u:Tmp} (h:fn.results= #[.cell p 26,.tmp u]) (tmps:Array Value) (w:World) (g:Nat) (cs:List Value) (hl:cs.length= 6) (x:Value)
  (hp:tmps.getD p undef= .pointer (some ⟨g,0,none⟩)) (hm:Whole 26 w g cs) (hu:tmps.getD u undef= x):(results fn tmps).run Tryz.prog w= .ok (.tuple #[.agg ⟨cs⟩,x]) w:=by
 have hp':tmps[p]?.getD undef= .pointer (some ⟨g,0,none⟩):=by simpa using hp
 have hu':tmps[u]?.getD undef= x:=by simpa using hu
 have hl:=run_loadVar_mid (P:=Tryz.prog) w g 0 26 cs _ hm.range Tryz.underlying26 rfl (by rw[hl];kernel_rfl)
 simp[results,h,hp',hu',asAddr,hl]
def xE:List VarT:=[nmV ⟨#[120]⟩]
def sevE:List VT:=[.mk 2 7 0 ⟨#[]⟩ [] []]
def z1H (s:ByteArray) (r:VT × Int):Prop:=∀ w,TabP w->Calls Tryz.prog 34 #[.string s] w fun e w'=>∃ cs,e= .returned (.tuple #[.agg ⟨cs⟩,.int .i64 r.2])/\ValAt w' w'.heap.size cs r.1/\Below w.heap.size w w'
theorem z2i (s:ByteArray) (t:ET) (hp:∀ w,Calls Tryz.prog 57 #[.string s] w fun e w'=>∃ cs,e= .returned (.tuple #[.agg ⟨cs⟩,.int .i64 0,.int .i64 0])/\KeptP (fun b=>w.heap.size<=b) w' cs t/\Below w.heap.size w w'):z1H s (resV (evalT t xE sevE)):=fun w htb=>by
 have HP:=I hp
 have HTB:=I htb
 obtain⟨j1,hi,hz0,hz1,hz2⟩:=z0b zaI
 have HI1:=I hi
 have HZ1:=I hz0
 have HS1:=I hz1
 clear hi hz0 hz1 hz2
 obtain⟨j2,hi,hz0,hz1,hz2⟩:=z0b z0K
 have HI2:=I hi
 have HZ2:=I hz0
 have HS2:=I hz1
 clear hi hz0 hz1 hz2 hp htb
 go_enter Tryz.func34,Tryz.ntmps34
 go_upto_region 1 with (fail)
 have HB0:=I (ze w (.cells zV6.toArray 26))
 have HW0:=I (Whole.new w zV6 26)
 rw[zv]
 generalize w.alloc (.cells zV6.toArray 26)= W at*
 have HPW:=I (HP.out W)
 go_upto_region 2 with (first|(go_at_call 57;refine HPW.out.mono ?_;rintro e z ⟨cs,rfl,hv,hb⟩;have HKL:=I (eslen hv.exp);have HON:=I hv.exp.one;have HV:=I hv;have HB1:=I hb;clear hv hb)|((with_reducible refine z09 29 _ _ rfl ?hwx z ?zz cs ?hwld ?hz ?hx ?hy ?hi ?h1 ?_);(case hwld=>rfl);(case hx=>rfl);(case hy=>rfl);(case hwx=>(exact wantA rfl));(case hz=>rw[HKL.out];rfl);(case hi=>rw[HKL.out];kernel_rfl);(case h1=>exact HON.out);intro Z hZ;have HX:=I hZ;clear hZ))
 have HRZ:=I HX.out.range
 have HBZ:Hid (Below w.heap.size w Z):=I ((HB0.out.trans (HB1.out.mono HB0.out.size)).trans (HX.out.below.mono (Nat.le_trans HB0.out.size HB1.out.size)))
 have HW1:Hid (Whole 26 Z w.heap.size zV6):=I ((HW0.out.keep (HB1.out.block _ HW0.out.lt)).keep (HX.out.below.block _ (Nat.lt_of_lt_of_le HW0.out.lt HB1.out.size)))
 have hb1:=ze Z (.cells (nmVC ⟨#[120]⟩).toArray 47)
 have hw1:=Whole.new Z (nmVC ⟨#[120]⟩) 47
 have hs1:(Z.alloc (.cells (nmVC ⟨#[120]⟩).toArray 47)).heap.size= Z.heap.size+1:=by simp
 have hb2:=ze (Z.alloc (.cells (nmVC ⟨#[120]⟩).toArray 47)) (.cells (intVC 7).toArray 26)
 have hw2:=Whole.new (Z.alloc (.cells (nmVC ⟨#[120]⟩).toArray 47)) (intVC 7) 26
 have hs2:((Z.alloc (.cells (nmVC ⟨#[120]⟩).toArray 47)).alloc (.cells (intVC 7).toArray 26)).heap.size= Z.heap.size+1+1:=by simp
 have hb12:Below Z.heap.size Z _:=hb1.trans (hb2.mono (by omega))
 rw[hs1] at hw2
 have hv1:=hw1.keep (hb2.block _ (by omega))
 have HB12:=I hb12
 have HXT:Hid (ExpAt Z Z.heap.size cs t):=I ((HV.out.to (q:=fun _=>True) (fun b _ hlt=>⟨trivial,HX.out.below.block b hlt⟩) HX.out.below.size).exp)
 have HEV:=I (z7r t xE sevE cs (.slice (some ⟨Z.heap.size,0,none⟩) 1 1) (.slice (some ⟨Z.heap.size+1,0,none⟩) 1 1) _ ((HXT.out.under hb12).more hb12.size)
  (z7g rfl hv1.range (zeD ⟨#[120]⟩ (by decide +kernel) _ _) (by omega)) (z7g rfl hw2.range (zdU 7 (zr 7 (by decide +kernel)) _ _) (by omega)) (by decide) (by decide) (HTB.out.next (HBZ.out.trans (hb12.mono HBZ.out.size))))
 clear hb1 hw1 hs1 hb2 hw2 hs2 hb12 hv1
 go_wp2_with (first|((with_reducible refine zc 29 _ rfl ?hwa z.heap.size 0 cs _ rfl HRZ.out Tryz.underlying29 rfl ?hia ?_);(case hwa=>(exact wantA rfl));(case hia=>rw[HKL.out];kernel_rfl))|((with_reducible refine z1R 30 _ rfl ?hw1 47 j1 _ (nmVC ⟨#[120]⟩) ?hx1 Tryz.underlying30 HI1.out HZ1.out ?hs1 ?h01 ?hm1 ?_);(case hw1=>(exact wantA rfl));(case hx1=>rfl);(case hs1=>exact HS1.out);(case h01=>decide);(case hm1=>decide))|((with_reducible refine z1R 24 _ rfl ?hw2 26 j2 _ (intVC 7) ?hx2 Tryz.underlying24 HI2.out HZ2.out ?hs2 ?h02 ?hm2 ?_);(case hw2=>(exact wantA rfl));(case hx2=>rfl);(case hs2=>exact HS2.out);(case h02=>decide);(case hm2=>decide))|(go_at_call 14;refine HEV.out.mono ?_;rintro e y ⟨cs',rfl,hk,hr,hb⟩;have HCL:=I (zi hk.val).1;have HOV:=I (zi hk.val).2;have HK:=I hk;have HBY:=I (HB12.out.trans (hb.mono HB12.out.size));have HWY:=I (HW1.out.keep (HBY.out.block _ HW1.out.lt));clear hk hr hb)|((with_reducible refine zh 26 _ _ rfl rfl ?hwh w.heap.size zV6 cs' HWY.out ?hlh ?hxh ?hyh ?hih ?h1h ?_);(case hwh=>(exact wantA rfl));(case hlh=>rw[HCL.out];rfl);(case hxh=>rfl);(case hyh=>rfl);(case hih=>rw[HCL.out];kernel_rfl);(case h1h=>exact HOV.out);intro Z2 hZw hZb;have HZW:=I hZw;have HZB:=I hZb;clear hZw hZb))
 (try simp only[Exit.inBlock,Exit.then])
 refine bodyPost_ret (z33 rfl _ _ w.heap.size cs' HCL.out _ rfl HZW.out rfl) rfl ?_
 have hB:=HBZ.out.trans (HBY.out.mono HBZ.out.size)
 have hlt:=HW1.out.lt
 refine⟨cs',rfl,?_,⟨HZB.out.os.trans hB.os,HZB.out.tape.trans hB.tape,HZB.out.output.trans hB.output,Nat.le_trans hB.size HZB.out.size,fun b hb=>(HZB.out.block b (by have:=hB.size;omega) (by omega) (by omega)).trans (hB.block b hb)⟩⟩
 exact(HK.out.to (q:=fun _=>True) (fun b hp hlt2=>⟨trivial,HZB.out.block b hlt2 (by have h3:=HB12.out.size;have h4:=Nat.le_trans h3 hp;omega) (by have h3:=HB12.out.size;have h4:=Nat.le_trans h3 hp;omega)⟩) HZB.out.size).val
end
section
open Go Go.RowKit
theorem r_sum:resV (evalT z3P xE sevE)=(.mk 1 1 0 ⟨#[]⟩ [] [],0):=by kernel_rfl
theorem zcz:z1H z0v (.mk 1 1 0 ⟨#[]⟩ [] [],0):=by
 have h:=z2i z0v z3P (fun w=>z1j z0v z70 z3P 2 (by decide +kernel) zex (by decide) (by decide) (fun pb tb c=>zdc pb tb c _) (by decide) zeH w)
 rw[r_sum] at h
 exact h
theorem r_nan:resV (evalT z3r xE sevE)=(.mk 1 0 0 ⟨#[]⟩ [] [],0):=by kernel_rfl
theorem zco:z1H z0N (.mk 1 0 0 ⟨#[]⟩ [] [],0):=by
 have h:=z2i z0N z3r (fun w=>z1j z0N z8a z3r 2 (by decide +kernel) zen (by decide) (by decide) (fun pb tb c=>zdn pb tb c _) (by decide) zeA w)
 rw[r_nan] at h
 exact h
theorem r_big:resV (evalT z3O xE sevE)=(.mk 0 0 0 ⟨#[]⟩ [] [],7):=by kernel_rfl
theorem zci:z1H z1I (.mk 0 0 0 ⟨#[]⟩ [] [],7):=by
 have h:=z2i z1I z3O (fun w=>z1j z1I z6Y z3O 2 (by decide +kernel) ze3 (by decide) (by decide) (fun pb tb c=>zdR pb tb c _) (by decide) ze9 w)
 rw[r_big] at h
 exact h
theorem r_cor:resV (evalT z3A xE sevE)=(.mk 1 1 0 ⟨#[]⟩ [] [],0):=by kernel_rfl
theorem zcA:z1H z17 (.mk 1 1 0 ⟨#[]⟩ [] [],0):=by
 have h:=z2i z17 z3A (fun w=>z1j z17 z80 z3A 2 (by decide +kernel) zey (by decide) (by decide) (fun pb tb c=>zd2 pb tb c _) (by decide) zea w)
 rw[r_cor] at h
 exact h
theorem r_non:resV (evalT z3z xE sevE)=(.mk 0 0 0 ⟨#[]⟩ [] [],11):=by kernel_rfl
theorem zbQ:z1H z1L (.mk 0 0 0 ⟨#[]⟩ [] [],11):=by
 have h:=z2i z1L z3z (fun w=>z1j z1L z7V z3z 2 (by decide +kernel) zeq (by decide) (by decide) (fun pb tb c=>zdz pb tb c _) (by decide) zef w)
 rw[r_non] at h
 exact h
theorem r_idx:resV (evalT z40 xE sevE)=(.mk 0 0 0 ⟨#[]⟩ [] [],9):=by kernel_rfl
theorem zbP:z1H z0E (.mk 0 0 0 ⟨#[]⟩ [] [],9):=by
 have h:=z2i z0E z40 (fun w=>z1j z0E z7h z40 4 (by decide +kernel) zeb (by decide) (by decide) (fun pb tb c=>zdN pb tb c _) (by decide) zeJ w)
 rw[r_idx] at h
 exact h
theorem z1s {s:ByteArray} {k n:Int} {e:Int} (h:z1H s (.mk k n 0 ⟨#[]⟩ [] [],e)) (w:World) (htb:TabP w):Calls Tryz.prog 34 #[.string s] w fun r w'=>∃ vn vi,vn.oneCell'= true/\vi.oneCell'= true/\r= .returned (.tuple #[.agg #[.int .i64 k,.int .i64 n,.float .f64 0,.string ⟨#[]⟩,vn,vi],.int .i64 e])/\Below w.heap.size w w':=
 (h w htb).mono fun r w' ⟨cs,h1,h2,h3⟩=>by
  obtain⟨vn,vi,rfl,_,_,_,_,h4,_,h5⟩:=h2.inv
  exact⟨vn,vi,h4.one,h5.one,h1,h3⟩
theorem z2c {k n:Int} {vn vi:Value} (h1:vn.oneCell'= true) (h2:vi.oneCell'= true):∀ v∈[Value.int .i64 k,.int .i64 n,.float .f64 0,.string ⟨#[]⟩,vn,vi],v.oneCell'= true:=by
 intro v hv
 simp only[List.mem_cons,List.not_mem_nil,or_false] at hv
 rcases hv with rfl|rfl|rfl|rfl|rfl|rfl<;>first|rfl|exact h1|exact h2
theorem z4d (w:World) (htb:TabP w):Calls Tryz.prog 10 #[] w fun e w'=>e= .returned (.bool true)/\Below w.heap.size w w':=by
 have HTB:=I htb
 have HB0:Hid (Below w.heap.size w w):=I (Below.refl _ w)
 clear htb
 go_enter Tryz.func10,Tryz.ntmps10
 go_upto_region 1 with (fail)
 have HT1:=I (z1s zcz w (HTB.out.next HB0.out))
 go_upto_region 2 with (first|(go_at_call 34;refine HT1.out.mono ?_;rintro e z1 ⟨vn1,vi1,hn1,hi1,rfl,hb1⟩;have HN1:=I hn1;have HI1:=I hi1;have HC1:=I hb1;clear hn1 hi1 hb1)|((with_reducible refine z09 26 _ _ rfl ?hwx z1 ?zz [.int .i64 1,.int .i64 1,.float .f64 0,.string ⟨#[]⟩,vn1,vi1] ?hwld ?hz ?hx ?hy ?hi ?h1 ?_);(case hwld=>rfl);(case hx=>rfl);(case hy=>rfl);(case hwx=>(exact wantA rfl));(case hz=>rfl);(case hi=>kernel_rfl);(case h1=>exact z2c HN1.out HI1.out);intro Z1 hZ;have HX1:=I hZ;clear hZ))
 have HB1:Hid (Below w.heap.size w Z1):=I (HB0.out.trans ((HC1.out.trans (HX1.out.below.mono HC1.out.size)).mono HB0.out.size))
 have HL1:Hid (z1.heap.size < Z1.heap.size):=I HX1.out.size
 have HT2:=I (z1s zco Z1 (HTB.out.next HB1.out))
 go_upto_region 3 with (first|(go_at_call 34;refine HT2.out.mono ?_;rintro e z2 ⟨vn2,vi2,hn2,hi2,rfl,hb2⟩;have HN2:=I hn2;have HI2:=I hi2;have HC2:=I hb2;clear hn2 hi2 hb2)|((with_reducible refine z09 26 _ _ rfl ?hwx z2 ?zz [.int .i64 1,.int .i64 0,.float .f64 0,.string ⟨#[]⟩,vn2,vi2] ?hwld ?hz ?hx ?hy ?hi ?h1 ?_);(case hwld=>rfl);(case hx=>rfl);(case hy=>rfl);(case hwx=>(exact wantA rfl));(case hz=>rfl);(case hi=>kernel_rfl);(case h1=>exact z2c HN2.out HI2.out);intro Z2 hZ;have HX2:=I hZ;clear hZ))
 have HB2:Hid (Below w.heap.size w Z2):=I (HB1.out.trans ((HC2.out.trans (HX2.out.below.mono HC2.out.size)).mono HB1.out.size))
 have HL2:Hid (z2.heap.size < Z2.heap.size):=I HX2.out.size
 have HT3:=I (z1s zci Z2 (HTB.out.next HB2.out))
 go_upto_region 4 with (first|(go_at_call 34;refine HT3.out.mono ?_;rintro e z3 ⟨vn3,vi3,hn3,hi3,rfl,hb3⟩;have HN3:=I hn3;have HI3:=I hi3;have HC3:=I hb3;clear hn3 hi3 hb3)|((with_reducible refine z09 26 _ _ rfl ?hwx z3 ?zz [.int .i64 0,.int .i64 0,.float .f64 0,.string ⟨#[]⟩,vn3,vi3] ?hwld ?hz ?hx ?hy ?hi ?h1 ?_);(case hwld=>rfl);(case hx=>rfl);(case hy=>rfl);(case hwx=>(exact wantA rfl));(case hz=>rfl);(case hi=>kernel_rfl);(case h1=>exact z2c HN3.out HI3.out);intro Z3 hZ;have HX3:=I hZ;clear hZ))
 have HB3:Hid (Below w.heap.size w Z3):=I (HB2.out.trans ((HC3.out.trans (HX3.out.below.mono HC3.out.size)).mono HB2.out.size))
 have HL3:Hid (z3.heap.size < Z3.heap.size):=I HX3.out.size
 have HT4:=I (z1s zcA Z3 (HTB.out.next HB3.out))
 go_upto_region 5 with (first|(go_at_call 34;refine HT4.out.mono ?_;rintro e z4 ⟨vn4,vi4,hn4,hi4,rfl,hb4⟩;have HN4:=I hn4;have HI4:=I hi4;have HC4:=I hb4;clear hn4 hi4 hb4)|((with_reducible refine z09 26 _ _ rfl ?hwx z4 ?zz [.int .i64 1,.int .i64 1,.float .f64 0,.string ⟨#[]⟩,vn4,vi4] ?hwld ?hz ?hx ?hy ?hi ?h1 ?_);(case hwld=>rfl);(case hx=>rfl);(case hy=>rfl);(case hwx=>(exact wantA rfl));(case hz=>rfl);(case hi=>kernel_rfl);(case h1=>exact z2c HN4.out HI4.out);intro Z4 hZ;have HX4:=I hZ;clear hZ))
 have HB4:Hid (Below w.heap.size w Z4):=I (HB3.out.trans ((HC4.out.trans (HX4.out.below.mono HC4.out.size)).mono HB3.out.size))
 have HL4:Hid (z4.heap.size < Z4.heap.size):=I HX4.out.size
 have HT5:=I (z1s zbQ Z4 (HTB.out.next HB4.out))
 go_upto_region 6 with (first|(go_at_call 34;refine HT5.out.mono ?_;rintro e z5 ⟨vn5,vi5,hn5,hi5,rfl,hb5⟩;have HN5:=I hn5;have HI5:=I hi5;have HC5:=I hb5;clear hn5 hi5 hb5)|((with_reducible refine z09 26 _ _ rfl ?hwx z5 ?zz [.int .i64 0,.int .i64 0,.float .f64 0,.string ⟨#[]⟩,vn5,vi5] ?hwld ?hz ?hx ?hy ?hi ?h1 ?_);(case hwld=>rfl);(case hx=>rfl);(case hy=>rfl);(case hwx=>(exact wantA rfl));(case hz=>rfl);(case hi=>kernel_rfl);(case h1=>exact z2c HN5.out HI5.out);intro Z5 hZ;have HX5:=I hZ;clear hZ))
 have HB5:Hid (Below w.heap.size w Z5):=I (HB4.out.trans ((HC5.out.trans (HX5.out.below.mono HC5.out.size)).mono HB4.out.size))
 have HL5:Hid (z5.heap.size < Z5.heap.size):=I HX5.out.size
 have HT6:=I (z1s zbP Z5 (HTB.out.next HB5.out))
 go_upto_region 7 with (first|(go_at_call 34;refine HT6.out.mono ?_;rintro e z6 ⟨vn6,vi6,hn6,hi6,rfl,hb6⟩;have HN6:=I hn6;have HI6:=I hi6;have HC6:=I hb6;clear hn6 hi6 hb6)|((with_reducible refine z09 26 _ _ rfl ?hwx z6 ?zz [.int .i64 0,.int .i64 0,.float .f64 0,.string ⟨#[]⟩,vn6,vi6] ?hwld ?hz ?hx ?hy ?hi ?h1 ?_);(case hwld=>rfl);(case hx=>rfl);(case hy=>rfl);(case hwx=>(exact wantA rfl));(case hz=>rfl);(case hi=>kernel_rfl);(case h1=>exact z2c HN6.out HI6.out);intro Z6 hZ;have HX6:=I hZ;clear hZ))
 have HB6:Hid (Below w.heap.size w Z6):=I (HB5.out.trans ((HC6.out.trans (HX6.out.below.mono HC6.out.size)).mono HB5.out.size))
 have HL6:Hid (z6.heap.size < Z6.heap.size):=I HX6.out.size
 have HJ1_1:Hid (Below Z1.heap.size Z1 Z1):=I (Below.refl _ _)
 have HJ1_2:Hid (Below Z1.heap.size Z1 Z2):=I (HJ1_1.out.trans ((HC2.out.trans (HX2.out.below.mono HC2.out.size)).mono HJ1_1.out.size))
 have HJ1_3:Hid (Below Z1.heap.size Z1 Z3):=I (HJ1_2.out.trans ((HC3.out.trans (HX3.out.below.mono HC3.out.size)).mono HJ1_2.out.size))
 have HJ1_4:Hid (Below Z1.heap.size Z1 Z4):=I (HJ1_3.out.trans ((HC4.out.trans (HX4.out.below.mono HC4.out.size)).mono HJ1_3.out.size))
 have HJ1_5:Hid (Below Z1.heap.size Z1 Z5):=I (HJ1_4.out.trans ((HC5.out.trans (HX5.out.below.mono HC5.out.size)).mono HJ1_4.out.size))
 have HJ1_6:Hid (Below Z1.heap.size Z1 Z6):=I (HJ1_5.out.trans ((HC6.out.trans (HX6.out.below.mono HC6.out.size)).mono HJ1_5.out.size))
 have c10:=(HJ1_6.out.cell (p:=⟨z1.heap.size,0,none⟩) HL1.out).trans (HX1.out.range 0 _ rfl)
 have c11:=(HJ1_6.out.cell (p:=⟨z1.heap.size,0+1,none⟩) HL1.out).trans (HX1.out.range 1 _ rfl)
 rw[Nat.zero_add] at c11
 have HJ2_2:Hid (Below Z2.heap.size Z2 Z2):=I (Below.refl _ _)
 have HJ2_3:Hid (Below Z2.heap.size Z2 Z3):=I (HJ2_2.out.trans ((HC3.out.trans (HX3.out.below.mono HC3.out.size)).mono HJ2_2.out.size))
 have HJ2_4:Hid (Below Z2.heap.size Z2 Z4):=I (HJ2_3.out.trans ((HC4.out.trans (HX4.out.below.mono HC4.out.size)).mono HJ2_3.out.size))
 have HJ2_5:Hid (Below Z2.heap.size Z2 Z5):=I (HJ2_4.out.trans ((HC5.out.trans (HX5.out.below.mono HC5.out.size)).mono HJ2_4.out.size))
 have HJ2_6:Hid (Below Z2.heap.size Z2 Z6):=I (HJ2_5.out.trans ((HC6.out.trans (HX6.out.below.mono HC6.out.size)).mono HJ2_5.out.size))
 have c20:=(HJ2_6.out.cell (p:=⟨z2.heap.size,0,none⟩) HL2.out).trans (HX2.out.range 0 _ rfl)
 have c21:=(HJ2_6.out.cell (p:=⟨z2.heap.size,0+1,none⟩) HL2.out).trans (HX2.out.range 1 _ rfl)
 rw[Nat.zero_add] at c21
 have HJ4_4:Hid (Below Z4.heap.size Z4 Z4):=I (Below.refl _ _)
 have HJ4_5:Hid (Below Z4.heap.size Z4 Z5):=I (HJ4_4.out.trans ((HC5.out.trans (HX5.out.below.mono HC5.out.size)).mono HJ4_4.out.size))
 have HJ4_6:Hid (Below Z4.heap.size Z4 Z6):=I (HJ4_5.out.trans ((HC6.out.trans (HX6.out.below.mono HC6.out.size)).mono HJ4_5.out.size))
 have c40:=(HJ4_6.out.cell (p:=⟨z4.heap.size,0,none⟩) HL4.out).trans (HX4.out.range 0 _ rfl)
 have c41:=(HJ4_6.out.cell (p:=⟨z4.heap.size,0+1,none⟩) HL4.out).trans (HX4.out.range 1 _ rfl)
 rw[Nat.zero_add] at c41
 go_wp2
 go_ret
 exact⟨rfl,HB6.out⟩
end
section
open Go Go.RowKit
structure InitInv (TV:TypeId) (W u:World) (v:Value) (E:List VarT) (j:Nat) (KL:List zK):Prop where
 own:OwnSl TV 6 enc6 u W.heap.size v KL
 len:KL.length= j
 bel:Below W.heap.size W u
 els:∀ (i:Nat) k x,KL[i]?= some k->E[i]?= some x->ValAt W W.heap.size k.1 x.init
theorem InitInv.start (TV:TypeId) (W:World) (E:List VarT):InitInv TV W W (.slice none 0 0) E 0 []:=⟨OwnSl.nil _ _,rfl,Below.refl _ _,fun i k x hk _=>by cases hk⟩
theorem InitInv.next {TV:TypeId} {W u u7 u8:World} {v v':Value} {E:List VarT} {j:Nat} {KL:List zK} (h:InitInv TV W u v E j KL) (hb:Below u.heap.size u u7) {k:zK} {x:VarT} (hx:E[j]?= some x)
  (hk:ValAt W W.heap.size k.1 x.init) (hown:OwnSl TV 6 enc6 u8 W.heap.size v' (KL ++ [k])) (hg:u7.grownBy u8 v.ownBlock):InitInv TV W u8 v' E (j+1) (KL ++ [k]):=by
 refine⟨hown,by rw[List.length_append,h.len];rfl,?_,fun i k' y hk' hy=> ?_⟩
 ·exact(h.bel.trans (hb.mono h.bel.size)).grown hg (Nat.le_trans h.bel.size hb.size) fun b hb=>h.own.block hb
 ·rcases Nat.lt_or_ge i KL.length with hi|hi
  ·rw[List.getElem?_append_left hi] at hk'
   exact h.els i k' y hk' hy
  ·rw[List.getElem?_append_right hi] at hk'
   have hi2:i= KL.length:=by
    have:=(List.getElem?_eq_some_iff.1 hk').1
    simp only[List.length_singleton] at this
    omega
   subst hi2
   rw[Nat.sub_self] at hk'
   injection hk' with hk'
   subst hk'
   rw[h.len,hx] at hy
   injection hy with hy
   subst hy
   exact hk
theorem InitInv.row {TV:TypeId} {W u z:World} {v:Value} {E:List VarT} {KL:List zK} (h:InitInv TV W u v E E.length KL) (hl:E.length<=9223372036854775807) (hz:Below u.heap.size u z):SlAt z z.heap.size 6 (ValAt z z.heap.size) v (E.map VarT.init):=by
 have hWz:=h.bel.trans (hz.mono h.bel.size)
 refine⟨by rw[List.length_map];exact hl,?_⟩
 rw[List.length_map]
 rcases h.own.2 with ⟨rfl,h0⟩|⟨g,cap,cur,hv,hg,_,_⟩
 ·rw[h.len] at h0
  exact⟨none,0,by rw[← h0],fun h1=>by omega⟩
 ·refine⟨some ⟨g,0,none⟩,cap,by rw[hv,h.len],fun _=> ?_⟩
  have hown:v.ownBlock= some g:=by rw[hv];rfl
  have hlt:=z1p h.own hown
  refine⟨g,0,rfl,Nat.lt_of_lt_of_le hlt hz.size,fun i x hx=> ?_⟩
  rw[List.getElem?_map] at hx
  cases hy:E[i]? with
  |none=>rw[hy] at hx;cases hx
  |some y=>
   rw[hy] at hx
   injection hx with hx
   subst hx
   have hi:=(List.getElem?_eq_some_iff.1 hy).1
   have hki:KL[i]?= some (KL[i]'(by rw[h.len];exact hi)):=List.getElem?_eq_getElem _
   refine⟨_,(KL[i]'(by rw[h.len];exact hi)).2,fun j c hc=> ?_,((h.els i _ y hki hy).under hWz).more hWz.size⟩
   refine(hz.cell (p:=⟨g,_,none⟩) hlt).trans ?_
   have:=World.ownsRow.cells h.own hown (i*6+j) c (z11 z0o KL i _ hki j c hc)
   rw[Addr.add_mid] at this
   rw[show 0+i*6+j= 0+ (i*6+j) by omega];exact this
end
end Go.Proofs.YtmpbepjjbaeebaaGreatDoor
