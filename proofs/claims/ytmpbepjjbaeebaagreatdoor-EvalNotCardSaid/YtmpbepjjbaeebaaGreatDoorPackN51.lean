/- Parts of a proof: Awake10, Awk10, Law10K. -/
import Derived.Deep.DeepCutAuto
import Derived.Test.YtmpbepjjbaeebaaGreatDoorPackN6
import Derived.Test.YtmpbepjjbaeebaaGreatDoorPackN30
import Derived.Test.YtmpbepjjbaeebaaGreatDoorPackN44
import Derived.Test.YtmpbepjjbaeebaaGreatDoorPackN50
set_option maxHeartbeats 8000000
set_option maxRecDepth 100000
set_option linter.unusedVariables false
set_option linter.unusedSimpArgs false
section
namespace Go.Proofs.YtmpbepjjbaeebaaGreatDoor
open Go Go.RowKit
open Go.Lib (hid)
def EvC (r:Res) (w:World) (e:Ending) (w':World):Prop:=
 ∃ cs,e= .returned (.tuple #[.agg ⟨cs⟩,.int .i64 (resV r).2])∧Kept (fun b=>w.heap.size≤b) w' cs (resV r).1∧(∀ v,r= .ok v→zi v= true)∧Below w.heap.size w w'
theorem ev_c {r:Res} {w:World} {e:Ending} {w':World} (h:EvTop r w e w'):EvC r w e w':=by
 rcases h with ⟨v,cs,rfl,rfl,h1,h2,h3⟩|⟨n,rfl,rfl,h3⟩
 ·exact⟨cs,rfl,h1,fun u hu=>by injection hu with hu;subst hu;exact h2,h3⟩
 ·exact⟨zV6,rfl,ValAt.of (zl 0 (by decide +kernel)) (zl 0 (by decide +kernel)) (by decide +kernel) (Nat.zero_le _) (SlAt.nil _ _ _ _) (Nat.zero_le _) (SlAt.nil _ _ _ _),(fun u hu=>by cases hu),h3⟩
theorem z0Q (t:ET) (E:List VarT) (V:List VT) (cs:List Value) (va vb:Value) (w:World) (hx:ExpAt w w.heap.size cs t) (hE:SlAt w w.heap.size 11 (VarAt w w.heap.size) va E) (hV:SlAt w w.heap.size 6 (ValAt w w.heap.size) vb V) (hEl:E.length≤10000) (hVl:V.length≤10000) (htb:TabP w):
  Calls Tryz.prog 14 #[.agg ⟨cs⟩,va,vb] w (EvC (evalT t E V) w):=(zcR t E V cs va vb w hx hE hV hEl hVl htb).mono fun _ _ h=>ev_c h
theorem z1o {α:Type} {w:World} {B k b:Nat} {R:List Value→α→Prop} {x:α} {cs:List Value} (hl:cs.length= k) (hr:w.rangeAt b 0 cs) (h:R cs x) (hb:b < B):SlAt w B k R (.slice (some ⟨b,0,none⟩) 1 1) [x]:=
 ⟨by show 1≤_;decide,_,_,rfl,fun _=>⟨b,0,rfl,hb,fun i y hy=>by
  have hi:=(List.getElem?_eq_some_iff.1 hy).1
  simp only[List.length_singleton] at hi
  have:i= 0:=by omega
  subst this
  obtain rfl:x= y:=by simpa using hy
  exact⟨cs,hl,by rw[Nat.zero_mul];exact hr,h⟩⟩⟩
theorem zem (w:World) (B:Nat):ValAt w B zV6 v0:=ValAt.of (zl 0 (by decide +kernel)) (zl 0 (by decide +kernel)) (by decide +kernel) (Nat.zero_le _) (SlAt.nil _ _ _ _) (Nat.zero_le _) (SlAt.nil _ _ _ _)
def nmV (s:ByteArray):VarT:=⟨s,0,.mk 0 [] [],v0⟩
def nmVC (s:ByteArray):List Value:=[.string s,.int .i64 0,.int .i64 0,.slice none 0 0,.slice none 0 0,.int .i64 0,.int .i64 0,.float .f64 0,.string ⟨#[]⟩,.slice none 0 0,.slice none 0 0]
theorem zev (s:ByteArray) (hs:s.size≤maxLen) (w:World) (B:Nat):VarAt w B (nmVC s) (nmV s):=
 ⟨⟨[.int .i64 0,.slice none 0 0,.slice none 0 0],zV6,rfl,rfl,rfl,TypAt.of (zl 0 (by decide +kernel)) (SlAt.nil _ _ _ _) (Nat.zero_le _) (SlAt.nil _ _ _ _),zem w B⟩,hs,zl 0 (by decide +kernel)⟩
def intVC (n:Int):List Value:=[.int .i64 2,.int .i64 n,.float .f64 0,.string ⟨#[]⟩,.slice none 0 0,.slice none 0 0]
theorem ze3 (n:Int) (hn:wfI n) (w:World) (B:Nat):ValAt w B (intVC n) (.mk 2 n 0 ⟨#[]⟩ [] []):=ValAt.of (zl 2 (by decide +kernel)) hn (by decide +kernel) (Nat.zero_le _) (SlAt.nil _ _ _ _) (Nat.zero_le _) (SlAt.nil _ _ _ _)
theorem zaF:(Tryz.prog.info? 47).map (fun i=>(i.zero,i.size,i.bytes))= some (some (.agg (nmVC ⟨#[]⟩).toArray),11,168):=by kernel_rfl
theorem z9D {fn:Func} {p u:Tmp} (h:fn.results= #[.cell p 26,.tmp u]) (tmps:Array Value) (w:World) (g:Nat) (cs:List Value) (hl:cs.length= 6) (x:Value)
  (hp:tmps.getD p undef= .pointer (some ⟨g,0,none⟩)) (hm:Whole 26 w g cs) (hu:tmps.getD u undef= x):(results fn tmps).run Tryz.prog w= .ok (.tuple #[.agg ⟨cs⟩,x]) w:=by
 have hp':tmps[p]?.getD undef= .pointer (some ⟨g,0,none⟩):=by simpa using hp
 have hu':tmps[u]?.getD undef= x:=by simpa using hu
 have hl:=run_loadVar_mid (P:=Tryz.prog) w g 0 26 cs _ hm.range Tryz.underlying26 rfl (by rw[hl];kernel_rfl)
 simp[results,h,hp',hu',asAddr,hl]
def xE:List VarT:=[nmV ⟨#[120]⟩]
def sevE:List VT:=[.mk 2 7 0 ⟨#[]⟩ [] []]
def z1X (s:ByteArray) (r:VT × Int):Prop:=∀ w,TabP w→Calls Tryz.prog 34 #[.string s] w fun e w'=>∃ cs,e= .returned (.tuple #[.agg ⟨cs⟩,.int .i64 r.2])∧ValAt w' w'.heap.size cs r.1∧Below w.heap.size w w'
theorem z2g (s:ByteArray) (t:ET) (hp:∀ w,Calls Tryz.prog 57 #[.string s] w fun e w'=>∃ cs,e= .returned (.tuple #[.agg ⟨cs⟩,.int .i64 0,.int .i64 0])∧KeptP (fun b=>w.heap.size≤b) w' cs t∧Below w.heap.size w w'):z1X s (resV (evalT t xE sevE)):=fun w htb=>by
 have HP:=hid hp
 have HTB:=hid htb
 obtain⟨j1,hi,hz0,hz1,hz2⟩:=z0a zaF
 have HI1:=hid hi
 have HZ1:=hid hz0
 have HS1:=hid hz1
 clear hi hz0 hz1 hz2
 obtain⟨j2,hi,hz0,hz1,hz2⟩:=z0a z0O
 have HI2:=hid hi
 have HZ2:=hid hz0
 have HS2:=hid hz1
 clear hi hz0 hz1 hz2 hp htb
 go_enter Tryz.func34,Tryz.ntmps34
 go_upto_region 1 with (fail)
 have HB0:=hid (zc w (.cells zV6.toArray 26))
 have HW0:=hid (Whole.new w zV6 26)
 rw[zq]
 generalize w.alloc (.cells zV6.toArray 26)= W at*
 have HPW:=hid (HP.out W)
 go_upto_region 2 with (first|(go_at_call 57;refine HPW.out.mono ?_;rintro e z ⟨cs,rfl,hv,hb⟩;have HKL:=hid (eslen hv.exp);have HON:=hid hv.exp.one;have HV:=hid hv;have HB1:=hid hb;clear hv hb)|((with_reducible refine zR 29 _ _ rfl ?hwx z ?zz cs ?hwld ?hz ?hx ?hy ?hi ?h1 ?_);(case hwld=>rfl);(case hx=>rfl);(case hy=>rfl);(case hwx=>(exact wantA rfl));(case hz=>rw[HKL.out];rfl);(case hi=>rw[HKL.out];kernel_rfl);(case h1=>exact HON.out);intro Z hZ;have HX:=hid hZ;clear hZ))
 have HRZ:=hid HX.out.range
 have HBZ:Hid (Below w.heap.size w Z):=hid ((HB0.out.trans (HB1.out.mono HB0.out.size)).trans (HX.out.below.mono (Nat.le_trans HB0.out.size HB1.out.size)))
 have HW1:Hid (Whole 26 Z w.heap.size zV6):=hid ((HW0.out.keep (HB1.out.block _ HW0.out.lt)).keep (HX.out.below.block _ (Nat.lt_of_lt_of_le HW0.out.lt HB1.out.size)))
 have hb1:=zc Z (.cells (nmVC ⟨#[120]⟩).toArray 47)
 have hw1:=Whole.new Z (nmVC ⟨#[120]⟩) 47
 have hs1:(Z.alloc (.cells (nmVC ⟨#[120]⟩).toArray 47)).heap.size= Z.heap.size+1:=by simp
 have hb2:=zc (Z.alloc (.cells (nmVC ⟨#[120]⟩).toArray 47)) (.cells (intVC 7).toArray 26)
 have hw2:=Whole.new (Z.alloc (.cells (nmVC ⟨#[120]⟩).toArray 47)) (intVC 7) 26
 have hs2:((Z.alloc (.cells (nmVC ⟨#[120]⟩).toArray 47)).alloc (.cells (intVC 7).toArray 26)).heap.size= Z.heap.size+1+1:=by simp
 have hb12:Below Z.heap.size Z _:=hb1.trans (hb2.mono (by omega))
 rw[hs1] at hw2
 have hv1:=hw1.keep (hb2.block _ (by omega))
 have HB12:=hid hb12
 have HXT:Hid (ExpAt Z Z.heap.size cs t):=hid ((HV.out.to (q:=fun _=>True) (fun b _ hlt=>⟨trivial,HX.out.below.block b hlt⟩) HX.out.below.size).exp)
 have HEV:=hid (z0Q t xE sevE cs (.slice (some ⟨Z.heap.size,0,none⟩) 1 1) (.slice (some ⟨Z.heap.size+1,0,none⟩) 1 1) _ ((HXT.out.under hb12).more hb12.size)
  (z1o rfl hv1.range (zev ⟨#[120]⟩ (by decide +kernel) _ _) (by omega)) (z1o rfl hw2.range (ze3 7 (zl 7 (by decide +kernel)) _ _) (by omega)) (by decide) (by decide) (HTB.out.next (HBZ.out.trans (hb12.mono HBZ.out.size))))
 clear hb1 hw1 hs1 hb2 hw2 hs2 hb12 hv1
 go_wp2_with (first|((with_reducible refine z8 29 _ rfl ?hwa z.heap.size 0 cs _ rfl HRZ.out Tryz.underlying29 rfl ?hia ?_);(case hwa=>(exact wantA rfl));(case hia=>rw[HKL.out];kernel_rfl))|((with_reducible refine z0o 30 _ rfl ?hw1 47 j1 _ (nmVC ⟨#[120]⟩) ?hx1 Tryz.underlying30 HI1.out HZ1.out ?hs1 ?h01 ?hm1 ?_);(case hw1=>(exact wantA rfl));(case hx1=>rfl);(case hs1=>exact HS1.out);(case h01=>decide);(case hm1=>decide))|((with_reducible refine z0o 24 _ rfl ?hw2 26 j2 _ (intVC 7) ?hx2 Tryz.underlying24 HI2.out HZ2.out ?hs2 ?h02 ?hm2 ?_);(case hw2=>(exact wantA rfl));(case hx2=>rfl);(case hs2=>exact HS2.out);(case h02=>decide);(case hm2=>decide))|(go_at_call 14;refine HEV.out.mono ?_;rintro e y ⟨cs',rfl,hk,hr,hb⟩;have HCL:=hid (ze hk.val).1;have HOV:=hid (ze hk.val).2;have HK:=hid hk;have HBY:=hid (HB12.out.trans (hb.mono HB12.out.size));have HWY:=hid (HW1.out.keep (HBY.out.block _ HW1.out.lt));clear hk hr hb)|((with_reducible refine zh 26 _ _ rfl rfl ?hwh w.heap.size zV6 cs' HWY.out ?hlh ?hxh ?hyh ?hih ?h1h ?_);(case hwh=>(exact wantA rfl));(case hlh=>rw[HCL.out];rfl);(case hxh=>rfl);(case hyh=>rfl);(case hih=>rw[HCL.out];kernel_rfl);(case h1h=>exact HOV.out);intro Z2 hZw hZb;have HZW:=hid hZw;have HZB:=hid hZb;clear hZw hZb))
 (try simp only[Exit.inBlock,Exit.then])
 refine bodyPost_ret (z9D rfl _ _ w.heap.size cs' HCL.out _ rfl HZW.out rfl) rfl ?_
 have hB:=HBZ.out.trans (HBY.out.mono HBZ.out.size)
 have hlt:=HW1.out.lt
 refine⟨cs',rfl,?_,⟨HZB.out.os.trans hB.os,HZB.out.tape.trans hB.tape,HZB.out.output.trans hB.output,Nat.le_trans hB.size HZB.out.size,fun b hb=>(HZB.out.block b (by have:=hB.size;omega) (by omega) (by omega)).trans (hB.block b hb)⟩⟩
 exact(HK.out.to (q:=fun _=>True) (fun b hp hlt2=>⟨trivial,HZB.out.block b hlt2 (by have h3:=HB12.out.size;have h4:=Nat.le_trans h3 hp;omega) (by have h3:=HB12.out.size;have h4:=Nat.le_trans h3 hp;omega)⟩) HZB.out.size).val
end Go.Proofs.YtmpbepjjbaeebaaGreatDoor
end
section
namespace Go.Proofs.YtmpbepjjbaeebaaGreatDoor
open Go Go.RowKit
open Go.Lib (hid)
theorem r_sum:resV (evalT z3K xE sevE)=(.mk 1 1 0 ⟨#[]⟩ [] [],0):=by kernel_rfl
theorem zcA:z1X z0v (.mk 1 1 0 ⟨#[]⟩ [] [],0):=by
 have h:=z2g z0v z3K (fun w=>z1t z0v z7e z3K 2 (by decide +kernel) zeH (by decide) (by decide) (fun pb tb c=>zdM pb tb c _) (by decide) zej w)
 rw[r_sum] at h
 exact h
theorem r_nan:resV (evalT z3X xE sevE)=(.mk 1 0 0 ⟨#[]⟩ [] [],0):=by kernel_rfl
theorem zc0:z1X z0R (.mk 1 0 0 ⟨#[]⟩ [] [],0):=by
 have h:=z2g z0R z3X (fun w=>z1t z0R z8g z3X 2 (by decide +kernel) zeP (by decide) (by decide) (fun pb tb c=>zdg pb tb c _) (by decide) zeL w)
 rw[r_nan] at h
 exact h
theorem r_big:resV (evalT z3W xE sevE)=(.mk 0 0 0 ⟨#[]⟩ [] [],7):=by kernel_rfl
theorem zcf:z1X z1Y (.mk 0 0 0 ⟨#[]⟩ [] [],7):=by
 have h:=z2g z1Y z3W (fun w=>z1t z1Y z8c z3W 2 (by decide +kernel) zek (by decide) (by decide) (fun pb tb c=>zdP pb tb c _) (by decide) zeI w)
 rw[r_big] at h
 exact h
theorem r_cor:resV (evalT z3S xE sevE)=(.mk 1 1 0 ⟨#[]⟩ [] [],0):=by kernel_rfl
theorem zbS:z1X z1g (.mk 1 1 0 ⟨#[]⟩ [] [],0):=by
 have h:=z2g z1g z3S (fun w=>z1t z1g z83 z3S 2 (by decide +kernel) ze5 (by decide) (by decide) (fun pb tb c=>zds pb tb c _) (by decide) zeC w)
 rw[r_cor] at h
 exact h
theorem r_non:resV (evalT z3H xE sevE)=(.mk 0 0 0 ⟨#[]⟩ [] [],11):=by kernel_rfl
theorem zcG:z1X z1L (.mk 0 0 0 ⟨#[]⟩ [] [],11):=by
 have h:=z2g z1L z3H (fun w=>z1t z1L z7F z3H 2 (by decide +kernel) zeu (by decide) (by decide) (fun pb tb c=>zdk pb tb c _) (by decide) ze6 w)
 rw[r_non] at h
 exact h
theorem r_idx:resV (evalT z3C xE sevE)=(.mk 0 0 0 ⟨#[]⟩ [] [],9):=by kernel_rfl
theorem zcj:z1X z0L (.mk 0 0 0 ⟨#[]⟩ [] [],9):=by
 have h:=z2g z0L z3C (fun w=>z1t z0L z7c z3C 4 (by decide +kernel) zet (by decide) (by decide) (fun pb tb c=>zd7 pb tb c _) (by decide) zey w)
 rw[r_idx] at h
 exact h
theorem z1F {s:ByteArray} {k n:Int} {e:Int} (h:z1X s (.mk k n 0 ⟨#[]⟩ [] [],e)) (w:World) (htb:TabP w):Calls Tryz.prog 34 #[.string s] w fun r w'=>∃ vn vi,vn.oneCell'= true∧vi.oneCell'= true∧r= .returned (.tuple #[.agg #[.int .i64 k,.int .i64 n,.float .f64 0,.string ⟨#[]⟩,vn,vi],.int .i64 e])∧Below w.heap.size w w':=
 (h w htb).mono fun r w' ⟨cs,h1,h2,h3⟩=>by
  obtain⟨vn,vi,rfl,_,_,_,_,h4,_,h5⟩:=h2.inv
  exact⟨vn,vi,h4.one,h5.one,h1,h3⟩
theorem z2f {k n:Int} {vn vi:Value} (h1:vn.oneCell'= true) (h2:vi.oneCell'= true):∀ v∈[Value.int .i64 k,.int .i64 n,.float .f64 0,.string ⟨#[]⟩,vn,vi],v.oneCell'= true:=by
 intro v hv
 simp only[List.mem_cons,List.not_mem_nil,or_false] at hv
 rcases hv with rfl|rfl|rfl|rfl|rfl|rfl<;>first|rfl|exact h1|exact h2
theorem z0M (w:World) (htb:TabP w):Calls Tryz.prog 10 #[] w fun e w'=>e= .returned (.bool true)∧Below w.heap.size w w':=by
 have HTB:=hid htb
 have HB0:Hid (Below w.heap.size w w):=hid (Below.refl _ w)
 clear htb
 go_enter Tryz.func10,Tryz.ntmps10
 go_upto_region 1 with (fail)
 have HT1:=hid (z1F zcA w (HTB.out.next HB0.out))
 go_upto_region 2 with (first|(go_at_call 34;refine HT1.out.mono ?_;rintro e z1 ⟨vn1,vi1,hn1,hi1,rfl,hb1⟩;have HN1:=hid hn1;have HI1:=hid hi1;have HC1:=hid hb1;clear hn1 hi1 hb1)|((with_reducible refine zR 26 _ _ rfl ?hwx z1 ?zz [.int .i64 1,.int .i64 1,.float .f64 0,.string ⟨#[]⟩,vn1,vi1] ?hwld ?hz ?hx ?hy ?hi ?h1 ?_);(case hwld=>rfl);(case hx=>rfl);(case hy=>rfl);(case hwx=>(exact wantA rfl));(case hz=>rfl);(case hi=>kernel_rfl);(case h1=>exact z2f HN1.out HI1.out);intro Z1 hZ;have HX1:=hid hZ;clear hZ))
 have HB1:Hid (Below w.heap.size w Z1):=hid (HB0.out.trans ((HC1.out.trans (HX1.out.below.mono HC1.out.size)).mono HB0.out.size))
 have HL1:Hid (z1.heap.size < Z1.heap.size):=hid HX1.out.size
 have HT2:=hid (z1F zc0 Z1 (HTB.out.next HB1.out))
 go_upto_region 3 with (first|(go_at_call 34;refine HT2.out.mono ?_;rintro e z2 ⟨vn2,vi2,hn2,hi2,rfl,hb2⟩;have HN2:=hid hn2;have HI2:=hid hi2;have HC2:=hid hb2;clear hn2 hi2 hb2)|((with_reducible refine zR 26 _ _ rfl ?hwx z2 ?zz [.int .i64 1,.int .i64 0,.float .f64 0,.string ⟨#[]⟩,vn2,vi2] ?hwld ?hz ?hx ?hy ?hi ?h1 ?_);(case hwld=>rfl);(case hx=>rfl);(case hy=>rfl);(case hwx=>(exact wantA rfl));(case hz=>rfl);(case hi=>kernel_rfl);(case h1=>exact z2f HN2.out HI2.out);intro Z2 hZ;have HX2:=hid hZ;clear hZ))
 have HB2:Hid (Below w.heap.size w Z2):=hid (HB1.out.trans ((HC2.out.trans (HX2.out.below.mono HC2.out.size)).mono HB1.out.size))
 have HL2:Hid (z2.heap.size < Z2.heap.size):=hid HX2.out.size
 have HT3:=hid (z1F zcf Z2 (HTB.out.next HB2.out))
 go_upto_region 4 with (first|(go_at_call 34;refine HT3.out.mono ?_;rintro e z3 ⟨vn3,vi3,hn3,hi3,rfl,hb3⟩;have HN3:=hid hn3;have HI3:=hid hi3;have HC3:=hid hb3;clear hn3 hi3 hb3)|((with_reducible refine zR 26 _ _ rfl ?hwx z3 ?zz [.int .i64 0,.int .i64 0,.float .f64 0,.string ⟨#[]⟩,vn3,vi3] ?hwld ?hz ?hx ?hy ?hi ?h1 ?_);(case hwld=>rfl);(case hx=>rfl);(case hy=>rfl);(case hwx=>(exact wantA rfl));(case hz=>rfl);(case hi=>kernel_rfl);(case h1=>exact z2f HN3.out HI3.out);intro Z3 hZ;have HX3:=hid hZ;clear hZ))
 have HB3:Hid (Below w.heap.size w Z3):=hid (HB2.out.trans ((HC3.out.trans (HX3.out.below.mono HC3.out.size)).mono HB2.out.size))
 have HL3:Hid (z3.heap.size < Z3.heap.size):=hid HX3.out.size
 have HT4:=hid (z1F zbS Z3 (HTB.out.next HB3.out))
 go_upto_region 5 with (first|(go_at_call 34;refine HT4.out.mono ?_;rintro e z4 ⟨vn4,vi4,hn4,hi4,rfl,hb4⟩;have HN4:=hid hn4;have HI4:=hid hi4;have HC4:=hid hb4;clear hn4 hi4 hb4)|((with_reducible refine zR 26 _ _ rfl ?hwx z4 ?zz [.int .i64 1,.int .i64 1,.float .f64 0,.string ⟨#[]⟩,vn4,vi4] ?hwld ?hz ?hx ?hy ?hi ?h1 ?_);(case hwld=>rfl);(case hx=>rfl);(case hy=>rfl);(case hwx=>(exact wantA rfl));(case hz=>rfl);(case hi=>kernel_rfl);(case h1=>exact z2f HN4.out HI4.out);intro Z4 hZ;have HX4:=hid hZ;clear hZ))
 have HB4:Hid (Below w.heap.size w Z4):=hid (HB3.out.trans ((HC4.out.trans (HX4.out.below.mono HC4.out.size)).mono HB3.out.size))
 have HL4:Hid (z4.heap.size < Z4.heap.size):=hid HX4.out.size
 have HT5:=hid (z1F zcG Z4 (HTB.out.next HB4.out))
 go_upto_region 6 with (first|(go_at_call 34;refine HT5.out.mono ?_;rintro e z5 ⟨vn5,vi5,hn5,hi5,rfl,hb5⟩;have HN5:=hid hn5;have HI5:=hid hi5;have HC5:=hid hb5;clear hn5 hi5 hb5)|((with_reducible refine zR 26 _ _ rfl ?hwx z5 ?zz [.int .i64 0,.int .i64 0,.float .f64 0,.string ⟨#[]⟩,vn5,vi5] ?hwld ?hz ?hx ?hy ?hi ?h1 ?_);(case hwld=>rfl);(case hx=>rfl);(case hy=>rfl);(case hwx=>(exact wantA rfl));(case hz=>rfl);(case hi=>kernel_rfl);(case h1=>exact z2f HN5.out HI5.out);intro Z5 hZ;have HX5:=hid hZ;clear hZ))
 have HB5:Hid (Below w.heap.size w Z5):=hid (HB4.out.trans ((HC5.out.trans (HX5.out.below.mono HC5.out.size)).mono HB4.out.size))
 have HL5:Hid (z5.heap.size < Z5.heap.size):=hid HX5.out.size
 have HT6:=hid (z1F zcj Z5 (HTB.out.next HB5.out))
 go_upto_region 7 with (first|(go_at_call 34;refine HT6.out.mono ?_;rintro e z6 ⟨vn6,vi6,hn6,hi6,rfl,hb6⟩;have HN6:=hid hn6;have HI6:=hid hi6;have HC6:=hid hb6;clear hn6 hi6 hb6)|((with_reducible refine zR 26 _ _ rfl ?hwx z6 ?zz [.int .i64 0,.int .i64 0,.float .f64 0,.string ⟨#[]⟩,vn6,vi6] ?hwld ?hz ?hx ?hy ?hi ?h1 ?_);(case hwld=>rfl);(case hx=>rfl);(case hy=>rfl);(case hwx=>(exact wantA rfl));(case hz=>rfl);(case hi=>kernel_rfl);(case h1=>exact z2f HN6.out HI6.out);intro Z6 hZ;have HX6:=hid hZ;clear hZ))
 have HB6:Hid (Below w.heap.size w Z6):=hid (HB5.out.trans ((HC6.out.trans (HX6.out.below.mono HC6.out.size)).mono HB5.out.size))
 have HL6:Hid (z6.heap.size < Z6.heap.size):=hid HX6.out.size
 have HJ1_1:Hid (Below Z1.heap.size Z1 Z1):=hid (Below.refl _ _)
 have HJ1_2:Hid (Below Z1.heap.size Z1 Z2):=hid (HJ1_1.out.trans ((HC2.out.trans (HX2.out.below.mono HC2.out.size)).mono HJ1_1.out.size))
 have HJ1_3:Hid (Below Z1.heap.size Z1 Z3):=hid (HJ1_2.out.trans ((HC3.out.trans (HX3.out.below.mono HC3.out.size)).mono HJ1_2.out.size))
 have HJ1_4:Hid (Below Z1.heap.size Z1 Z4):=hid (HJ1_3.out.trans ((HC4.out.trans (HX4.out.below.mono HC4.out.size)).mono HJ1_3.out.size))
 have HJ1_5:Hid (Below Z1.heap.size Z1 Z5):=hid (HJ1_4.out.trans ((HC5.out.trans (HX5.out.below.mono HC5.out.size)).mono HJ1_4.out.size))
 have HJ1_6:Hid (Below Z1.heap.size Z1 Z6):=hid (HJ1_5.out.trans ((HC6.out.trans (HX6.out.below.mono HC6.out.size)).mono HJ1_5.out.size))
 have c10:=(HJ1_6.out.cell (p:=⟨z1.heap.size,0,none⟩) HL1.out).trans (HX1.out.range 0 _ rfl)
 have c11:=(HJ1_6.out.cell (p:=⟨z1.heap.size,0+1,none⟩) HL1.out).trans (HX1.out.range 1 _ rfl)
 rw[Nat.zero_add] at c11
 have HJ2_2:Hid (Below Z2.heap.size Z2 Z2):=hid (Below.refl _ _)
 have HJ2_3:Hid (Below Z2.heap.size Z2 Z3):=hid (HJ2_2.out.trans ((HC3.out.trans (HX3.out.below.mono HC3.out.size)).mono HJ2_2.out.size))
 have HJ2_4:Hid (Below Z2.heap.size Z2 Z4):=hid (HJ2_3.out.trans ((HC4.out.trans (HX4.out.below.mono HC4.out.size)).mono HJ2_3.out.size))
 have HJ2_5:Hid (Below Z2.heap.size Z2 Z5):=hid (HJ2_4.out.trans ((HC5.out.trans (HX5.out.below.mono HC5.out.size)).mono HJ2_4.out.size))
 have HJ2_6:Hid (Below Z2.heap.size Z2 Z6):=hid (HJ2_5.out.trans ((HC6.out.trans (HX6.out.below.mono HC6.out.size)).mono HJ2_5.out.size))
 have c20:=(HJ2_6.out.cell (p:=⟨z2.heap.size,0,none⟩) HL2.out).trans (HX2.out.range 0 _ rfl)
 have c21:=(HJ2_6.out.cell (p:=⟨z2.heap.size,0+1,none⟩) HL2.out).trans (HX2.out.range 1 _ rfl)
 rw[Nat.zero_add] at c21
 have HJ4_4:Hid (Below Z4.heap.size Z4 Z4):=hid (Below.refl _ _)
 have HJ4_5:Hid (Below Z4.heap.size Z4 Z5):=hid (HJ4_4.out.trans ((HC5.out.trans (HX5.out.below.mono HC5.out.size)).mono HJ4_4.out.size))
 have HJ4_6:Hid (Below Z4.heap.size Z4 Z6):=hid (HJ4_5.out.trans ((HC6.out.trans (HX6.out.below.mono HC6.out.size)).mono HJ4_5.out.size))
 have c40:=(HJ4_6.out.cell (p:=⟨z4.heap.size,0,none⟩) HL4.out).trans (HX4.out.range 0 _ rfl)
 have c41:=(HJ4_6.out.cell (p:=⟨z4.heap.size,0+1,none⟩) HL4.out).trans (HX4.out.range 1 _ rfl)
 rw[Nat.zero_add] at c41
 go_wp2
 go_ret
 exact⟨rfl,HB6.out⟩
end Go.Proofs.YtmpbepjjbaeebaaGreatDoor
end
section
namespace Go.Proofs.YtmpbepjjbaeebaaGreatDoor
open Go Go.RowKit
open Go.Lib (hid)
section
variable {P:Program} {ops:Array Oper} {S:World→Prop} {Q:Exit→Act→World→Prop} {i:Nat} {r:List (Nat × Bool)} {a:Act} {w:World}
theorem z9Q {f:FuncId} {fn:Func} (hf:P.funcs[f]?= some fn) (hn:(fn.name == "runtime.NumGoroutine")= false) (hb:fn.body.isNone= false) (x:Operand)
  (o:Oper) (args:Array Operand) (ts:Array TypeId) (ho:o.op= .call { callee:= .value x,args:=args,argTypes:=ts }) (hx:a.eval x= a.eval (.func f)):(execOp a.eval o).run P w= .ok (.enter f (args.map a.eval)) w:=by
 unfold execOp
 simp only[ho]
 have hx2:a.eval x= .func (.func f) #[] #[]:=hx
 simp[resolve,hx2,Deferred.ofValue,invoke,callFunc,hf]
 rw[if_neg (by simpa using hn),if_neg (by intro h;rw[h] at hb;cases hb)]
variable {t u:OrdT} {j:Nat}
theorem z2c (h1:zQ P ops S Q (.act i t) a w) (h2:zQ P ops S Q (.act j u) a w):zQ P ops S Q (.two i j t u) a w:=⟨h1,h2⟩
theorem z0x (d:Option Tmp) (f:FuncId) {fn:Func} (hf:P.funcs[f]?= some fn) (hn:(fn.name == "runtime.NumGoroutine")= false) (hb:fn.body.isNone= false) (vals:List Value) (x:Operand)
  (o:Oper) (args:List Operand) (ts:Array TypeId) (hi:ops[i]?= some o) (ho:o.op= .call { callee:= .value x,args:=args.toArray,argTypes:=ts })
  (hd:o.dst= d) (hw:Region.wanted o (yielded ops a.tmps)= true) (hx:a.eval x= a.eval (.func f)) (hv:args.map a.eval= vals)
  (h:Calls P f vals.toArray w fun e w'=>∃ v,e= .returned v∧S w'∧zQ P ops S Q t (a.put d v) w'):zQ P ops S Q (.act i t) a w:=
 z6F o f vals.toArray hi hw (by rw[← hv,← List.map_toArray];exact z9Q hf hn hb x o args.toArray ts ho hx) (hd▸h)
theorem z1B (d:Option Tmp) (v:Value) (w':World) (o:Oper) (hi:ops[i]?= some o) (hd:o.dst= d) (hw:Region.wanted o (yielded ops a.tmps)= true)
  (hrun:(execOp a.eval o).run P w= .ok (.value v) w') (hS:S w') (h:zQ P ops S Q t (a.put d v) w'):zQ P ops S Q (.act i t) a w:=by
 subst hd
 refine z59 o hi hw fun K hK=> ?_
 unfold Oper.wp
 rw[hrun]
 exact hK _ _ hS h
theorem z0S (d:Option Tmp) (T:TypeId) (o:Oper) (x y:Operand) (hi:ops[i]?= some o) (ho:o.op= .store T x y) (hd:o.dst= d) (hw:Region.wanted o (yielded ops a.tmps)= true) (b:Nat) (cs0 cs:List Value) (hb:Whole T w b cs0) (hl:cs0.length= cs.length)
  (hx:a.eval x= .pointer (some ⟨b,0,none⟩)) (hy:a.eval y= .agg cs.toArray) (hi2:(P.info? T).map (·.size)= some cs.length) (h1:∀ v∈cs,v.oneCell'= true)
  (h:∀ Z,Whole T Z b cs→But w Z b b→S Z∧zQ P ops S Q t (a.put d undef) Z):zQ P ops S Q (.act i t) a w:=by
 subst hd
 refine z59 o hi hw fun K hK=> ?_
 have hz:=h (w.setCells b 0 cs) (z1x b T cs [] cs0 w hb hl) (z3b b cs w 0)
 exact wp_store_mid T x y ho b 0 cs.toArray hx hy (by rw[List.size_toArray,← hl];exact hb.there) (by simpa using hi2) (all_oneCell_toArray h1) (by simpa using hK _ _ hz.1 hz.2)
end
theorem z0g {q:Nat→Prop} {w w':World} {cs:List Value} {t:ET} (h:KeptP q w cs t) (hb:Below w.heap.size w w'):KeptP (fun b=>b≠w.heap.size) w' cs t:=
 h.to (fun b _ hlt=>⟨Nat.ne_of_lt hlt,hb.block b hlt⟩) hb.size
def vnum:VT→Int
 | .mk _ n _ _ _ _=>n
theorem zbq {α:Type} {w:World} {B k b:Nat} {R:List Value→α→Prop} {x y:α} {c1 c2:List Value} (h1:c1.length= k) (h2:c2.length= k) (hr:w.rangeAt b 0 (c1 ++ c2)) (hx:R c1 x) (hy:R c2 y) (hb:b < B):SlAt w B k R (.slice (some ⟨b,0,none⟩) 2 2) [x,y]:=
 ⟨by show 2≤_;decide,_,_,rfl,fun _=>⟨b,0,rfl,hb,fun i z hz=>by
  match i,hz with
  |0,hz=>
   obtain rfl:x= z:=by simpa using hz
   exact⟨c1,h1,fun j v hj=>by
    have:=hr j v (by rw[List.getElem?_append_left (List.getElem?_eq_some_iff.1 hj).1];exact hj)
    rw[show 0+0*k+j= 0+j by omega];exact this,hx⟩
  |1,hz=>
   obtain rfl:y= z:=by simpa using hz
   exact⟨c2,h2,fun j v hj=>by
    have:=hr (c1.length+j) v (by rw[List.getElem?_append_right (by omega),Nat.add_sub_cancel_left];exact hj)
    rw[show 0+1*k+j= 0+ (c1.length+j) by omega];exact this,hy⟩
  |i+2,hz=>simp at hz⟩⟩
theorem zcd (k:Int) (ca cb:List Value) (ha:ca.length= 10) (hb:cb.length= 10) (h1:∀ v∈ca,v.oneCell'= true) (h2:∀ v∈cb,v.oneCell'= true) (w:World):
  Calls Tryz.prog 27 #[.int .i64 k,.agg ⟨ca⟩,.agg ⟨cb⟩] w fun e w'=>∃ g,e= .returned (.agg ⟨twoC k g⟩)∧w.heap.size≤g∧Whole 29 w' g (ca ++ cb)∧Below w.heap.size w w':=by
 obtain⟨i0,hi,hz0,hz1,hz2⟩:=info_parts z2v
 go_enter Tryz.func27,Tryz.ntmps27
 go_upto_region 1 with (fail)
 have HA:=hid ((Whole.new w ca 29).keep (w':=((w.alloc (.cells ⟨ca⟩ 29)).alloc (.cells ⟨cb⟩ 29)).alloc (.cells zEc.toArray 29)) (by rw[Lib.alloc_old _ _ _ (by simp;omega),Lib.alloc_old _ _ _ (by simp)]))
 have HB:=hid ((Whole.new (w.alloc (.cells ⟨ca⟩ 29)) cb 29).keep (w':=((w.alloc (.cells ⟨ca⟩ 29)).alloc (.cells ⟨cb⟩ 29)).alloc (.cells zEc.toArray 29)) (by rw[Lib.alloc_old _ _ _ (by simp)]))
 have HC:=hid (Whole.new ((w.alloc (.cells ⟨ca⟩ 29)).alloc (.cells ⟨cb⟩ 29)) zEc 29)
 have HW:Hid (Below w.heap.size w (((w.alloc (.cells ⟨ca⟩ 29)).alloc (.cells ⟨cb⟩ 29)).alloc (.cells zEc.toArray 29))):=hid ((((Below.refl _ w).alloc (Nat.le_refl _) _).alloc (by simp) _).alloc (by simp;omega) _)
 have HS:Hid ((((w.alloc (.cells ⟨ca⟩ 29)).alloc (.cells ⟨cb⟩ 29)).alloc (.cells zEc.toArray 29)).heap.size= w.heap.size+3):=hid (by simp)
 have e1:(w.alloc (.cells ⟨ca⟩ 29)).heap.size= w.heap.size+1:=by simp
 have e2:((w.alloc (.cells ⟨ca⟩ 29)).alloc (.cells ⟨cb⟩ 29)).heap.size= w.heap.size+1+1:=by simp
 rw[e1] at HB
 rw[e2] at HC
 have hz:(#[Value.int IntKind.i64 0,Value.string { data:= #[] },Value.int IntKind.i64 0,Value.int IntKind.i64 0,Value.float FloatKind.f64 0,Value.string { data:= #[] },Value.slice none 0 0,Value.slice none 0 0,Value.slice none 0 0,Value.slice none 0 0]:Array Value)= zEc.toArray:=rfl
 rw[hz]
 clear hz e1 e2
 generalize ((w.alloc (.cells ⟨ca⟩ 29)).alloc (.cells ⟨cb⟩ 29)).alloc (.cells zEc.toArray 29)= W at*
 obtain⟨p,hp⟩:∃ p,w.heap.size= p:=⟨_,rfl⟩
 rw[hp] at HA HB HC HS
 rw[hp]
 have HP:=hid hp
 clear hp
 have HLA:=hid ha
 have HLB:=hid hb
 have HO1:=hid h1
 have HO2:=hid h2
 clear ha hb h1 h2
 have HG:=hid (Whole.new W (ca ++ cb) 29)
 have HC2:=hid (HC.out.keep (w':=W.alloc (.cells ⟨ca ++ cb⟩ 29)) (Lib.alloc_old _ _ _ HC.out.lt))
 have HW2:Hid (Below w.heap.size w (W.alloc (.cells ⟨ca ++ cb⟩ 29))):=hid (HW.out.alloc HW.out.size _)
 have H2C:Hid (∀ g,(twoC k g).length= 10∧∀ v∈twoC k g,v.oneCell'= true):=hid fun g=>⟨rfl,by intro v hv;simp only[twoC,zVc,List.mem_cons,List.mem_append,List.not_mem_nil,or_false] at hv;rcases hv with rfl|rfl|(rfl|rfl|rfl|rfl|rfl|rfl)|rfl|rfl<;>rfl⟩
 go_wp2_with (first
  |((with_reducible refine z8 29 _ rfl ?hwa p 0 ca _ rfl HA.out.range Tryz.underlying29 rfl ?hia ?_);(case hwa=>exact wantA rfl);(case hia=>rw[HLA.out];kernel_rfl))
  |((with_reducible refine z8 29 _ rfl ?hwb (p+1) 0 cb _ rfl HB.out.range Tryz.underlying29 rfl ?hib ?_);(case hwb=>exact wantA rfl);(case hib=>rw[HLB.out];kernel_rfl))
  |((with_reducible refine z3V _ _ _ rfl ?hwc 29 i0 _ ca cb rfl rfl Tryz.underlying27 hi hz0 ?hs1 ?hs2 ?hs3 ?hs4 ?_);(case hwc=>exact wantA rfl);(case hs1=>rw[hz1,HLA.out]);(case hs2=>rw[HLA.out,HLB.out]);(case hs3=>rw[HLA.out];decide);(case hs4=>rw[HLA.out];decide))
  |((with_reducible refine zh 29 _ _ rfl rfl ?hwd (p+1+1) zEc (twoC k W.heap.size) HC2.out ?hs5 ?hs6 ?hs7 ?hs8 ?hs9 ?_);(case hwd=>exact wantA rfl);(case hs5=>rfl);(case hs6=>rfl);(case hs7=>rfl);(case hs8=>rw[(H2C.out _).1];kernel_rfl);(case hs9=>exact(H2C.out _).2);intro Z hz hb;have HZ:=hid hz;have HZB:=hid hb;clear hz hb))
 (try simp only[Exit.inBlock,Exit.then])
 refine bodyPost_ret (zI rfl _ _ (p+1+1) (twoC k W.heap.size) (H2C.out _).1 rfl HZ.out) rfl ?_
 have hp:=HP.out
 have hs:=HS.out
 refine⟨W.heap.size,rfl,by omega,?_,?_⟩
 ·exact HG.out.keep (HZB.out.block _ (by simp) (by omega) (by omega))
 ·exact HW2.out.trans (HZB.out.below HW2.out.size (by omega) (by omega))
theorem z3z (p:Nat→Prop) (k:Int) (hk:wfI k) (ca cb:List Value) (x y:ET) (w:World) (ha:KeptP p w ca x) (hb:KeptP p w cb y) (hp:∀ b,w.heap.size≤b→p b):
  Calls Tryz.prog 27 #[.int .i64 k,.agg ⟨ca⟩,.agg ⟨cb⟩] w fun e w'=>∃ cs,e= .returned (.agg ⟨cs⟩)∧KeptP p w' cs (twoE k x y)∧Below w.heap.size w w':=
 (zcd k ca cb ha.len hb.len ha.one hb.one w).mono fun e w' ⟨g,he,hg,hw,hbel⟩=>
  ⟨_,he,z0H hk hw (hp g hg) (ha.to (fun b h1 h2=>⟨h1,hbel.block b h2⟩) hbel.size) (hb.to (fun b h1 h2=>⟨h1,hbel.block b h2⟩) hbel.size),hbel⟩
end Go.Proofs.YtmpbepjjbaeebaaGreatDoor
end
