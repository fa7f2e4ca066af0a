/- Parts of a proof: FText, RDig, EConst, EConst2, ERight, INil, RRLeaf. -/
import Derived.Lib.ItoaMem
import Derived.Laws.BytesString
import Derived.Test.YteolfamhmfidbaaGreatDoorPackJ11
import Derived.Test.YteolfamhmfidbaaGreatDoorPackJ13
import Derived.Test.YteolfamhmfidbaaGreatDoorPackJ16
import Derived.Test.YteolfamhmfidbaaGreatDoorPackJ17
import Derived.Test.YteolfamhmfidbaaGreatDoorPackJ18
import Derived.Test.YteolfamhmfidbaaGreatDoorPackJ19
set_option maxHeartbeats 8000000
set_option maxRecDepth 100000
set_option linter.unusedVariables false
set_option linter.unusedSimpArgs false
namespace Go.Proofs.YteolfamhmfidbaaGreatDoor
section
open Go Go.RowKit Go.Sort Go.Lib
def TabP (w:World):Prop:=Lib.TabIs Tryz.prog w "internal/strconv.uint64pow10" .u64 Lib.pow10Tab
theorem z3e (w:World) (k:Nat) (os:Array Obj):Below w.heap.size w (Sort.grow (w.drewN k) os):=by
 have h1:Below w.heap.size w (w.drewN k):=⟨rfl,rfl,rfl,Nat.le_refl _,fun _ _=>rfl⟩
 refine h1.trans ?_
 refine⟨rfl,rfl,rfl,?_,fun i hi=> ?_⟩
 ·show(w.drewN k).heap.size<=((w.drewN k).heap ++ os).size
  rw[Array.size_append];exact Nat.le_add_right _ _
 ·show((w.drewN k).heap ++ os)[i]?=(w.drewN k).heap[i]?
  exact Array.getElem?_append_left hi
theorem zb6 (w:World) (T:TypeId) (nd:Nat) (hs:nd<=24):Holds (fun(b:UInt8)=>Value.int .u8 (b.toNat:Int)) (w.alloc (.cells Lib.zeros24 T)) w.heap.size 0 (Array.replicate nd (0:UInt8)):=fun j hj=>by
 have hj':j < nd:=by simpa using hj
 refine⟨?_,World.frozen?_alloc_new _ _ _ _⟩
 rw[World.cell?_alloc_new,Lib.zeros24_at _ (by omega),getElem!_pos _ j hj]
 simp
theorem zdp (w:World) (o:Obj) (dk:Array UInt8) (k:Nat):∃ os,(Sort.putRow (fun(b:UInt8)=>Value.int .u8 (b.toNat:Int)) (w.alloc o) w.heap.size 0 dk).drewN k= Sort.grow (w.drewN k) os:=by
 rw[alloc_eq_grow]
 obtain⟨os',_,e⟩:=Sort.putRow_grow_new (fun(b:UInt8)=>Value.int .u8 (b.toNat:Int)) w #[o] w.heap.size 0 dk (Nat.le_refl _)
 exact⟨os',by rw[e];rfl⟩
theorem z7C (u:Nat) (hu1:1<=u) (hu64:u < 18446744073709551616) (w:World) (ht:TabP w):Calls Tryz.prog 232 #[.int .u64 u,.int .i64 10] w fun e w'=>e= .returned (.string ⟨(Lib.decDigits u).toArray⟩)/\Below w.heap.size w w':=by
 by_cases hs:u < 100
 ·have HS:=I (fun w=>Tryz.internal_strconv_small u hs w)
  have t1:(u:Int) < 100:=by omega
  have t2:IntKind.i64.wrap (u:Int)= u:=by rw[IntKind.wrap_i64];omega
  clear hs hu64 hu1 ht
  go_enter Tryz.func232,Tryz.ntmps232
  go_wp2_with (go_at_call 224;refine(HS.o _).mono ?_;rintro e z ⟨rfl,rfl⟩)
  go_ret
  exact⟨rfl,Below.refl _ _⟩
 ·have hnd20:Lib.nDigits u<=20:=by have:=Lib.numDigits_eq u hu1 hu64;split at this<;>omega
  have hal:Tryz.prog.arrayLen 248= 24:=by simp[Program.arrayLen,Tryz.underlying248]
  have hsl1:∀ W,(Instr.sliceAt 248 (.pointer (some ⟨w.heap.size,0,none⟩)) none (some (.int .i64 (Lib.nDigits u:Int))) none).run Tryz.prog W= .ok (.slice (some ⟨w.heap.size,0,none⟩) (Lib.nDigits u) 24) W:=fun W=>by
   rw[run_sliceAt_array_h W 248 ⟨w.heap.size,0,none⟩ (by simp[Program.arrayLen,Program.elem,Tryz.underlying248]) .i64 (Lib.nDigits u:Int) (by omega) (by rw[hal];omega)]
   go_simp
  have hH0:=zb6 w 248 (Lib.nDigits u) (by omega)
  have hfmt:=Tryz.internal_strconv_formatBase10 w.heap.size 0 24 u (Array.replicate (Lib.nDigits u) 0) (w.alloc (.cells Lib.zeros24 248)) hH0 (by rw[Array.size_replicate];exact Lib.lt_pow_nDigits u) hu64 (by rw[Array.size_replicate];omega)
  rw[Array.size_replicate] at hfmt
  have HH0:=I hH0
  have HF:=I hfmt
  have HD:=I (Tryz.internal_strconv_numDigits u hu1 hu64 (w.alloc (.cells Lib.zeros24 248)) (Lib.tabIs_alloc ht _))
  have t1: ¬ (u:Int) < 100:=by omega
  clear hH0 hal hfmt hs
  go_enter Tryz.func232,Tryz.ntmps232
  go_wp2_with (go_at_call 225;refine HD.o.mono ?_;rintro e w' ⟨rfl,rfl⟩)
  go_at_call 226
  refine HF.o.mono ?_
  rintro e w' ⟨rfl,k,v',dk,rfl,hF⟩
  have hcv:(convert 177 9 (.slice (some ⟨w.heap.size,0,none⟩) (Lib.nDigits u) 24)).run Tryz.prog ((putRow (fun(b:UInt8)=>Value.int .u8 (b.toNat:Int)) (w.alloc (.cells Lib.zeros24 248)) w.heap.size 0 dk).drewN k)= .ok (.string ⟨(Lib.decDigits u).toArray⟩) ((putRow (fun(b:UInt8)=>Value.int .u8 (b.toNat:Int)) (w.alloc (.cells Lib.zeros24 248)) w.heap.size 0 dk).drewN k):=by
   have h:=run_convert_bytes_back (P:=Tryz.prog) ((putRow (fun(b:UInt8)=>Value.int .u8 (b.toNat:Int)) (w.alloc (.cells Lib.zeros24 248)) w.heap.size 0 dk).drewN k) 177 9 5 ⟨w.heap.size,0,none⟩ 24 (Lib.decDigits u) Tryz.underlying177 Tryz.underlying5 Tryz.underlying9 (fun j hj=>by
    rw[Lib.row_is_numeral hF j hj,Lib.add_plain,World.cell?_drewN]
    exact cell?_putRow (fun(b:UInt8)=>Value.int .u8 (b.toNat:Int)) _ w.heap.size 0 _ dk HH0.o (by rw[hF.size,Array.size_replicate]) j (by rw[hF.size];rw[Lib.decDigits_length] at hj;exact hj))
   rw[Lib.decDigits_length] at h
   exact h
  go_wp2
  go_ret
  obtain⟨os,eo⟩:=zdp w (.cells Lib.zeros24 248) dk k
  rw[eo]
  exact⟨rfl,z3e w k os⟩
theorem z5q (u:Nat) (hu1:1<=u) (hu64:u < 18446744073709551616) (w:World) (ht:TabP w):Calls Tryz.prog 211 #[.int .u64 u,.int .i64 10] w fun e w'=>e= .returned (.string ⟨(Lib.decDigits u).toArray⟩)/\Below w.heap.size w w':=by
 have H:=I (z7C u hu1 hu64 w ht)
 clear hu1 hu64 ht
 go_enter Tryz.func211,Tryz.ntmps211
 go_wp2_with (go_at_call 232;refine H.o.mono ?_;rintro e z ⟨rfl,hb⟩;have HB:=I hb;clear hb)
 go_ret
 exact⟨rfl,HB.o⟩
theorem z85 (n:Int) (h0: -9223372036854775808<=n) (h1:n<=9223372036854775807) (w:World) (ht:TabP w):Calls Tryz.prog 212 #[.int .i64 n] w fun e w'=>e= .returned (.string ⟨(Lib.itoa n).toArray⟩)/\Below w.heap.size w w':=by
 have H:=I (Tryz.internal_strconv_Itoa n h0 h1 w ht)
 clear h0 h1 ht
 go_enter Tryz.func212,Tryz.ntmps212
 go_wp2_with (go_at_call 233;refine H.o.mono ?_;rintro e z ⟨rfl,k,os,hz⟩;have HZ:=I hz;clear hz)
 go_ret
 rw[HZ.o]
 exact⟨rfl,z3e w k os⟩
theorem z7B (n:Int) (h0: -9223372036854775808<=n) (h1:n<=9223372036854775807) (w:World) (ht:TabP w):Calls Tryz.prog 182 #[.int .i64 n,.int .i64 10] w fun e w'=>e= .returned (.string ⟨(Lib.itoa n).toArray⟩)/\Below w.heap.size w w':=by
 have H:=I (Tryz.internal_strconv_FormatInt_10 n h0 h1 w ht)
 clear h0 h1 ht
 go_enter Tryz.func182,Tryz.ntmps182
 go_wp2_with (go_at_call 207;refine H.o.mono ?_;rintro e z ⟨rfl,k,os,hz⟩;have HZ:=I hz;clear hz)
 go_ret
 rw[HZ.o]
 exact⟨rfl,z3e w k os⟩
theorem TabP.next {w w':World} (h:TabP w) (hb:Below w.heap.size w w'):TabP w':=by
 unfold TabP Lib.TabIs World.var? at*
 cases hg:Tryz.prog.globalNamed "internal/strconv.uint64pow10" with
 |none=>simp[hg] at h
 |some g=>
  simp only[hg,Option.bind_some] at h ⊢
  have hlt:g < w.heap.size:=by
   rcases Nat.lt_or_ge g w.heap.size with h'|h'
   ·exact h'
   ·rw[Array.getElem?_eq_none h'] at h;simp at h
  rw[hb.block g hlt]
  exact h
theorem zcP {m:Nat} (h0:4503599627370496<=m) (h:m < 9007199254740992):floatToIntVal .f64 (4836865999795912704+m) .u64= some ((m:Nat):Int):=by
 obtain⟨l,rfl⟩:∃ l,m= 4503599627370496+l:=⟨m - 4503599627370496,by omega⟩
 rw[show 4836865999795912704+ (4503599627370496+l)= 4841369599423283200+l by omega]
 exact zgp (by omega)
theorem z7N (f:Nat) (b:Bool) (h:decide (9223372036854775808<=f)= b):(if f < 9223372036854775808 then([]:List UInt8) else[45])= if b= true then[45] else[]:=by
 subst h
 by_cases h:9223372036854775808<=f
 ·rw[if_neg (by omega),if_pos (by simpa using h)]
 ·rw[if_pos (by omega),if_neg (by simpa using h)]
theorem z0w (op:BinOp) (ho:op= .add\/op= .sub\/op= .mul\/op= .quo) (t:TypeId) (x y:Nat) (h:floatBits op .f64 x y= none) (w:World):
  ∃ n,n < 2 ^ 64/\9218868437227405312 < n % 9223372036854775808/\(binOp op t (.float .f64 x) (.float .f64 y)).run Tryz.prog w= .ok (.float .f64 n) w.drew:=by
 refine⟨Question.cut (.nanBits .f64 x y) (w.tape w.drawn (.nanBits .f64 x y)),?_,?_,?_⟩
 ·show(w.tape w.drawn (.nanBits .f64 x y)) % 2*2 ^ 63+0x7ff0000000000000+1+ ((w.tape w.drawn (.nanBits .f64 x y)) / 2) % (2 ^ 52 - 1) < 2 ^ 64
  omega
 ·have h3:(w.tape w.drawn (.nanBits .f64 x y)) / 2 % (2 ^ 52 - 1) < 2 ^ 52 - 1:=Nat.mod_lt _ (by decide)
  have h4:(w.tape w.drawn (.nanBits .f64 x y)) % 2 < 2:=Nat.mod_lt _ (by decide)
  show 9218868437227405312 <((w.tape w.drawn (.nanBits .f64 x y)) % 2*2 ^ 63+0x7ff0000000000000+1+ ((w.tape w.drawn (.nanBits .f64 x y)) / 2) % (2 ^ 52 - 1)) % 9223372036854775808
  generalize (w.tape w.drawn (.nanBits .f64 x y)) / 2 % (2 ^ 52 - 1)= c at*
  generalize (w.tape w.drawn (.nanBits .f64 x y)) % 2= b at*
  have h5:b= 0\/b= 1:=by omega
  rcases h5 with rfl|rfl<;>omega
 ·rcases ho with rfl|rfl|rfl|rfl<;>(unfold floatBits at h;simp only at h;simp[binOp,Op.floatArith,h,choose];rfl)
theorem z6A {n m:Nat} (hn:n < 2 ^ 64) (h:9218868437227405312 < n % 9223372036854775808):FloatKind.f64.format.order n m= none:=
 z1Q _ _ (.inl ((z0R hn).2 h))
theorem zdZ {f:Nat} (hf:f < 2 ^ 64) (h: ¬ 9218868437227405312 < f % 9223372036854775808):(FloatKind.f64.format.order f f !=some .eq)= false:=by
 have h1:nanB f= false:=by
  rw[z0N,decide_eq_false]
  exact fun e=>h ((z0R hf).1 e)
 exact h1
theorem ze6 {f:Nat} (hf:f < 2 ^ 64) (h:f % 9223372036854775808≠0):(FloatKind.f64.format.order f 0 ==some .eq)= false:=by
 rw[Bool.eq_false_iff]
 intro e
 rcases z4Y hf e with h1|h1<;>omega
theorem zW (a b:List UInt8) (h:a.length+b.length<=1000000) (W:World):(Op.stringOp .add ⟨a.toArray⟩ ⟨b.toArray⟩).run Tryz.prog W= .ok (.string ⟨(a ++ b).toArray⟩) W:=by
 have h1:(Op.stringOp .add ⟨a.toArray⟩ ⟨b.toArray⟩).run Tryz.prog W= .ok (.string (⟨a.toArray⟩ ++ ⟨b.toArray⟩)) W:=run_string_add_sum W _ _ (by simp[ByteArray.size];omega)
 have h2:(⟨a.toArray⟩:ByteArray) ++ ⟨b.toArray⟩=⟨(a ++ b).toArray⟩:=by apply ByteArray.ext;simp[ByteArray.data_append]
 rw[h2] at h1
 exact h1
theorem zcY (f:Nat) (hf:f < 2 ^ 64) (w:World) (ht:TabP w):Calls Tryz.prog 183 #[.float .f64 f] w fun e w'=>e= .returned (.string ⟨(textF f).toArray⟩)/\Below w.heap.size w w':=by
 have HS:=I (fun w=>zdi f hf w)
 have hsg:=fun b=>z7N f b
 unfold textF
 by_cases hn:9218868437227405312 < f % 9223372036854775808
 ·rw[if_pos hn]
  have t1:(FloatKind.f64.format.order f f !=some .eq)= true:=by rw[z6A hf hn];rfl
  clear ht hf hsg hn
  cases hb:decide (9223372036854775808<=f)<;>rw[hb] at HS<;>clear hb<;>go_enter Tryz.func183,Tryz.ntmps183
  all_goals
   go_wp2_with (go_at_call 208;refine(HS.o _).mono ?_;rintro e z ⟨rfl,rfl⟩)
   go_ret
   exact⟨rfl,Below.refl _ _⟩
 ·rw[if_neg hn]
  have t1:=zdZ hf hn
  by_cases hi:f % 9223372036854775808= 9218868437227405312
  ·rw[if_pos hi]
   have hsub:floatBits .sub .f64 f f= none:=by
    have hd:f= 9218868437227405312\/f= 18442240474082181120:=by omega
    rcases hd with rfl|rfl<;>decide +kernel
   obtain⟨n,n1,n2,n3⟩:=z0w .sub (.inr (.inl rfl)) 23 f f hsub w
   have t2:(FloatKind.f64.format.order n 0 !=some .eq)= true:=by rw[z6A n1 n2];rfl
   have HW:Hid (Below w.heap.size w w.drew):=I (Below.refl _ w).drew
   cases hb:decide (9223372036854775808<=f) with
   |true=>
    rw[hsg _ hb]
    rw[hb] at HS
    clear ht hf hsg hn hb hi n1 n2 hsub
    go_enter Tryz.func183,Tryz.ntmps183
    go_wp2_with (go_at_call 208;refine(HS.o _).mono ?_;rintro e z ⟨rfl,rfl⟩)
    go_ret
    exact⟨rfl,HW.o⟩
   |false=>
    rw[hsg _ hb]
    rw[hb] at HS
    clear ht hf hsg hn hb hi n1 n2 hsub
    go_enter Tryz.func183,Tryz.ntmps183
    go_wp2_with (go_at_call 208;refine(HS.o _).mono ?_;rintro e z ⟨rfl,rfl⟩)
    go_ret
    exact⟨rfl,HW.o⟩
  ·rw[if_neg hi]
   have hfin:f % 9223372036854775808 < 9218868437227405312:=by omega
   have hq:∀ (t:TypeId) (w:World),(binOp .sub t (.float .f64 f) (.float .f64 f)).run Tryz.prog w= .ok (.float .f64 0) w:=fun t w=>run_float_arith w .sub t .f64 _ _ _ (zaj hf hfin)
   have t2:(FloatKind.f64.format.order 0 0 !=some .eq)= false:=by decide +kernel
   by_cases h0:f % 9223372036854775808= 0
   ·have t3:(FloatKind.f64.format.order f 0 ==some .eq)= true:=by
     have:f= 0\/f= 9223372036854775808:=by omega
     rcases this with rfl|rfl<;>decide +kernel
    have hp:Lib.decDigits (zU (f % 9223372036854775808)).1 ++ (112::Lib.itoa (zU (f % 9223372036854775808)).2)=[48,112,48]:=by
     rw[h0]
     show Lib.decDigits 0 ++ (112::Lib.itoa 0)= _
     rw[show Lib.itoa 0= Lib.decDigits 0 from Lib.itoa_nonneg 0,Lib.decDigits_one (by decide)]
     decide
    rw[hp]
    cases hb:decide (9223372036854775808<=f)<;>rw[hsg _ hb]<;>rw[hb] at HS<;>clear ht hf hsg hn hb hi hfin h0 hp<;>go_enter Tryz.func183,Tryz.ntmps183
    all_goals
     go_wp2_with (go_at_call 208;refine(HS.o _).mono ?_;rintro e z ⟨rfl,rfl⟩)
     go_ret
     exact⟨rfl,Below.refl _ _⟩
   ·have t3:=ze6 hf h0
    have HA:=I (fun w=>z6m f hf w)
    generalize hr:f % 9223372036854775808= r at*
    have HX:=I (fun w=>zbN r (by omega) hfin w)
    have hm:=z4w (r:=r) (by omega)
    have hp:=z8o (r:=r) (by omega) hfin
    have HY:=I (fun w=>zcH (mantF r) hm.1 hm.2 w)
    have hcv:∀ W:World,(convert 23 172 (.float .f64 (4836865999795912704+mantF r))).run Tryz.prog W= .ok (.int .u64 ((mantF r:Nat):Int)) W:=fun W=>run_convert_float_int W 23 172 .f64 .u64 _ _ (by kernel_rfl) Tryz.underlying172 (zcP hm.1 hm.2)
    have HRS:=I (RedAt.start (m:=mantF r) (e:=powF r) (by omega) (by omega))
    rw[← z8b (r:=r) (by omega)] at HRS
    have hw1:wrap64 (powF r+53)= powF r+53:=by unfold wrap64;omega
    have hw2:wrap64 (powF r+53 - 53)= powF r:=by unfold wrap64;omega
    have hpl:=z5l (r:=r) hfin
    have HPL:=I hpl
    generalize zU r= t at*
    generalize powF r= p at*
    generalize mantF r= m at*
    cases hb:decide (9223372036854775808<=f) with
    |true=>
     rw[hsg _ hb]
     rw[hb] at HS
     have HT:=I ht
     clear ht hsg hn hb hi h0 hr hm hpl hf
     go_enter Tryz.func183,Tryz.ntmps183
     go_wp2_with (first|(go_at_call 208;refine(HS.o _).mono ?_;rintro e z ⟨rfl,rfl⟩)|(go_at_call 203;refine(HA.o _).mono ?_;rintro e z ⟨rfl,rfl⟩)|(go_at_call 209;refine(HX.o _).mono ?_;rintro e z ⟨rfl,rfl⟩)|(go_at_call 210;refine(HY.o _).mono ?_;rintro e z ⟨rfl,rfl⟩))
     go_loopg [5,6] m (fun q x y u=>∃ e:Int,x= .int .i64 e/\y= .int .u64 (q:Nat)/\RedAt t p q e/\u= z)
     case atStart=>exact⟨p,rfl,rfl,HRS.o,rfl⟩
     case round=>
      obtain⟨e,rfl,rfl,hrd,rfl⟩:=hrel
      have HRD:=I hrd
      have hpw:=hrd.pow
      have hw3:wrap64 (e+1)= e+1:=by unfold wrap64;omega
      by_cases hodd:gk % 2= 0
      ·have t4:(gk:Int) % 2= 0:=by omega
       have HM:Hid (gk / 2 < gk):=I (by omega)
       have HM2:Hid (IntKind.u64.wrap ((gk:Int) / 2)=((gk / 2:Nat):Int)):=I (by rw[IntKind.wrap_u64];omega)
       have HNX:=I (HRD.o.next hodd)
       clear hrd HRD hodd hpw
       go_wp2
       go_roundg (gk / 2)
       case measure=>exact HM.o
       case rel=>exact⟨e+1,congrArg (Value.int .i64) hw3,congrArg (Value.int .u64) HM2.o,HNX.o,rfl⟩
      ·have t4: ¬ (gk:Int) % 2= 0:=by omega
       have HV:Hid (t=(gk,e)):=I (HRD.o.stop hodd)
       have hdl:=z2i (n:=gk) (by have:=HPL.o;rw[HV.o] at this;omega)
       have hil:=z2g (n:=e) (by omega) (by omega)
       have c1:=zW [45] (Lib.decDigits gk) (by simp;omega)
       have c2:=zW ([45] ++ Lib.decDigits gk) [112] (by simp;omega)
       have c3:=zW ([45] ++ Lib.decDigits gk ++ [112]) (Lib.itoa e) (by simp;omega)
       have cE:Hid ((⟨([45] ++ Lib.decDigits gk ++ [112] ++ Lib.itoa e).toArray⟩:ByteArray)=⟨([45] ++ (Lib.decDigits gk ++ (112::Lib.itoa e))).toArray⟩):=I (by simp)
       generalize (⟨([45] ++ Lib.decDigits gk).toArray⟩:ByteArray)= S1 at*
       generalize (⟨([45] ++ Lib.decDigits gk ++ [112]).toArray⟩:ByteArray)= S2 at*
       generalize (⟨([45] ++ Lib.decDigits gk ++ [112] ++ Lib.itoa e).toArray⟩:ByteArray)= S3 at*
       clear hdl hil
       have HU:=I (z5q gk (by omega) (by omega) wr HT.o)
       have HI:=I (fun z h=>z85 e (by omega) (by omega) z h)
       clear hrd HRD hodd hpw
       go_wp2_with (first|(go_at_call 211;refine HU.o.mono ?_;rintro e z ⟨rfl,hb⟩;have HB1:=I hb;have HT1:=I (HT.o.next hb);clear hb)|(go_at_call 212;refine(HI.o _ HT1.o).mono ?_;rintro e z ⟨rfl,hb⟩;have HB2:=I hb;clear hb))
       go_ret
       have hv:=HV.o
       subst hv
       exact⟨congrArg (fun s=>Ending.returned (.string s)) cE.o,HB1.o.trans (HB2.o.mono HB1.o.size)⟩
    |false=>
     rw[hsg _ hb]
     rw[hb] at HS
     have HT:=I ht
     clear ht hsg hn hb hi h0 hr hm hpl hf
     go_enter Tryz.func183,Tryz.ntmps183
     go_wp2_with (first|(go_at_call 208;refine(HS.o _).mono ?_;rintro e z ⟨rfl,rfl⟩)|(go_at_call 203;refine(HA.o _).mono ?_;rintro e z ⟨rfl,rfl⟩)|(go_at_call 209;refine(HX.o _).mono ?_;rintro e z ⟨rfl,rfl⟩)|(go_at_call 210;refine(HY.o _).mono ?_;rintro e z ⟨rfl,rfl⟩))
     go_loopg [5,6] m (fun q x y u=>∃ e:Int,x= .int .i64 e/\y= .int .u64 (q:Nat)/\RedAt t p q e/\u= z)
     case atStart=>exact⟨p,rfl,rfl,HRS.o,rfl⟩
     case round=>
      obtain⟨e,rfl,rfl,hrd,rfl⟩:=hrel
      have HRD:=I hrd
      have hpw:=hrd.pow
      have hw3:wrap64 (e+1)= e+1:=by unfold wrap64;omega
      by_cases hodd:gk % 2= 0
      ·have t4:(gk:Int) % 2= 0:=by omega
       have HM:Hid (gk / 2 < gk):=I (by omega)
       have HM2:Hid (IntKind.u64.wrap ((gk:Int) / 2)=((gk / 2:Nat):Int)):=I (by rw[IntKind.wrap_u64];omega)
       have HNX:=I (HRD.o.next hodd)
       clear hrd HRD hodd hpw
       go_wp2
       go_roundg (gk / 2)
       case measure=>exact HM.o
       case rel=>exact⟨e+1,congrArg (Value.int .i64) hw3,congrArg (Value.int .u64) HM2.o,HNX.o,rfl⟩
      ·have t4: ¬ (gk:Int) % 2= 0:=by omega
       have HV:Hid (t=(gk,e)):=I (HRD.o.stop hodd)
       have hdl:=z2i (n:=gk) (by have:=HPL.o;rw[HV.o] at this;omega)
       have hil:=z2g (n:=e) (by omega) (by omega)
       have c1:=zW [] (Lib.decDigits gk) (by simp;omega)
       have c2:=zW ([] ++ Lib.decDigits gk) [112] (by simp;omega)
       have c3:=zW ([] ++ Lib.decDigits gk ++ [112]) (Lib.itoa e) (by simp;omega)
       have cE:Hid ((⟨([] ++ Lib.decDigits gk ++ [112] ++ Lib.itoa e).toArray⟩:ByteArray)=⟨([] ++ (Lib.decDigits gk ++ (112::Lib.itoa e))).toArray⟩):=I (by simp)
       generalize (⟨([] ++ Lib.decDigits gk).toArray⟩:ByteArray)= S1 at*
       generalize (⟨([] ++ Lib.decDigits gk ++ [112]).toArray⟩:ByteArray)= S2 at*
       generalize (⟨([] ++ Lib.decDigits gk ++ [112] ++ Lib.itoa e).toArray⟩:ByteArray)= S3 at*
       clear hdl hil
       have HU:=I (z5q gk (by omega) (by omega) wr HT.o)
       have HI:=I (fun z h=>z85 e (by omega) (by omega) z h)
       clear hrd HRD hodd hpw
       go_wp2_with (first|(go_at_call 211;refine HU.o.mono ?_;rintro e z ⟨rfl,hb⟩;have HB1:=I hb;have HT1:=I (HT.o.next hb);clear hb)|(go_at_call 212;refine(HI.o _ HT1.o).mono ?_;rintro e z ⟨rfl,hb⟩;have HB2:=I hb;clear hb))
       go_ret
       have hv:=HV.o
       subst hv
       exact⟨congrArg (fun s=>Ending.returned (.string s)) cE.o,HB1.o.trans (HB2.o.mono HB1.o.size)⟩
end
section
open Go Go.RowKit
def DigAt (R:List UInt8) (q:Nat) (T:List UInt8):Prop:=Lib.decDigits q ++ T= R
theorem DigAt.next {R:List UInt8} {q:Nat} {T:List UInt8} (h:DigAt R q T) (hq: ¬ q < 10):DigAt R (q / 10) (UInt8.ofNat (48+q % 10)::T):=by
 unfold DigAt at*
 rw[zeB hq] at h
 rw[← h];simp
theorem DigAt.stop {R:List UInt8} {q:Nat} {T:List UInt8} (h:DigAt R q T) (hq:q < 10):UInt8.ofNat (48+q % 10)::T= R:=by
 unfold DigAt at h
 rw[Lib.decDigits_one hq] at h
 rw[← h,Nat.mod_eq_of_lt hq];rfl
theorem DigAt.len {R:List UInt8} {q:Nat} {T:List UInt8} (h:DigAt R q T):T.length<=R.length:=by
 unfold DigAt at h
 rw[← h,List.length_append];omega
theorem zfV (q:Nat):((UInt8.ofNat (48+q % 10)).toNat:Int)= 48+ ((q % 10:Nat):Int):=by
 rw[UInt8.toNat_ofNat']
 omega
theorem z3p (n:Nat) (hn:n < 18446744073709551616) (hl:(Lib.decDigits n).length<=100) (w:World):Calls Tryz.prog 155 #[.int .u64 n] w fun e w'=>e= .returned (.string ⟨(Lib.decDigits n).toArray⟩)/\Below w.heap.size w w':=by
 have H0:Hid (DigAt (Lib.decDigits n) n []):=I (List.append_nil _)
 generalize Lib.decDigits n= R at*
 have HL:=I hl
 have HN:=I hn
 clear hl hn
 go_enter Tryz.func155,Tryz.ntmps155
 go_wp2
 go_loopg [0,3] n (fun q x y u=>q<=n/\x= .int .u64 (q:Nat)/\∃ T:List UInt8,y= .string ⟨T.toArray⟩/\DigAt R q T/\Below w.heap.size w u)
 case atStart=>exact⟨Nat.le_refl _,rfl,[],rfl,H0.o,Below.refl _ _⟩
 case round=>
  obtain⟨hq,rfl,T,rfl,hd,hb⟩:=hrel
  have HD:=I hd
  have HB:=I hb
  have HQ:=I hq
  clear hd hb hq
  have hlen:T.length<=100:=Nat.le_trans HD.o.len HL.o
  have hcv:(convert 177 9 (.slice (some ⟨wr.heap.size,0,none⟩) 1 1)).run Tryz.prog (wr.alloc (.cells #[.int .u8 (48+ (gk:Int) % 10)] 5))= .ok (.string ⟨[UInt8.ofNat (48+gk % 10)].toArray⟩) (wr.alloc (.cells #[.int .u8 (48+ (gk:Int) % 10)] 5)):=
   run_convert_bytes_back (P:=Tryz.prog) _ 177 9 5 ⟨wr.heap.size,0,none⟩ 1 [UInt8.ofNat (48+gk % 10)] Tryz.underlying177 Tryz.underlying5 Tryz.underlying9 (fun j hj=>by
    obtain rfl:j= 0:=by simpa using hj
    have h1:=zfV gk
    have h2:(48+ (gk:Int) % 10)= 48+ ((gk % 10:Nat):Int):=by omega
    show World.cell? _ _= some (.int .u8 ((UInt8.ofNat (48+gk % 10)).toNat:Int))
    rw[h1,h2,Lib.add_plain,cell_of_row _ wr.heap.size 0 _ _ _ (heap_alloc_new wr _)]
    rfl)
  have c1:=zW [UInt8.ofNat (48+gk % 10)] T (by simp;omega)
  have HW:Hid (Below w.heap.size w (wr.alloc (.cells #[.int .u8 (48+ (gk:Int) % 10)] 5))):=I (HB.o.alloc HB.o.size _)
  have HX:Hid (IntKind.u64.wrap ((gk:Int) / 10)=((gk / 10:Nat):Int)):=I (by rw[IntKind.wrap_u64];have:=HQ.o;have:=HN.o;omega)
  by_cases h10:gk < 10
  ·have HE:Hid (UInt8.ofNat (48+gk % 10)::T= R):=I (HD.o.stop h10)
   have t1:IntKind.u64.wrap ((gk:Int) / 10)= 0:=by rw[HX.o];omega
   have t2:(gk:Int) / 10= 0:=by omega
   have HS:Hid ((⟨([UInt8.ofNat (48+gk % 10)] ++ T).toArray⟩:ByteArray)=⟨R.toArray⟩):=I (by rw[← HE.o];rfl)
   clear h10 hlen HE
   generalize (⟨([UInt8.ofNat (48+gk % 10)] ++ T).toArray⟩:ByteArray)= S at*
   generalize UInt8.ofNat (48+gk % 10)= c at*
   go_wp2
   (try simp only[Exit.inBlock,Exit.then])
   go_ret
   exact⟨by rw[← HS.o];rfl,HW.o⟩
  ·have HE:=I (HD.o.next h10)
   have HM:Hid (gk / 10 < gk/\gk / 10<=n):=I (by have:=HQ.o;omega)
   have t1: ¬ (IntKind.u64.wrap ((gk:Int) / 10)= 0):=by rw[HX.o];omega
   have t2: ¬ ((gk:Int) / 10= 0):=by omega
   have HS:Hid ((⟨([UInt8.ofNat (48+gk % 10)] ++ T).toArray⟩:ByteArray)=⟨(UInt8.ofNat (48+gk % 10)::T).toArray⟩):=I rfl
   have t3:(IntKind.u64.wrap ((gk:Int) / 10) ==0)= false:=by rw[beq_eq_false_iff_ne];exact t1
   clear h10 hlen t1 t2
   generalize (⟨([UInt8.ofNat (48+gk % 10)] ++ T).toArray⟩:ByteArray)= S at*
   generalize UInt8.ofNat (48+gk % 10)= c at*
   go_wp2
   go_roundg (gk / 10)
   case measure=>exact HM.o.1
   case rel=>exact⟨HM.o.2,congrArg (Value.int .u64) HX.o,_,congrArg Value.string HS.o,HE.o,HW.o⟩
theorem zca (f:Nat) (w:World):Calls Tryz.prog 153 #[.float .f64 f] w fun e w'=>e= .returned (.bool (decide (9223372036854775808<=f)))/\w'= w:=by
 have e1:∀ W:World,(callFunc 134 #[.float .f64 f]).run Tryz.prog W= .ok (.value (.int .u64 f)) W:=fun W=>by
  rw[run_callFunc_extern Tryz.func134 (by kernel_rfl) (by kernel_rfl) (by kernel_rfl) (e:=Extern.MathFloatBits.float64bits) (by kernel_rfl)]
  rfl
 have hw:decide ((9223372036854775808:Int)<=(f:Int))= decide (9223372036854775808<=f):=by
  by_cases h:9223372036854775808<=f
  ·rw[decide_eq_true h,decide_eq_true (by omega)]
  ·rw[decide_eq_false h,decide_eq_false (by omega)]
 rw[← hw]
 clear hw
 go_enter Tryz.func153,Tryz.ntmps153
 go_wp2
 go_ret
 exact⟨rfl,rfl⟩
theorem z6p {f:Nat} (hf:f < 2 ^ 64):nanR f= decide (9218868437227405312 < f % 9223372036854775808):=by
 unfold nanR
 rw[IntKind.wrap_u64]
 by_cases h:9218868437227405312 < f % 9223372036854775808
 ·rw[decide_eq_true h,decide_eq_true (by omega)]
 ·rw[decide_eq_false h,decide_eq_false (by omega)]
theorem zet (f:Nat) (hf:f < 2 ^ 64) (hfin:f % 9223372036854775808 < 9218868437227405312) (w:World):Calls Tryz.prog 154 #[.float .f64 f] w fun e w'=>
  e= .returned (.tuple #[.int .u64 ((zU (f % 9223372036854775808)).1:Nat),.int .i64 (zU (f % 9223372036854775808)).2])/\w'= w:=by
 have e1:∀ W:World,(callFunc 134 #[.float .f64 f]).run Tryz.prog W= .ok (.value (.int .u64 f)) W:=fun W=>by
  rw[run_callFunc_extern Tryz.func134 (by kernel_rfl) (by kernel_rfl) (by kernel_rfl) (e:=Extern.MathFloatBits.float64bits) (by kernel_rfl)]
  rfl
 have a1:IntKind.u64.wrap ((f:Int) *4096) / 4096=((f % 4503599627370496:Nat):Int):=by rw[IntKind.wrap_u64];omega
 have a2:IntKind.u64.wrap ((f:Int) *2) / 9007199254740992=((f % 9223372036854775808 / 4503599627370496:Nat):Int):=by rw[IntKind.wrap_u64];omega
 obtain⟨r,hr⟩:∃ r,f % 9223372036854775808= r:=⟨_,rfl⟩
 have h52:f % 4503599627370496= r % 4503599627370496:=by omega
 rw[hr] at a2 hfin ⊢
 rw[h52] at a1
 have hk:r / 4503599627370496 < 2048:=by omega
 obtain⟨X1,hX1⟩:∃ X1:Int,X1= IntKind.u64.wrap ((f:Int) *4096):=⟨_,rfl⟩
 obtain⟨X2,hX2⟩:∃ X2:Int,X2= IntKind.u64.wrap ((f:Int) *2):=⟨_,rfl⟩
 rw[← hX1] at a1
 rw[← hX2] at a2
 have b1:=hX1.symm
 have b2:=hX2.symm
 clear hX1 hX2 hf h52 hr
 by_cases hl:r < 4503599627370496
 ·have k0:r / 4503599627370496= 0:=by omega
  have m0:r % 4503599627370496= r:=by omega
  rw[k0] at a2
  rw[m0] at a1
  clear hk hfin k0 m0
  have a2':X2 / 9007199254740992= 0:=a2
  by_cases h0:r= 0
  ·subst h0
   have a1':X1 / 4096= 0:=a1
   clear a1 a2
   go_enter Tryz.func154,Tryz.ntmps154
   go_wp2
   go_ret2
   exact⟨rfl,rfl⟩
  ·have HP:Hid (zU r= redF 64 r (-1074)):=I (by unfold zU;rw[if_neg h0,(z0M hl).1,(z0M hl).2])
   have HRS:=I (RedAt.start (m:=r) (e:= -1074) (by omega) (by omega))
   rw[← HP.o] at HRS
   clear HP
   have t0: ¬ ((r:Int)= 0):=by omega
   have t1:((r:Int) ==0)= false:=by rw[beq_eq_false_iff_ne];exact t0
   generalize zU r= t at*
   clear a2 h0 hl
   go_enter Tryz.func154,Tryz.ntmps154
   go_wp2
   go_loopg [5,6] (r) (fun q x y u=>∃ e:Int,x= .int .u64 (q:Nat)/\y= .int .i64 e/\RedAt t (-1074) q e/\u= w)
   case atStart=>exact⟨-1074,rfl,rfl,HRS.o,rfl⟩
   case round=>
    obtain⟨e,rfl,rfl,hrd,rfl⟩:=hrel
    have HRD:=I hrd
    have hpw:=hrd.pow
    have HW3:Hid (wrap64 (e+1)= e+1):=I (by unfold wrap64;omega)
    by_cases hodd:gk % 2= 0
    ·have t4:(gk:Int) % 2= 0:=by omega
     have HM:Hid (gk / 2 < gk):=I (by omega)
     have HM2:Hid (IntKind.u64.wrap ((gk:Int) / 2)=((gk / 2:Nat):Int)):=I (by rw[IntKind.wrap_u64];omega)
     have HNX:=I (HRD.o.next hodd)
     clear hrd HRD hodd hpw
     go_wp2
     go_roundg (gk / 2)
     case measure=>exact HM.o
     case rel=>exact⟨e+1,congrArg (Value.int .u64) HM2.o,congrArg (Value.int .i64) HW3.o,HNX.o,rfl⟩
    ·have t4: ¬ (gk:Int) % 2= 0:=by omega
     have HV:Hid (t=(gk,e)):=I (HRD.o.stop hodd)
     clear hrd HRD hodd hpw
     go_wp2
     go_ret2
     have hv:=HV.o
     subst hv
     exact⟨rfl,rfl⟩
 ·obtain⟨k,hk2⟩:∃ k:Int,k=((r / 4503599627370496:Nat):Int):=⟨_,rfl⟩
  have hp:zU r= redF 64 (4503599627370496+r % 4503599627370496) (k - 1075):=by
   unfold zU
   rw[if_neg (by omega),(z0p (by omega)).1,(z0p (by omega)).2]
   congr 1;omega
  have HRS:=I (RedAt.start (m:=4503599627370496+r % 4503599627370496) (e:=k - 1075) (by omega) (by omega))
  rw[← hp] at HRS
  rw[← hk2] at a2
  have hk3:1<=k/\k < 2048:=by omega
  obtain⟨m,hm⟩:∃ m,m= r % 4503599627370496:=⟨_,rfl⟩
  rw[← hm] at a1 HRS
  obtain⟨E,hE⟩:∃ E:Int,E= k - 1075:=⟨_,rfl⟩
  rw[← hE] at HRS
  have HEB:Hid (-1075<=E/\E<=973):=I (by omega)
  have c1:wrap64 k= k:=by unfold wrap64;omega
  have c2:wrap64 (k - 1075)= E:=by unfold wrap64;omega
  have c3:IntKind.u64.wrap ((m:Int)+4503599627370496)=((4503599627370496+m:Nat):Int):=by rw[IntKind.wrap_u64];omega
  have t1:(E == -1075)= false:=by rw[beq_eq_false_iff_ne];omega
  have t2:(((4503599627370496+m:Nat):Int) ==0)= false:=by rw[beq_eq_false_iff_ne];omega
  generalize 4503599627370496+m= M at*
  generalize zU r= t at*
  clear hp hk2 hm hl hk hfin hk3 hE
  go_enter Tryz.func154,Tryz.ntmps154
  go_wp2
  go_loopg [5,6] (M) (fun q x y u=>∃ e:Int,x= .int .u64 (q:Nat)/\y= .int .i64 e/\RedAt t (E) q e/\u= w)
  case atStart=>exact⟨E,rfl,congrArg (Value.int .i64) c2,HRS.o,rfl⟩
  case round=>
   clear c1 c2 c3 t1 t2 a1 a2 b1 b2
   obtain⟨e,rfl,rfl,hrd,rfl⟩:=hrel
   have HRD:=I hrd
   have hpw:=hrd.pow
   have heb:=HEB.o
   have HW3:Hid (wrap64 (e+1)= e+1):=I (by unfold wrap64;omega)
   by_cases hodd:gk % 2= 0
   ·have t4:(gk:Int) % 2= 0:=by omega
    have HM:Hid (gk / 2 < gk):=I (by omega)
    have HM2:Hid (IntKind.u64.wrap ((gk:Int) / 2)=((gk / 2:Nat):Int)):=I (by rw[IntKind.wrap_u64];omega)
    have HNX:=I (HRD.o.next hodd)
    clear hrd HRD hodd hpw heb
    go_wp2
    go_roundg (gk / 2)
    case measure=>exact HM.o
    case rel=>exact⟨e+1,congrArg (Value.int .u64) HM2.o,congrArg (Value.int .i64) HW3.o,HNX.o,rfl⟩
   ·have t4: ¬ (gk:Int) % 2= 0:=by omega
    have HV:Hid (t=(gk,e)):=I (HRD.o.stop hodd)
    clear hrd HRD hodd hpw heb
    go_wp2
    go_ret2
    have hv:=HV.o
    subst hv
    exact⟨rfl,rfl⟩
theorem zfl (f:Nat) (hf:f < 2 ^ 64) (w:World):Calls Tryz.prog 120 #[.float .f64 f] w fun e w'=>e= .returned (.string ⟨(textF f).toArray⟩)/\Below w.heap.size w w':=by
 have e1:∀ W:World,(callFunc 134 #[.float .f64 f]).run Tryz.prog W= .ok (.value (.int .u64 f)) W:=fun W=>by
  rw[run_callFunc_extern Tryz.func134 (by kernel_rfl) (by kernel_rfl) (by kernel_rfl) (e:=Extern.MathFloatBits.float64bits) (by kernel_rfl)]
  rfl
 have HS:=I (fun w=>zca f w)
 have HN:=I (fun w=>z3k f hf w)
 rw[z6p hf] at HN
 have hsg:=fun b=>z7N f b
 unfold textF
 by_cases hn:9218868437227405312 < f % 9223372036854775808
 ·rw[if_pos hn]
  rw[decide_eq_true hn] at HN
  clear hf hsg hn
  cases hb:decide (9223372036854775808<=f)<;>rw[hb] at HS<;>clear hb<;>go_enter Tryz.func120,Tryz.ntmps120
  all_goals
   go_wp2_with (first|(go_at_call 153;refine(HS.o _).mono ?_;rintro e z ⟨rfl,rfl⟩)|(go_at_call 119;refine(HN.o _).mono ?_;rintro e z ⟨rfl,rfl⟩))
   go_ret
   exact⟨rfl,Below.refl _ _⟩
 ·rw[if_neg hn]
  rw[decide_eq_false hn] at HN
  by_cases hi:f % 9223372036854775808= 9218868437227405312
  ·rw[if_pos hi]
   have q1:IntKind.u64.wrap ((f:Int) *2)= 18437736874454810624:=by rw[IntKind.wrap_u64];omega
   cases hb:decide (9223372036854775808<=f)<;>rw[hsg _ hb]<;>rw[hb] at HS<;>clear hb hf hsg hn hi<;>go_enter Tryz.func120,Tryz.ntmps120
   all_goals
    go_wp2_with (first|(go_at_call 153;refine(HS.o _).mono ?_;rintro e z ⟨rfl,rfl⟩)|(go_at_call 119;refine(HN.o _).mono ?_;rintro e z ⟨rfl,rfl⟩))
    go_ret
    exact⟨rfl,Below.refl _ _⟩
  ·rw[if_neg hi]
   have q0: ¬ (IntKind.u64.wrap ((f:Int) *2)= 18437736874454810624):=by rw[IntKind.wrap_u64];omega
   have hfin:f % 9223372036854775808 < 9218868437227405312:=by omega
   have HP:=I (fun w=>zet f hf hfin w)
   have hpl:=z5l hfin
   obtain⟨m,hm⟩:∃ m,m=(zU (f % 9223372036854775808)).1:=⟨_,rfl⟩
   obtain⟨e,he⟩:∃ e,e=(zU (f % 9223372036854775808)).2:=⟨_,rfl⟩
   rw[← hm,← he] at HP hpl
   rw[← hm,← he]
   have q1:(IntKind.u64.wrap ((f:Int) *2) ==18437736874454810624)= false:=by rw[beq_eq_false_iff_ne];exact q0
   have hdm:=z2i (n:=m) (by omega)
   have HDM:=I (fun w=>z3p m (by omega) (by omega) w)
   clear hi hn hfin hm he q0
   rcases z5x e with ⟨h0,h1⟩|⟨h0,h1⟩
   ·have hde:=z2i (n:=e.toNat) (by omega)
    have HDE:=I (fun w=>z3p e.toNat (by omega) (by omega) w)
    rw[h1]
    have u1:IntKind.u64.wrap e=((e.toNat:Nat):Int):=by rw[IntKind.wrap_u64];omega
    have u2: ¬ e < 0:=by omega
    have u3:decide (e < 0)= false:=decide_eq_false u2
    cases hb:decide (9223372036854775808<=f) with
    |true=>
     rw[hsg _ hb]
     rw[hb] at HS
     have c1:=zW [45] (Lib.decDigits m) (by simp;omega)
     have c2:=zW ([45] ++ Lib.decDigits m) [112] (by simp;omega)
     have c4:=zW ([45] ++ Lib.decDigits m ++ [112]) (Lib.decDigits e.toNat) (by simp;omega)
     have cE:Hid ((⟨([45] ++ Lib.decDigits m ++ [112] ++ Lib.decDigits e.toNat).toArray⟩:ByteArray)=⟨([45] ++ (Lib.decDigits m ++ (112::Lib.decDigits e.toNat))).toArray⟩):=I (by simp)
     generalize (⟨([45] ++ Lib.decDigits m).toArray⟩:ByteArray)= S1 at*
     generalize (⟨([45] ++ Lib.decDigits m ++ [112]).toArray⟩:ByteArray)= S2 at*
     generalize (⟨([45] ++ Lib.decDigits m ++ [112] ++ Lib.decDigits e.toNat).toArray⟩:ByteArray)= S4 at*
     clear hb hf hsg hpl hdm hde h0 h1
     generalize e.toNat= E at*
     go_enter Tryz.func120,Tryz.ntmps120
     go_wp2_with (first|(go_at_call 153;refine(HS.o _).mono ?_;rintro e z ⟨rfl,rfl⟩)|(go_at_call 119;refine(HN.o _).mono ?_;rintro e z ⟨rfl,rfl⟩)|(go_at_call 154;refine(HP.o _).mono ?_;rintro e z ⟨rfl,rfl⟩)|(go_at_call 155;with_reducible refine(HDM.o _).mono ?_;rintro e z ⟨rfl,hb⟩;have HB1:=I hb;clear hb HDM)|(go_at_call 155;with_reducible refine(HDE.o _).mono ?_;rintro e z ⟨rfl,hb⟩;have HB2:=I hb;clear hb))
     go_ret
     exact⟨congrArg (fun s=>Ending.returned (.string s)) cE.o,HB1.o.trans (HB2.o.mono HB1.o.size)⟩
    |false=>
     rw[hsg _ hb]
     rw[hb] at HS
     have c1:=zW [] (Lib.decDigits m) (by simp;omega)
     have c2:=zW ([] ++ Lib.decDigits m) [112] (by simp;omega)
     have c4:=zW ([] ++ Lib.decDigits m ++ [112]) (Lib.decDigits e.toNat) (by simp;omega)
     have cE:Hid ((⟨([] ++ Lib.decDigits m ++ [112] ++ Lib.decDigits e.toNat).toArray⟩:ByteArray)=⟨([] ++ (Lib.decDigits m ++ (112::Lib.decDigits e.toNat))).toArray⟩):=I (by simp)
     generalize (⟨([] ++ Lib.decDigits m).toArray⟩:ByteArray)= S1 at*
     generalize (⟨([] ++ Lib.decDigits m ++ [112]).toArray⟩:ByteArray)= S2 at*
     generalize (⟨([] ++ Lib.decDigits m ++ [112] ++ Lib.decDigits e.toNat).toArray⟩:ByteArray)= S4 at*
     clear hb hf hsg hpl hdm hde h0 h1
     generalize e.toNat= E at*
     go_enter Tryz.func120,Tryz.ntmps120
     go_wp2_with (first|(go_at_call 153;refine(HS.o _).mono ?_;rintro e z ⟨rfl,rfl⟩)|(go_at_call 119;refine(HN.o _).mono ?_;rintro e z ⟨rfl,rfl⟩)|(go_at_call 154;refine(HP.o _).mono ?_;rintro e z ⟨rfl,rfl⟩)|(go_at_call 155;with_reducible refine(HDM.o _).mono ?_;rintro e z ⟨rfl,hb⟩;have HB1:=I hb;clear hb HDM)|(go_at_call 155;with_reducible refine(HDE.o _).mono ?_;rintro e z ⟨rfl,hb⟩;have HB2:=I hb;clear hb))
     go_ret
     exact⟨congrArg (fun s=>Ending.returned (.string s)) cE.o,HB1.o.trans (HB2.o.mono HB1.o.size)⟩
   ·have hde:=z2i (n:=e.natAbs) (by omega)
    have HDE:=I (fun w=>z3p e.natAbs (by omega) (by omega) w)
    rw[h1]
    have u1:IntKind.u64.wrap (wrap64 (-e))=((e.natAbs:Nat):Int):=by rw[IntKind.wrap_u64];unfold wrap64;omega
    have u1':IntKind.u64.wrap (-e)=((e.natAbs:Nat):Int):=by rw[IntKind.wrap_u64];omega
    have u2:e < 0:=h0
    have u3:decide (e < 0)= true:=decide_eq_true u2
    cases hb:decide (9223372036854775808<=f) with
    |true=>
     rw[hsg _ hb]
     rw[hb] at HS
     have c1:=zW [45] (Lib.decDigits m) (by simp;omega)
     have c2:=zW ([45] ++ Lib.decDigits m) [112] (by simp;omega)
     have c3:=zW ([45] ++ Lib.decDigits m ++ [112]) [45] (by simp;omega)
     have c4:=zW ([45] ++ Lib.decDigits m ++ [112] ++ [45]) (Lib.decDigits e.natAbs) (by simp;omega)
     have cE:Hid ((⟨([45] ++ Lib.decDigits m ++ [112] ++ [45] ++ Lib.decDigits e.natAbs).toArray⟩:ByteArray)=⟨([45] ++ (Lib.decDigits m ++ (112::45::Lib.decDigits e.natAbs))).toArray⟩):=I (by simp)
     generalize (⟨([45] ++ Lib.decDigits m).toArray⟩:ByteArray)= S1 at*
     generalize (⟨([45] ++ Lib.decDigits m ++ [112]).toArray⟩:ByteArray)= S2 at*
     generalize (⟨([45] ++ Lib.decDigits m ++ [112] ++ [45]).toArray⟩:ByteArray)= S3 at*
     generalize (⟨([45] ++ Lib.decDigits m ++ [112] ++ [45] ++ Lib.decDigits e.natAbs).toArray⟩:ByteArray)= S4 at*
     clear hb hf hsg hpl hdm hde h0 h1
     generalize e.natAbs= E at*
     go_enter Tryz.func120,Tryz.ntmps120
     go_wp2_with (first|(go_at_call 153;refine(HS.o _).mono ?_;rintro e z ⟨rfl,rfl⟩)|(go_at_call 119;refine(HN.o _).mono ?_;rintro e z ⟨rfl,rfl⟩)|(go_at_call 154;refine(HP.o _).mono ?_;rintro e z ⟨rfl,rfl⟩)|(go_at_call 155;with_reducible refine(HDM.o _).mono ?_;rintro e z ⟨rfl,hb⟩;have HB1:=I hb;clear hb HDM)|(go_at_call 155;with_reducible refine(HDE.o _).mono ?_;rintro e z ⟨rfl,hb⟩;have HB2:=I hb;clear hb))
     go_ret
     exact⟨congrArg (fun s=>Ending.returned (.string s)) cE.o,HB1.o.trans (HB2.o.mono HB1.o.size)⟩
    |false=>
     rw[hsg _ hb]
     rw[hb] at HS
     have c1:=zW [] (Lib.decDigits m) (by simp;omega)
     have c2:=zW ([] ++ Lib.decDigits m) [112] (by simp;omega)
     have c3:=zW ([] ++ Lib.decDigits m ++ [112]) [45] (by simp;omega)
     have c4:=zW ([] ++ Lib.decDigits m ++ [112] ++ [45]) (Lib.decDigits e.natAbs) (by simp;omega)
     have cE:Hid ((⟨([] ++ Lib.decDigits m ++ [112] ++ [45] ++ Lib.decDigits e.natAbs).toArray⟩:ByteArray)=⟨([] ++ (Lib.decDigits m ++ (112::45::Lib.decDigits e.natAbs))).toArray⟩):=I (by simp)
     generalize (⟨([] ++ Lib.decDigits m).toArray⟩:ByteArray)= S1 at*
     generalize (⟨([] ++ Lib.decDigits m ++ [112]).toArray⟩:ByteArray)= S2 at*
     generalize (⟨([] ++ Lib.decDigits m ++ [112] ++ [45]).toArray⟩:ByteArray)= S3 at*
     generalize (⟨([] ++ Lib.decDigits m ++ [112] ++ [45] ++ Lib.decDigits e.natAbs).toArray⟩:ByteArray)= S4 at*
     clear hb hf hsg hpl hdm hde h0 h1
     generalize e.natAbs= E at*
     go_enter Tryz.func120,Tryz.ntmps120
     go_wp2_with (first|(go_at_call 153;refine(HS.o _).mono ?_;rintro e z ⟨rfl,rfl⟩)|(go_at_call 119;refine(HN.o _).mono ?_;rintro e z ⟨rfl,rfl⟩)|(go_at_call 154;refine(HP.o _).mono ?_;rintro e z ⟨rfl,rfl⟩)|(go_at_call 155;with_reducible refine(HDM.o _).mono ?_;rintro e z ⟨rfl,hb⟩;have HB1:=I hb;clear hb HDM)|(go_at_call 155;with_reducible refine(HDE.o _).mono ?_;rintro e z ⟨rfl,hb⟩;have HB2:=I hb;clear hb))
     go_ret
     exact⟨congrArg (fun s=>Ending.returned (.string s)) cE.o,HB1.o.trans (HB2.o.mono HB1.o.size)⟩
end
section
open Go Go.RowKit
theorem z8e {f:Nat} (hf:f < 2 ^ 64):cmpF f 0 < 0↔¬ 9218868437227405312 < f % 9223372036854775808/\9223372036854775808<=f:=by
 have nf:=z0R hf
 have bf:=z2r (dat f)
 have n0:nanD (dat 0)= 0:=by decide +kernel
 have c0:clsD (dat 0)= 0:=by decide +kernel
 have v0:valD (dat 0)= 0:=by decide +kernel
 have r0:rankZ 0= 0:=rfl
 have rf:=z4T hf
 rw[z6l]
 unfold cmpF' cmpD
 rw[n0,c0,v0,r0]
 have e1:=zY (nanD (dat f)) 0
 have e2:=zY (clsD (dat f)) 0
 have e3:=zY (valD (dat f)) 0
 have e4:=zY (rankZ f) 0
 rcases Nat.lt_trichotomy (f % 9223372036854775808) 9218868437227405312 with h|h|h
 ·obtain⟨hv,hc⟩:=z9F hf h
  have hz:=z5a (r:=f % 9223372036854775808)
  have hn:nanD (dat f)= 0:=by
   rcases bf with h2|h2
   ·exact h2
   ·have:=nf.1 (by omega);omega
  have hrk:(f= 9223372036854775808/\rankZ f= -1)\/(f≠9223372036854775808/\rankZ f= 0):=by
   by_cases h2:f= 9223372036854775808
   ·rw[if_pos h2] at rf;exact Or.inl ⟨h2,rf⟩
   ·rw[if_neg h2] at rf;exact Or.inr ⟨h2,rf⟩
  have hvv:(9223372036854775808<=f/\valD (dat f)= -((valF (f % 9223372036854775808):Nat):Int))\/(¬ 9223372036854775808<=f/\valD (dat f)=(valF (f % 9223372036854775808):Nat)):=by
   by_cases hs:9223372036854775808<=f
   ·rw[if_pos hs] at hv;exact Or.inl ⟨hs,hv⟩
   ·rw[if_neg hs] at hv;exact Or.inr ⟨hs,hv⟩
  clear rf hv nf bf
  have hz1:=hz.1
  have hz2:=hz.2
  clear hz
  generalize valF (f % 9223372036854775808)= q at*
  generalize cmpI (nanD (dat f)) 0= a at*
  generalize cmpI (clsD (dat f)) 0= b at*
  generalize cmpI (valD (dat f)) 0= c at*
  generalize cmpI (rankZ f) 0= d at*
  (repeat' split)<;>omega
 ·have hd:f= 9218868437227405312\/f= 18442240474082181120:=by omega
  clear rf nf bf
  rcases hd with rfl|rfl
  ·have hc:clsD (dat 9218868437227405312)= 1:=by decide +kernel
   have hn:nanD (dat 9218868437227405312)= 0:=by decide +kernel
   rw[hn] at e1 ⊢
   rw[hc] at e2 ⊢
   generalize cmpI 0 0= a at*
   generalize cmpI 1 0= b at*
   generalize cmpI (valD (dat 9218868437227405312)) 0= c at*
   generalize cmpI (rankZ 9218868437227405312) 0= d at*
   (repeat' split)<;>omega
  ·have hc:clsD (dat 18442240474082181120)= -1:=by decide +kernel
   have hn:nanD (dat 18442240474082181120)= 0:=by decide +kernel
   rw[hn] at e1 ⊢
   rw[hc] at e2 ⊢
   generalize cmpI 0 0= a at*
   generalize cmpI (-1) 0= b at*
   generalize cmpI (valD (dat 18442240474082181120)) 0= c at*
   generalize cmpI (rankZ 18442240474082181120) 0= d at*
   (repeat' split)<;>omega
 ·have hn:nanD (dat f)≠0:=nf.2 h
  clear nf rf
  generalize cmpI (nanD (dat f)) 0= a at*
  generalize cmpI (clsD (dat f)) 0= b at*
  generalize cmpI (valD (dat f)) 0= c at*
  generalize cmpI (rankZ f) 0= d at*
  (repeat' split)<;>omega
theorem zgj {f:Nat} (hf:f < 2 ^ 64) (h:(fOrd f 0 ==some .lt)= true):cmpF f 0 < 0:=by
 have hn0:nanB 0= false:=by decide +kernel
 have hn:nanB f= false:=by
  rw[beq_iff_eq] at h
  cases hb:nanB f with
  |false=>rfl
  |true=>
   have hd:=z0N f
   rw[hb] at hd
   have h1:nanD (dat f)≠0:=by simpa using hd.symm
   rw[z2T,z1Q _ _ (Or.inl h1)] at h
   cases h
 unfold cmpF
 rw[hn,hn0,if_neg (by simp),if_neg (by simp),if_pos (Or.inl h)]
 decide
def negB (f:Nat):Bool:=decide (cmpF f 0 < 0)
theorem zai {f:Nat} (hf:f < 2 ^ 64):∃ c t,textF f= c::t/\(negB f= true->c= 45)/\(negB f= false->nanR f= false->c≠45):=by
 have hn:=z8e hf
 have hnan:=z6p hf
 unfold negB textF
 by_cases h1:9218868437227405312 < f % 9223372036854775808
 ·rw[if_pos h1]
  refine⟨_,_,rfl,fun h=> ?_,fun _ h=> ?_⟩
  ·have:=(hn.1 (of_decide_eq_true h)).1;omega
  ·rw[hnan,decide_eq_true h1] at h;cases h
 ·rw[if_neg h1]
  by_cases h2:f < 9223372036854775808
  ·rw[if_pos h2,List.nil_append]
   have hf0: ¬ cmpF f 0 < 0:=fun h=>by have:=(hn.1 h).2;omega
   by_cases h3:f % 9223372036854775808= 9218868437227405312
   ·rw[if_pos h3]
    exact⟨_,_,rfl,fun h=>absurd (of_decide_eq_true h) hf0,fun _ _=>by decide⟩
   ·rw[if_neg h3]
    obtain⟨c,t,he,hd⟩:=z8B (zU (f % 9223372036854775808)).1 (112::Lib.itoa (zU (f % 9223372036854775808)).2)
    exact⟨c,t,he,fun h=>absurd (of_decide_eq_true h) hf0,fun _ _ h=>by subst h;revert hd;decide⟩
  ·rw[if_neg h2]
   refine⟨45,_,rfl,fun _=>rfl,fun h=> ?_⟩
   exact absurd (hn.2 ⟨h1,by omega⟩) (of_decide_eq_false h)
def zl (t:VT):Bool:=decide (cntV t 0<=200) && zo t 1
def zL (t:VT):Bool:=match t with
 | .mk k n f s ns its=>((k ==1) ||((k ==4) ||(((k ==2) && decide (0<=n)) ||((k ==3) && !(negB f))))) && zl t
end
section
open Go Go.RowKit
theorem zbh {s:ByteArray} {k:Nat} {c:UInt8} (h:s.data.toList[k]?= some c) (hk:k < s.size):s[k]'hk= c:=by
 have h2:s.data[k]?= some c:=by simpa using h
 obtain⟨h3,h4⟩:=Array.getElem?_eq_some_iff.1 h2
 exact h4
theorem z7g (t:VT) (cs:List Value) (w:World) (hv:ValAt w w.heap.size cs t):Calls Tryz.prog 95 #[.agg ⟨cs⟩] w fun e w'=>e= .returned (.bool (zL t))/\Below w.heap.size w w':=by
 cases t with
 |mk k n f s ns its=>
 obtain⟨vn,vi,rfl,_,_,hff,_,_,_,_⟩:=hv.inv
 have hf:=wf64 hff
 have HB1:=I (zc w (.cells ⟨[.int .i64 k,.int .i64 n,.float .f64 f,.string s,vn,vi]⟩ 27))
 have HRG:=I (zm w [.int .i64 k,.int .i64 n,.float .f64 f,.string s,vn,vi] 27)
 have HRT:Hid (Calls Tryz.prog 38 #[.agg ⟨[.int .i64 k,.int .i64 n,.float .f64 f,.string s,vn,vi]⟩] (w.alloc (.cells ⟨[.int .i64 k,.int .i64 n,.float .f64 f,.string s,vn,vi]⟩ 27)) fun e w'=>e= .returned (.bool (zl (.mk k n f s ns its)))/\Below (w.alloc (.cells ⟨[.int .i64 k,.int .i64 n,.float .f64 f,.string s,vn,vi]⟩ 27)).heap.size (w.alloc (.cells ⟨[.int .i64 k,.int .i64 n,.float .f64 f,.string s,vn,vi]⟩ 27)) w'):=I (z1W _ _ _ (hv.next HB1.o))
 have d0:=zp w ⟨[.int .i64 k,.int .i64 n,.float .f64 f,.string s,vn,vi]⟩ 27 0
 have d1:=zp w ⟨[.int .i64 k,.int .i64 n,.float .f64 f,.string s,vn,vi]⟩ 27 1
 have d2:=zp w ⟨[.int .i64 k,.int .i64 n,.float .f64 f,.string s,vn,vi]⟩ 27 2
 simp only[List.getElem?_toArray,List.getElem?_cons_succ,List.getElem?_cons_zero] at d0 d1 d2
 have D1:=I d1
 have D2:=I d2
 have HSZ:=I (zw w (.cells ⟨[.int .i64 k,.int .i64 n,.float .f64 f,.string s,vn,vi]⟩ 27))
 have HCV:Hid (zL (.mk k n f s ns its)=(((k ==1) ||((k ==4) ||(((k ==2) && decide (0<=n)) ||((k ==3) && !(negB f))))) && zl (.mk k n f s ns its))):=I rfl
 clear hv hff
 generalize zl (.mk k n f s ns its)= rr at*
 rcases Classical.em (k= 1) with hk1|hk1
 ·subst hk1
  have HR:Hid (zL (.mk 1 n f s ns its)= rr):=I (by rw[HCV.o];cases rr<;>rfl)
  go_enter Tryz.func95,Tryz.ntmps95
  go_upto_region 1 with (fail)
  generalize w.alloc (.cells ⟨[.int .i64 1,.int .i64 n,.float .f64 f,.string s,vn,vi]⟩ 27)= W at*
  go_wp2_with (first|((with_reducible refine z7 27 _ rfl ?_ w.heap.size 0 [.int .i64 1,.int .i64 n,.float .f64 f,.string s,vn,vi] _ rfl HRG.o Tryz.underlying27 rfl ?_ ?_);(exact wA rfl);kernel_rfl)|(go_at_call 38;refine HRT.o.mono ?_;rintro e z ⟨rfl,hb⟩;have HB2:=I hb;clear hb))
  go_ret
  exact⟨z6 HR.o.symm,HB1.o.trans (HB2.o.mono HB1.o.size)⟩
 rcases Classical.em (k= 4) with hk4|hk4
 ·subst hk4
  have HR:Hid (zL (.mk 4 n f s ns its)= rr):=I (by rw[HCV.o];cases rr<;>rfl)
  go_enter Tryz.func95,Tryz.ntmps95
  go_upto_region 1 with (fail)
  generalize w.alloc (.cells ⟨[.int .i64 4,.int .i64 n,.float .f64 f,.string s,vn,vi]⟩ 27)= W at*
  go_wp2_with (first|((with_reducible refine z7 27 _ rfl ?_ w.heap.size 0 [.int .i64 4,.int .i64 n,.float .f64 f,.string s,vn,vi] _ rfl HRG.o Tryz.underlying27 rfl ?_ ?_);(exact wA rfl);kernel_rfl)|(go_at_call 38;refine HRT.o.mono ?_;rintro e z ⟨rfl,hb⟩;have HB2:=I hb;clear hb))
  go_ret
  exact⟨z6 HR.o.symm,HB1.o.trans (HB2.o.mono HB1.o.size)⟩
 rcases Classical.em (k= 2) with hk2|hk2
 ·subst hk2
  by_cases hn:n < 0
  ·have hn2: ¬ 0<=n:=by omega
   have HR:Hid (zL (.mk 2 n f s ns its)= false):=I (by rw[HCV.o];rw[decide_eq_false hn2];rfl)
   go_enter Tryz.func95,Tryz.ntmps95
   go_upto_region 1 with (fail)
   generalize w.alloc (.cells ⟨[.int .i64 2,.int .i64 n,.float .f64 f,.string s,vn,vi]⟩ 27)= W at*
   go_wp2_with (first|((with_reducible refine z7 27 _ rfl ?_ w.heap.size 0 [.int .i64 2,.int .i64 n,.float .f64 f,.string s,vn,vi] _ rfl HRG.o Tryz.underlying27 rfl ?_ ?_);(exact wA rfl);kernel_rfl)|(go_at_call 38;refine HRT.o.mono ?_;rintro e z ⟨rfl,hb⟩;have HB2:=I hb;clear hb))
   go_ret
   exact⟨z6 HR.o.symm,HB1.o⟩
  ·have hn2:0<=n:=by omega
   have HR:Hid (zL (.mk 2 n f s ns its)= rr):=I (by rw[HCV.o];rw[decide_eq_true hn2];cases rr<;>rfl)
   go_enter Tryz.func95,Tryz.ntmps95
   go_upto_region 1 with (fail)
   generalize w.alloc (.cells ⟨[.int .i64 2,.int .i64 n,.float .f64 f,.string s,vn,vi]⟩ 27)= W at*
   go_wp2_with (first|((with_reducible refine z7 27 _ rfl ?_ w.heap.size 0 [.int .i64 2,.int .i64 n,.float .f64 f,.string s,vn,vi] _ rfl HRG.o Tryz.underlying27 rfl ?_ ?_);(exact wA rfl);kernel_rfl)|(go_at_call 38;refine HRT.o.mono ?_;rintro e z ⟨rfl,hb⟩;have HB2:=I hb;clear hb))
   go_ret
   exact⟨z6 HR.o.symm,HB1.o.trans (HB2.o.mono HB1.o.size)⟩
 rcases Classical.em (k= 3) with hk3|hk3
 ·subst hk3
  have HFO:=I (fun w=>z0E f 0 hf (by decide) w)
  cases hlt:(fOrd f 0 ==some .lt) with
  |true=>
   have hneg:negB f= true:=decide_eq_true (zgj hf hlt)
   have t1:(FloatKind.f64.format.order f 0 ==some .lt)= true:=hlt
   clear hlt
   have HR:Hid (zL (.mk 3 n f s ns its)= false):=I (by rw[HCV.o];rw[hneg];rfl)
   go_enter Tryz.func95,Tryz.ntmps95
   go_upto_region 1 with (fail)
   generalize w.alloc (.cells ⟨[.int .i64 3,.int .i64 n,.float .f64 f,.string s,vn,vi]⟩ 27)= W at*
   go_wp2_with (first|((with_reducible refine z7 27 _ rfl ?_ w.heap.size 0 [.int .i64 3,.int .i64 n,.float .f64 f,.string s,vn,vi] _ rfl HRG.o Tryz.underlying27 rfl ?_ ?_);(exact wA rfl);kernel_rfl)|(go_at_call 38;refine HRT.o.mono ?_;rintro e z ⟨rfl,hb⟩;have HB2:=I hb;clear hb)|(go_at_call 132;refine(HFO.o _).mono ?_;rintro e z ⟨rfl,rfl⟩))
   go_ret
   exact⟨z6 HR.o.symm,HB1.o⟩
  |false=>
   have t1:(FloatKind.f64.format.order f 0 ==some .lt)= false:=hlt
   clear hlt
   by_cases hc:cmpF f 0 < 0
   ·have hneg:negB f= true:=decide_eq_true hc
    have HNG:=I hneg
    generalize cmpF f 0= cf at*
    have HR:Hid (zL (.mk 3 n f s ns its)= false):=I (by rw[HCV.o];rw[HNG.o];rfl)
    go_enter Tryz.func95,Tryz.ntmps95
    go_upto_region 1 with (fail)
    generalize w.alloc (.cells ⟨[.int .i64 3,.int .i64 n,.float .f64 f,.string s,vn,vi]⟩ 27)= W at*
    go_wp2_with (first|((with_reducible refine z7 27 _ rfl ?_ w.heap.size 0 [.int .i64 3,.int .i64 n,.float .f64 f,.string s,vn,vi] _ rfl HRG.o Tryz.underlying27 rfl ?_ ?_);(exact wA rfl);kernel_rfl)|(go_at_call 38;refine HRT.o.mono ?_;rintro e z ⟨rfl,hb⟩;have HB2:=I hb;clear hb)|(go_at_call 132;refine(HFO.o _).mono ?_;rintro e z ⟨rfl,rfl⟩))
    go_ret
    exact⟨z6 HR.o.symm,HB1.o⟩
   ·have hneg:negB f= false:=decide_eq_false hc
    have HNG:=I hneg
    generalize cmpF f 0= cf at*
    have HR:Hid (zL (.mk 3 n f s ns its)= rr):=I (by rw[HCV.o];rw[HNG.o];cases rr<;>rfl)
    go_enter Tryz.func95,Tryz.ntmps95
    go_upto_region 1 with (fail)
    generalize w.alloc (.cells ⟨[.int .i64 3,.int .i64 n,.float .f64 f,.string s,vn,vi]⟩ 27)= W at*
    go_wp2_with (first|((with_reducible refine z7 27 _ rfl ?_ w.heap.size 0 [.int .i64 3,.int .i64 n,.float .f64 f,.string s,vn,vi] _ rfl HRG.o Tryz.underlying27 rfl ?_ ?_);(exact wA rfl);kernel_rfl)|(go_at_call 38;refine HRT.o.mono ?_;rintro e z ⟨rfl,hb⟩;have HB2:=I hb;clear hb)|(go_at_call 132;refine(HFO.o _).mono ?_;rintro e z ⟨rfl,rfl⟩))
    go_ret
    exact⟨z6 HR.o.symm,HB1.o.trans (HB2.o.mono HB1.o.size)⟩
 have e1:(k ==1)= false:=by rw[beq_eq_false_iff_ne];exact hk1
 have e4:(k ==4)= false:=by rw[beq_eq_false_iff_ne];exact hk4
 have e2:(k ==2)= false:=by rw[beq_eq_false_iff_ne];exact hk2
 have e3:(k ==3)= false:=by rw[beq_eq_false_iff_ne];exact hk3
 have HR:Hid (zL (.mk k n f s ns its)= false):=I (by rw[HCV.o];rw[e1,e2,e3,e4];rfl)
 go_enter Tryz.func95,Tryz.ntmps95
 go_upto_region 1 with (fail)
 generalize w.alloc (.cells ⟨[.int .i64 k,.int .i64 n,.float .f64 f,.string s,vn,vi]⟩ 27)= W at*
 go_wp2_with (first|((with_reducible refine z7 27 _ rfl ?_ w.heap.size 0 [.int .i64 k,.int .i64 n,.float .f64 f,.string s,vn,vi] _ rfl HRG.o Tryz.underlying27 rfl ?_ ?_);(exact wA rfl);kernel_rfl)|(go_at_call 38;refine HRT.o.mono ?_;rintro e z ⟨rfl,hb⟩;have HB2:=I hb;clear hb))
 go_ret
 exact⟨z6 HR.o.symm,HB1.o⟩
theorem zaS (t:VT) (cs:List Value) (w:World) (hv:ValAt w w.heap.size cs t) (HR0:∀ z,ValAt z z.heap.size cs t->Calls Tryz.prog 12 #[.agg ⟨cs⟩] z fun e w'=>e= .returned (.bool (zl t))/\Below z.heap.size z w'):Calls Tryz.prog 78 #[.agg ⟨cs⟩] w fun e w'=>e= .returned (.bool (zL t))/\Below w.heap.size w w':=by
 cases t with
 |mk k n f s ns its=>
 obtain⟨vn,vi,rfl,_,_,hff,_,_,_,_⟩:=hv.inv
 have hf:=wf64 hff
 have HB1:=I (zc w (.cells ⟨[.int .i64 k,.int .i64 n,.float .f64 f,.string s,vn,vi]⟩ 27))
 have HRG:=I (zm w [.int .i64 k,.int .i64 n,.float .f64 f,.string s,vn,vi] 27)
 have HRT:Hid (Calls Tryz.prog 12 #[.agg ⟨[.int .i64 k,.int .i64 n,.float .f64 f,.string s,vn,vi]⟩] (w.alloc (.cells ⟨[.int .i64 k,.int .i64 n,.float .f64 f,.string s,vn,vi]⟩ 27)) fun e w'=>e= .returned (.bool (zl (.mk k n f s ns its)))/\Below (w.alloc (.cells ⟨[.int .i64 k,.int .i64 n,.float .f64 f,.string s,vn,vi]⟩ 27)).heap.size (w.alloc (.cells ⟨[.int .i64 k,.int .i64 n,.float .f64 f,.string s,vn,vi]⟩ 27)) w'):=I (HR0 _ (hv.next HB1.o))
 have d0:=zp w ⟨[.int .i64 k,.int .i64 n,.float .f64 f,.string s,vn,vi]⟩ 27 0
 have d1:=zp w ⟨[.int .i64 k,.int .i64 n,.float .f64 f,.string s,vn,vi]⟩ 27 1
 have d2:=zp w ⟨[.int .i64 k,.int .i64 n,.float .f64 f,.string s,vn,vi]⟩ 27 2
 simp only[List.getElem?_toArray,List.getElem?_cons_succ,List.getElem?_cons_zero] at d0 d1 d2
 have D1:=I d1
 have D2:=I d2
 have HSZ:=I (zw w (.cells ⟨[.int .i64 k,.int .i64 n,.float .f64 f,.string s,vn,vi]⟩ 27))
 have HCV:Hid (zL (.mk k n f s ns its)=(((k ==1) ||((k ==4) ||(((k ==2) && decide (0<=n)) ||((k ==3) && !(negB f))))) && zl (.mk k n f s ns its))):=I rfl
 clear hv hff HR0
 generalize zl (.mk k n f s ns its)= rr at*
 rcases Classical.em (k= 1) with hk1|hk1
 ·subst hk1
  cases rr with
  |false=>
   have HR:Hid (zL (.mk 1 n f s ns its)= false):=I (by rw[HCV.o];rfl)
   go_enter Tryz.func78,Tryz.ntmps78
   go_upto_region 1 with (fail)
   generalize w.alloc (.cells ⟨[.int .i64 1,.int .i64 n,.float .f64 f,.string s,vn,vi]⟩ 27)= W at*
   go_wp2_with (first|((with_reducible refine z7 27 _ rfl ?_ w.heap.size 0 [.int .i64 1,.int .i64 n,.float .f64 f,.string s,vn,vi] _ rfl HRG.o Tryz.underlying27 rfl ?_ ?_);(exact wA rfl);kernel_rfl)|(go_at_call 12;refine HRT.o.mono ?_;rintro e z ⟨rfl,hb⟩;have HB2:=I hb;have z1:=(hb.cell (p:=⟨w.heap.size,1,none⟩) HSZ.o).trans D1.o;have z2:=(hb.cell (p:=⟨w.heap.size,2,none⟩) HSZ.o).trans D2.o;clear hb))
   go_ret
   exact⟨z6 HR.o.symm,HB1.o.trans (HB2.o.mono HB1.o.size)⟩
  |true=>
   have HR:Hid (zL (.mk 1 n f s ns its)= true):=I (by rw[HCV.o];rfl)
   go_enter Tryz.func78,Tryz.ntmps78
   go_upto_region 1 with (fail)
   generalize w.alloc (.cells ⟨[.int .i64 1,.int .i64 n,.float .f64 f,.string s,vn,vi]⟩ 27)= W at*
   go_wp2_with (first|((with_reducible refine z7 27 _ rfl ?_ w.heap.size 0 [.int .i64 1,.int .i64 n,.float .f64 f,.string s,vn,vi] _ rfl HRG.o Tryz.underlying27 rfl ?_ ?_);(exact wA rfl);kernel_rfl)|(go_at_call 12;refine HRT.o.mono ?_;rintro e z ⟨rfl,hb⟩;have HB2:=I hb;have z1:=(hb.cell (p:=⟨w.heap.size,1,none⟩) HSZ.o).trans D1.o;have z2:=(hb.cell (p:=⟨w.heap.size,2,none⟩) HSZ.o).trans D2.o;clear hb))
   go_ret
   exact⟨z6 HR.o.symm,HB1.o.trans (HB2.o.mono HB1.o.size)⟩
 rcases Classical.em (k= 4) with hk4|hk4
 ·subst hk4
  cases rr with
  |false=>
   have HR:Hid (zL (.mk 4 n f s ns its)= false):=I (by rw[HCV.o];rfl)
   go_enter Tryz.func78,Tryz.ntmps78
   go_upto_region 1 with (fail)
   generalize w.alloc (.cells ⟨[.int .i64 4,.int .i64 n,.float .f64 f,.string s,vn,vi]⟩ 27)= W at*
   go_wp2_with (first|((with_reducible refine z7 27 _ rfl ?_ w.heap.size 0 [.int .i64 4,.int .i64 n,.float .f64 f,.string s,vn,vi] _ rfl HRG.o Tryz.underlying27 rfl ?_ ?_);(exact wA rfl);kernel_rfl)|(go_at_call 12;refine HRT.o.mono ?_;rintro e z ⟨rfl,hb⟩;have HB2:=I hb;have z1:=(hb.cell (p:=⟨w.heap.size,1,none⟩) HSZ.o).trans D1.o;have z2:=(hb.cell (p:=⟨w.heap.size,2,none⟩) HSZ.o).trans D2.o;clear hb))
   go_ret
   exact⟨z6 HR.o.symm,HB1.o.trans (HB2.o.mono HB1.o.size)⟩
  |true=>
   have HR:Hid (zL (.mk 4 n f s ns its)= true):=I (by rw[HCV.o];rfl)
   go_enter Tryz.func78,Tryz.ntmps78
   go_upto_region 1 with (fail)
   generalize w.alloc (.cells ⟨[.int .i64 4,.int .i64 n,.float .f64 f,.string s,vn,vi]⟩ 27)= W at*
   go_wp2_with (first|((with_reducible refine z7 27 _ rfl ?_ w.heap.size 0 [.int .i64 4,.int .i64 n,.float .f64 f,.string s,vn,vi] _ rfl HRG.o Tryz.underlying27 rfl ?_ ?_);(exact wA rfl);kernel_rfl)|(go_at_call 12;refine HRT.o.mono ?_;rintro e z ⟨rfl,hb⟩;have HB2:=I hb;have z1:=(hb.cell (p:=⟨w.heap.size,1,none⟩) HSZ.o).trans D1.o;have z2:=(hb.cell (p:=⟨w.heap.size,2,none⟩) HSZ.o).trans D2.o;clear hb))
   go_ret
   exact⟨z6 HR.o.symm,HB1.o.trans (HB2.o.mono HB1.o.size)⟩
 rcases Classical.em (k= 2) with hk2|hk2
 ·subst hk2
  cases rr with
  |false=>
   have HR:Hid (zL (.mk 2 n f s ns its)= false):=I (by rw[HCV.o];cases decide (0<=n)<;>rfl)
   go_enter Tryz.func78,Tryz.ntmps78
   go_upto_region 1 with (fail)
   generalize w.alloc (.cells ⟨[.int .i64 2,.int .i64 n,.float .f64 f,.string s,vn,vi]⟩ 27)= W at*
   go_wp2_with (first|((with_reducible refine z7 27 _ rfl ?_ w.heap.size 0 [.int .i64 2,.int .i64 n,.float .f64 f,.string s,vn,vi] _ rfl HRG.o Tryz.underlying27 rfl ?_ ?_);(exact wA rfl);kernel_rfl)|(go_at_call 12;refine HRT.o.mono ?_;rintro e z ⟨rfl,hb⟩;have HB2:=I hb;have z1:=(hb.cell (p:=⟨w.heap.size,1,none⟩) HSZ.o).trans D1.o;have z2:=(hb.cell (p:=⟨w.heap.size,2,none⟩) HSZ.o).trans D2.o;clear hb))
   go_ret
   exact⟨z6 HR.o.symm,HB1.o.trans (HB2.o.mono HB1.o.size)⟩
  |true=>
   by_cases hn:0<=n
   ·have HR:Hid (zL (.mk 2 n f s ns its)= true):=I (by rw[HCV.o];rw[decide_eq_true hn];rfl)
    go_enter Tryz.func78,Tryz.ntmps78
    go_upto_region 1 with (fail)
    generalize w.alloc (.cells ⟨[.int .i64 2,.int .i64 n,.float .f64 f,.string s,vn,vi]⟩ 27)= W at*
    go_wp2_with (first|((with_reducible refine z7 27 _ rfl ?_ w.heap.size 0 [.int .i64 2,.int .i64 n,.float .f64 f,.string s,vn,vi] _ rfl HRG.o Tryz.underlying27 rfl ?_ ?_);(exact wA rfl);kernel_rfl)|(go_at_call 12;refine HRT.o.mono ?_;rintro e z ⟨rfl,hb⟩;have HB2:=I hb;have z1:=(hb.cell (p:=⟨w.heap.size,1,none⟩) HSZ.o).trans D1.o;have z2:=(hb.cell (p:=⟨w.heap.size,2,none⟩) HSZ.o).trans D2.o;clear hb))
    go_ret
    exact⟨z6 HR.o.symm,HB1.o.trans (HB2.o.mono HB1.o.size)⟩
   ·have HN:=I hn
    have HR:Hid (zL (.mk 2 n f s ns its)= false):=I (by rw[HCV.o];rw[decide_eq_false hn];rfl)
    go_enter Tryz.func78,Tryz.ntmps78
    go_upto_region 1 with (fail)
    generalize w.alloc (.cells ⟨[.int .i64 2,.int .i64 n,.float .f64 f,.string s,vn,vi]⟩ 27)= W at*
    go_wp2_with (first|((with_reducible refine z7 27 _ rfl ?_ w.heap.size 0 [.int .i64 2,.int .i64 n,.float .f64 f,.string s,vn,vi] _ rfl HRG.o Tryz.underlying27 rfl ?_ ?_);(exact wA rfl);kernel_rfl)|(go_at_call 12;refine HRT.o.mono ?_;rintro e z ⟨rfl,hb⟩;have HB2:=I hb;have z1:=(hb.cell (p:=⟨w.heap.size,1,none⟩) HSZ.o).trans D1.o;have z2:=(hb.cell (p:=⟨w.heap.size,2,none⟩) HSZ.o).trans D2.o;clear hb))
    go_ret
    exact⟨z6 ((decide_eq_false (Int.not_le.2 HN.o)).trans HR.o.symm),HB1.o.trans (HB2.o.mono HB1.o.size)⟩
 rcases Classical.em (k= 3) with hk3|hk3
 ·subst hk3
  have HNA:=I (fun w=>z3k f hf w)
  have HTX:=I (fun w=>zfl f hf w)
  obtain⟨c,tl,htx,hc1,hc2⟩:=zai hf
  have hdk:∃ T:ByteArray,(⟨(textF f).toArray⟩:ByteArray)= T/\0 < T.size/\T.data.toList[0]?= some c:=⟨_,rfl,by rw[htx];show 0 <(c::tl).toArray.size;simp,by rw[htx];rfl⟩
  obtain⟨T,hT,hT0,hT1⟩:=hdk
  rw[hT] at HTX
  have dk:=fun h=>zbh (k:=0) (c:=c) hT1 h
  have hnn:nanR f= true->negB f= false:=fun h=>decide_eq_false fun h2=>by
   have:=((z8e hf).1 h2).1
   rw[z6p hf] at h
   exact this (of_decide_eq_true h)
  clear hT hT1 htx
  cases rr with
  |false=>
   have HR:Hid (zL (.mk 3 n f s ns its)= false):=I (by rw[HCV.o];cases negB f<;>rfl)
   go_enter Tryz.func78,Tryz.ntmps78
   go_upto_region 1 with (fail)
   generalize w.alloc (.cells ⟨[.int .i64 3,.int .i64 n,.float .f64 f,.string s,vn,vi]⟩ 27)= W at*
   go_wp2_with (first|((with_reducible refine z7 27 _ rfl ?_ w.heap.size 0 [.int .i64 3,.int .i64 n,.float .f64 f,.string s,vn,vi] _ rfl HRG.o Tryz.underlying27 rfl ?_ ?_);(exact wA rfl);kernel_rfl)|(go_at_call 12;refine HRT.o.mono ?_;rintro e z ⟨rfl,hb⟩;have HB2:=I hb;have z1:=(hb.cell (p:=⟨w.heap.size,1,none⟩) HSZ.o).trans D1.o;have z2:=(hb.cell (p:=⟨w.heap.size,2,none⟩) HSZ.o).trans D2.o;clear hb)|(go_at_call 119;refine(HNA.o _).mono ?_;rintro e z ⟨rfl,rfl⟩)|(go_at_call 120;refine(HTX.o _).mono ?_;rintro e z3 ⟨rfl,hb⟩;have HB3:=I hb;clear hb))
   go_ret
   exact⟨z6 HR.o.symm,HB1.o.trans (HB2.o.mono HB1.o.size)⟩
  |true=>
   cases hna:nanR f with
   |true=>
    have HNG:=I (hnn hna)
    rw[hna] at HNA
    clear hna hc1 hc2 hnn
    have HR:Hid (zL (.mk 3 n f s ns its)= true):=I (by rw[HCV.o];rw[HNG.o];rfl)
    go_enter Tryz.func78,Tryz.ntmps78
    go_upto_region 1 with (fail)
    generalize w.alloc (.cells ⟨[.int .i64 3,.int .i64 n,.float .f64 f,.string s,vn,vi]⟩ 27)= W at*
    go_wp2_with (first|((with_reducible refine z7 27 _ rfl ?_ w.heap.size 0 [.int .i64 3,.int .i64 n,.float .f64 f,.string s,vn,vi] _ rfl HRG.o Tryz.underlying27 rfl ?_ ?_);(exact wA rfl);kernel_rfl)|(go_at_call 12;refine HRT.o.mono ?_;rintro e z ⟨rfl,hb⟩;have HB2:=I hb;have z1:=(hb.cell (p:=⟨w.heap.size,1,none⟩) HSZ.o).trans D1.o;have z2:=(hb.cell (p:=⟨w.heap.size,2,none⟩) HSZ.o).trans D2.o;clear hb)|(go_at_call 119;refine(HNA.o _).mono ?_;rintro e z ⟨rfl,rfl⟩)|(go_at_call 120;refine(HTX.o _).mono ?_;rintro e z3 ⟨rfl,hb⟩;have HB3:=I hb;clear hb))
    go_ret
    exact⟨z6 HR.o.symm,HB1.o.trans (HB2.o.mono HB1.o.size)⟩
   |false=>
    rw[hna] at HNA
    cases hng:negB f with
    |true=>
     have HNG:=I hng
     obtain rfl:=hc1 hng
     clear hna hc1 hc2 hnn hng
     have HR:Hid (zL (.mk 3 n f s ns its)= false):=I (by rw[HCV.o];rw[HNG.o];rfl)
     go_enter Tryz.func78,Tryz.ntmps78
     go_upto_region 1 with (fail)
     generalize w.alloc (.cells ⟨[.int .i64 3,.int .i64 n,.float .f64 f,.string s,vn,vi]⟩ 27)= W at*
     go_wp2_with (first|((with_reducible refine z7 27 _ rfl ?_ w.heap.size 0 [.int .i64 3,.int .i64 n,.float .f64 f,.string s,vn,vi] _ rfl HRG.o Tryz.underlying27 rfl ?_ ?_);(exact wA rfl);kernel_rfl)|(go_at_call 12;refine HRT.o.mono ?_;rintro e z ⟨rfl,hb⟩;have HB2:=I hb;have z1:=(hb.cell (p:=⟨w.heap.size,1,none⟩) HSZ.o).trans D1.o;have z2:=(hb.cell (p:=⟨w.heap.size,2,none⟩) HSZ.o).trans D2.o;clear hb)|(go_at_call 119;refine(HNA.o _).mono ?_;rintro e z ⟨rfl,rfl⟩)|(go_at_call 120;refine(HTX.o _).mono ?_;rintro e z3 ⟨rfl,hb⟩;have HB3:=I hb;clear hb))
     go_ret
     exact⟨z6 HR.o.symm,(HB1.o.trans (HB2.o.mono HB1.o.size)).trans (HB3.o.mono (Nat.le_trans HB1.o.size HB2.o.size))⟩
    |false=>
     have HNG:=I hng
     have hne:((c.toNat:Int) ==45)= false:=by
      rw[beq_eq_false_iff_ne]
      intro h
      have:=hc2 hng hna
      exact this (UInt8.toNat_inj.1 (by show c.toNat= 45;omega))
     have HNE:=I hne
     clear hna hc1 hc2 hnn hng
     have HR:Hid (zL (.mk 3 n f s ns its)= true):=I (by rw[HCV.o];rw[HNG.o];rfl)
     go_enter Tryz.func78,Tryz.ntmps78
     go_upto_region 1 with (fail)
     generalize w.alloc (.cells ⟨[.int .i64 3,.int .i64 n,.float .f64 f,.string s,vn,vi]⟩ 27)= W at*
     go_wp2_with (first|((with_reducible refine z7 27 _ rfl ?_ w.heap.size 0 [.int .i64 3,.int .i64 n,.float .f64 f,.string s,vn,vi] _ rfl HRG.o Tryz.underlying27 rfl ?_ ?_);(exact wA rfl);kernel_rfl)|(go_at_call 12;refine HRT.o.mono ?_;rintro e z ⟨rfl,hb⟩;have HB2:=I hb;have z1:=(hb.cell (p:=⟨w.heap.size,1,none⟩) HSZ.o).trans D1.o;have z2:=(hb.cell (p:=⟨w.heap.size,2,none⟩) HSZ.o).trans D2.o;clear hb)|(go_at_call 119;refine(HNA.o _).mono ?_;rintro e z ⟨rfl,rfl⟩)|(go_at_call 120;refine(HTX.o _).mono ?_;rintro e z3 ⟨rfl,hb⟩;have HB3:=I hb;clear hb))
     go_ret
     exact⟨z6 ((by show(!((c.toNat:Int) ==45))= true;rw[HNE.o];rfl:((c.toNat:Int) !=45)= true).trans HR.o.symm),(HB1.o.trans (HB2.o.mono HB1.o.size)).trans (HB3.o.mono (Nat.le_trans HB1.o.size HB2.o.size))⟩
 have e1:(k ==1)= false:=by rw[beq_eq_false_iff_ne];exact hk1
 have e4:(k ==4)= false:=by rw[beq_eq_false_iff_ne];exact hk4
 have e2:(k ==2)= false:=by rw[beq_eq_false_iff_ne];exact hk2
 have e3:(k ==3)= false:=by rw[beq_eq_false_iff_ne];exact hk3
 have HR:Hid (zL (.mk k n f s ns its)= false):=I (by rw[HCV.o];rw[e1,e2,e3,e4];rfl)
 go_enter Tryz.func78,Tryz.ntmps78
 go_upto_region 1 with (fail)
 generalize w.alloc (.cells ⟨[.int .i64 k,.int .i64 n,.float .f64 f,.string s,vn,vi]⟩ 27)= W at*
 go_wp2_with (first|((with_reducible refine z7 27 _ rfl ?_ w.heap.size 0 [.int .i64 k,.int .i64 n,.float .f64 f,.string s,vn,vi] _ rfl HRG.o Tryz.underlying27 rfl ?_ ?_);(exact wA rfl);kernel_rfl)|(go_at_call 12;refine HRT.o.mono ?_;rintro e z ⟨rfl,hb⟩;have HB2:=I hb;have z1:=(hb.cell (p:=⟨w.heap.size,1,none⟩) HSZ.o).trans D1.o;have z2:=(hb.cell (p:=⟨w.heap.size,2,none⟩) HSZ.o).trans D2.o;clear hb))
 go_ret
 exact⟨z6 HR.o.symm,HB1.o⟩
end
section
open Go Go.RowKit
def kidsB (z:Int) (n:Nat):Bool:=!(z == -2) && (decide (z < 0) ||((n:Int) ==z))
def noneV:VT->Bool
 | .mk k n f s ns its=>noneB k n f s ns.length its.length
def valB (k:Int) (v:VT):Bool:=if k= 1 then zL v else noneV v
mutual
def zK:ET->Nat->Bool
 | .mk k s v ns its,d=>decide (d<=12) && (kidsB (z0e k) its.length && (zJ k s ns its.length && (valB k v && zP its (d+1))))
def zP:List ET->Nat->Bool
 |[],_=>true
 |a::l,d=>zK a d && zP l d
end
theorem z0S {l:List ET} {j d:Nat} {x:ET} (h:l[j]?= some x):zP (l.drop j) d=(zK x d && zP (l.drop (j+1)) d):=by
 rw[z3D h,zP]
theorem z12 {l:List ET} {d:Nat}:zP (l.drop l.length) d= true:=by
 rw[List.drop_eq_nil_of_le (Nat.le_refl _),zP]
theorem z4I (k:Int): -2<=z0e k/\z0e k<=3:=by
 unfold z0e
 (repeat' split)<;>omega
theorem z3l {w:World} {p o i:Nat} {cs ds:List Value} (h:w.rangeAt p o cs) (hd:∀ j v,ds[j]?= some v->cs[i+j]?= some v):w.rangeAt p (o+i) ds:=fun j v hv=>by
 have:=h (i+j) v (hd j v hv)
 rw[show o+i+j= o+ (i+j) by omega];exact this
theorem z3X {w w':World} {p o:Nat} {cs:List Value} (h:w.rangeAt p o cs) (hb:Below w.heap.size w w') (hp:p < w.heap.size):w'.rangeAt p o cs:=za h hb hp
theorem zap:∀ (t:ET) (d:Nat) (cs:List Value) (p o:Nat) (w:World),d<=13->w.rangeAt p o cs->ExpAt w w.heap.size cs t->
  Calls Tryz.prog 57 #[.pointer (some ⟨p,o,none⟩),.int .i64 d] w fun e w'=>e= .returned (.bool (zK t d))/\Below w.heap.size w w':=by
 intro t
 induction t using ET.ind with
 |h k s v ns its ih=>
  intro d cs p o w hd13 hr hv
  have IH:=I ih
  obtain⟨v0,v1,v2,v3,v4,v5,vn0,vi0,rfl,_,_,hvv,hns,hil,hi⟩:=hv.inv
  obtain⟨_,A,c,rfl,hA⟩:=hi
  obtain⟨_,NA,nc,rfl,_⟩:=id hns
  cases v with
  |mk vk vn vf vs vns vits=>
  obtain⟨u0,u1,hcv,_,_,hvf,_,hvns,_,hvi⟩:=hvv.inv
  obtain⟨_,VA,vc,rfl,_⟩:=hvns
  obtain⟨_,VD,vd,rfl,_⟩:=hvi
  simp only[List.cons.injEq,and_true] at hcv
  obtain⟨rfl,rfl,rfl,rfl,rfl,rfl⟩:=hcv
  have hvf':=wf64 hvf
  have HA:=I hA
  have d0:w.cell? ⟨p,o,none⟩= some (.int .i64 k):=hr 0 _ rfl
  have d9:w.cell? ⟨p,o+9,none⟩= some (.slice A its.length c):=hr 9 _ rfl
  have HPL:Hid (p < w.heap.size):=I (z2k d0)
  have D0:=I d0
  have D9:=I d9
  have HRV:Hid (w.rangeAt p (o+2) [.int .i64 vk,.int .i64 vn,.float .f64 vf,.string vs,.slice VA vns.length vc,.slice VD vits.length vd]):=I (z3l hr (fun j x h=>match j,h with|0,h=>h|1,h=>h|2,h=>h|3,h=>h|4,h=>h|5,h=>h|j+6,h=>by simp at h))
  have HNM:=I (zbE k p o s (.int .i64 vk) (.int .i64 vn) (.float .f64 vf) (.string vs) (.slice VA vns.length vc) (.slice VD vits.length vd) NA A nc its.length c ns w hr hns)
  have HKD:=I (fun w=>zee k w)
  have HVV:=I hvv
  have HVF:=I hvf'
  have HRE:Hid (zK (.mk k s (.mk vk vn vf vs vns vits) ns its) d=(decide (d<=12) && (kidsB (z0e k) its.length && (zJ k s ns its.length && (valB k (.mk vk vn vf vs vns vits) && zP its (d+1)))))):=I (by rw[zK])
  have HWR:=z4I k
  obtain⟨zz,hz⟩:∃ z,z0e k= z:=⟨_,rfl⟩
  rw[hz] at HKD HRE HWR
  unfold maxLen at hil
  clear hr hv ih hA hns hvf hvf' hvv hz
  generalize zK (.mk k s (.mk vk vn vf vs vns vits) ns its) d= res at*
  by_cases hd:d<=12
  ·have hd': ¬ ((d:Int) > 12):=by omega
   have HD:=I hd
   by_cases hz2:zz= -2
   ·have e2:(zz == -2)= true:=by simpa using hz2
    have HR:Hid (res= false):=I (by rw[HRE.o,(by unfold kidsB;rw[e2];rfl:kidsB zz its.length= false)];simp)
    go_enter Tryz.func57,Tryz.ntmps57
    go_wp2_with (go_at_call 93;refine(HKD.o _).mono ?_;rintro e z ⟨rfl,hzw⟩;rw[hzw];clear hzw z)
    go_ret
    exact⟨z6 HR.o.symm,Below.refl _ _⟩
   have e2:(zz == -2)= false:=by simpa using hz2
   by_cases hko:kidsB zz its.length= false
   ·have hz0:0<=zz/\¬ (its.length:Int)= zz:=by
     unfold kidsB at hko
     rw[e2] at hko
     simp at hko
     omega
    obtain⟨hz0,hz1⟩:=hz0
    have HR:Hid (res= false):=I (by rw[HRE.o,hko];simp)
    go_enter Tryz.func57,Tryz.ntmps57
    go_wp2_with (go_at_call 93;refine(HKD.o _).mono ?_;rintro e z ⟨rfl,hzw⟩;rw[hzw];clear hzw z)
    go_ret
    exact⟨z6 HR.o.symm,Below.refl _ _⟩
   have hko2:kidsB zz its.length= true:=by simpa using hko
   have HKO:=I hko2
   have hzc:zz < 0\/(its.length:Int)= zz:=by
    unfold kidsB at hko2
    rw[e2] at hko2
    simp at hko2
    exact hko2
   clear hko hko2
   rw[HKO.o,decide_eq_true HD.o,Bool.true_and,Bool.true_and] at HRE
   cases hnm:zJ k s ns its.length with
   |false=>
    rw[hnm] at HNM HRE
    clear hnm
    rcases hzc with hz0|hz1
    ·have hz0': ¬ (0<=zz):=by omega
     clear hz0
     have HR:Hid (res= false):=I (HRE.o.trans (Bool.false_and _))
     go_enter Tryz.func57,Tryz.ntmps57
     go_wp2_with (first|(go_at_call 93;refine(HKD.o _).mono ?_;rintro e z ⟨rfl,hzw⟩;rw[hzw];clear hzw z)|(go_at_call 94;refine HNM.o.mono ?_;rintro e w1 ⟨rfl,hb⟩;have HB1:=I hb;have x0:=(hb.cell (p:=⟨p,o,none⟩) HPL.o).trans D0.o;have x9:=(hb.cell (p:=⟨p,o+9,none⟩) HPL.o).trans D9.o;clear hb))
     go_ret
     exact⟨z6 HR.o.symm,HB1.o⟩
    ·subst hz1
     have hz0':0<=(its.length:Int):=by omega
     have HR:Hid (res= false):=I (HRE.o.trans (Bool.false_and _))
     go_enter Tryz.func57,Tryz.ntmps57
     go_wp2_with (first|(go_at_call 93;refine(HKD.o _).mono ?_;rintro e z ⟨rfl,hzw⟩;rw[hzw];clear hzw z)|(go_at_call 94;refine HNM.o.mono ?_;rintro e w1 ⟨rfl,hb⟩;have HB1:=I hb;have x0:=(hb.cell (p:=⟨p,o,none⟩) HPL.o).trans D0.o;have x9:=(hb.cell (p:=⟨p,o+9,none⟩) HPL.o).trans D9.o;clear hb))
     go_ret
     exact⟨z6 HR.o.symm,HB1.o⟩
   |true=>
    rw[hnm,Bool.true_and] at HRE
    rw[hnm] at HNM
    clear hnm
    rcases hzc with hz0|hz1
    ·have hz0': ¬ (0<=zz):=by omega
     clear hz0
     go_enter Tryz.func57,Tryz.ntmps57
     go_upto_region 4 with (first|(go_at_call 93;refine(HKD.o _).mono ?_;rintro e z ⟨rfl,hzw⟩;rw[hzw];clear hzw z)|(go_at_call 94;refine HNM.o.mono ?_;rintro e w1 ⟨rfl,hb⟩;have HB1:=I hb;have x0:=(hb.cell (p:=⟨p,o,none⟩) HPL.o).trans D0.o;have x9:=(hb.cell (p:=⟨p,o+9,none⟩) HPL.o).trans D9.o;clear hb))
     have X9:=I x9
     have X0:=I x0
     have HRV1:=I (z3X HRV.o HB1.o HPL.o)
     clear x9
     by_cases hk1:k= 1
     ·subst hk1
      have HCC:=I (z7g (.mk vk vn vf vs vns vits) [.int .i64 vk,.int .i64 vn,.float .f64 vf,.string vs,.slice VA vns.length vc,.slice VD vits.length vd] w1 ((HVV.o.under HB1.o).more HB1.o.size))
      have hval:valB 1 (.mk vk vn vf vs vns vits)= zL (.mk vk vn vf vs vns vits):=by unfold valB;rw[if_pos rfl]
      rw[hval] at HRE
      cases hvb:zL (.mk vk vn vf vs vns vits) with
      |false=>
       have HR:Hid (res= false):=I (HRE.o.trans (by rw[hvb];exact Bool.false_and _))
       rw[hvb] at HCC
       clear hvb hval
       go_wp2_with (first|((with_reducible refine z7 27 _ rfl ?_ p (o+2) [.int .i64 vk,.int .i64 vn,.float .f64 vf,.string vs,.slice VA vns.length vc,.slice VD vits.length vd] _ rfl HRV1.o Tryz.underlying27 rfl ?_ ?_);(exact wA rfl);kernel_rfl)|(go_at_call 95;refine HCC.o.mono ?_;rintro e w2 ⟨rfl,hb⟩;have HB2:=I hb;have y0:=(hb.cell (p:=⟨p,o,none⟩) (Nat.lt_of_lt_of_le HPL.o HB1.o.size)).trans X0.o;have y9:=(hb.cell (p:=⟨p,o+9,none⟩) (Nat.lt_of_lt_of_le HPL.o HB1.o.size)).trans X9.o;clear hb))
       go_ret
       exact⟨z6 HR.o.symm,HB1.o.trans (HB2.o.mono HB1.o.size)⟩
      |true=>
       have HRR:Hid (res= zP its (d+1)):=I (HRE.o.trans (by rw[hvb,Bool.true_and]))
       rw[hvb] at HCC
       clear hvb hval
       go_upto_region 7 with (first|((with_reducible refine z7 27 _ rfl ?_ p (o+2) [.int .i64 vk,.int .i64 vn,.float .f64 vf,.string vs,.slice VA vns.length vc,.slice VD vits.length vd] _ rfl HRV1.o Tryz.underlying27 rfl ?_ ?_);(exact wA rfl);kernel_rfl)|(go_at_call 95;refine HCC.o.mono ?_;rintro e w2 ⟨rfl,hb⟩;have HB2:=I hb;have y0:=(hb.cell (p:=⟨p,o,none⟩) (Nat.lt_of_lt_of_le HPL.o HB1.o.size)).trans X0.o;have y9:=(hb.cell (p:=⟨p,o+9,none⟩) (Nat.lt_of_lt_of_le HPL.o HB1.o.size)).trans X9.o;clear hb))
       clear y9
       go_loopg [68] its.length (fun q x u=>∃ j:Nat,j+q= its.length/\x= .int .i64 j/\Below w.heap.size w u/\zP (its.drop j) (d+1)= res)
       case atStart=>exact⟨0,by omega,rfl,HB1.o.trans (HB2.o.mono HB1.o.size),HRR.o.symm⟩
       case round=>
        obtain⟨j,hj,rfl,hbu,hres⟩:=hrel
        have HBU:=I hbu
        have HR:=I hres
        have u9:=(hbu.cell (p:=⟨p,o+9,none⟩) HPL.o).trans D9.o
        clear hbu hres
        cases gk with
        |zero=>
         obtain rfl:j= its.length:=by omega
         have hge: ¬ ((its.length:Int) <(its.length:Int)):=by omega
         have HV:=I (HR.o.symm.trans z12)
         go_wp2
         go_ret
         exact⟨z6 HV.o.symm,HBU.o⟩
        |succ q=>
         have hlt:(j:Int) <(its.length:Int):=by omega
         obtain⟨y,hy⟩:∃ y,its[j]?= some y:=⟨_,List.getElem?_eq_getElem (by omega)⟩
         obtain⟨b,ob,rfl,hbl,hc⟩:=HA.o (by omega)
         obtain⟨ks,hkl,hks,hvx⟩:=hc j y hy
         have HV:=I (HR.o.symm.trans (z0S hy))
         have HC:=I (IH.o y (List.mem_of_getElem? hy) (d+1) ks b (ob+j*10) wr (by omega) (za hks HBU.o hbl) ((hvx.under HBU.o).more HBU.o.size))
         clear hc hks hvx hy HR hkl hbl
         cases hrc:zK y (d+1) with
         |false=>
          have HV2:Hid (res= false):=I (HV.o.trans (by rw[hrc];exact Bool.false_and _))
          rw[hrc] at HC
          clear hrc
          go_wp2_with (go_at_call 57;refine HC.o.mono ?_;rintro e w4 ⟨rfl,hb⟩;have HB4:=I hb;clear hb)
          go_ret
          exact⟨z6 HV2.o.symm,HBU.o.trans (HB4.o.mono HBU.o.size)⟩
         |true=>
          have HV2:=I (HV.o.trans (by rw[hrc,Bool.true_and]))
          rw[hrc] at HC
          clear hrc
          go_wp2_with (go_at_call 57;refine HC.o.mono ?_;rintro e w4 ⟨rfl,hb⟩;have HB4:=I hb;clear hb)
          go_roundg q
          case measure=>omega
          case rel=>exact⟨j+1,by omega,by go_num,HBU.o.trans (HB4.o.mono HBU.o.size),HV2.o.symm⟩
     ·have hk1n:(k !=1)= true:=by simpa using hk1
      have HCC:=I (z4H p (o+2) vk vn vf vs VA VD vns.length vits.length vc vd w1 HVF.o HRV1.o)
      have hval:valB k (.mk vk vn vf vs vns vits)= noneB vk vn vf vs vns.length vits.length:=by unfold valB;rw[if_neg hk1];rfl
      rw[hval] at HRE
      have x9:=X9.o
      cases hvb:noneB vk vn vf vs vns.length vits.length with
      |false=>
       have HR:Hid (res= false):=I (HRE.o.trans (by rw[hvb];exact Bool.false_and _))
       rw[hvb] at HCC
       clear hvb hval
       go_wp2_with (go_at_call 96;refine HCC.o.mono ?_;rintro e w2 ⟨rfl,hzw⟩;rw[hzw];clear hzw w2)
       go_ret
       exact⟨z6 HR.o.symm,HB1.o⟩
      |true=>
       have HRR:Hid (res= zP its (d+1)):=I (HRE.o.trans (by rw[hvb,Bool.true_and]))
       rw[hvb] at HCC
       clear hvb hval
       go_upto_region 7 with (go_at_call 96;refine HCC.o.mono ?_;rintro e w2 ⟨rfl,hzw⟩;rw[hzw];clear hzw w2)
       clear x9
       go_loopg [68] its.length (fun q x u=>∃ j:Nat,j+q= its.length/\x= .int .i64 j/\Below w.heap.size w u/\zP (its.drop j) (d+1)= res)
       case atStart=>exact⟨0,by omega,rfl,HB1.o,HRR.o.symm⟩
       case round=>
        obtain⟨j,hj,rfl,hbu,hres⟩:=hrel
        have HBU:=I hbu
        have HR:=I hres
        have u9:=(hbu.cell (p:=⟨p,o+9,none⟩) HPL.o).trans D9.o
        clear hbu hres
        cases gk with
        |zero=>
         obtain rfl:j= its.length:=by omega
         have hge: ¬ ((its.length:Int) <(its.length:Int)):=by omega
         have HV:=I (HR.o.symm.trans z12)
         go_wp2
         go_ret
         exact⟨z6 HV.o.symm,HBU.o⟩
        |succ q=>
         have hlt:(j:Int) <(its.length:Int):=by omega
         obtain⟨y,hy⟩:∃ y,its[j]?= some y:=⟨_,List.getElem?_eq_getElem (by omega)⟩
         obtain⟨b,ob,rfl,hbl,hc⟩:=HA.o (by omega)
         obtain⟨ks,hkl,hks,hvx⟩:=hc j y hy
         have HV:=I (HR.o.symm.trans (z0S hy))
         have HC:=I (IH.o y (List.mem_of_getElem? hy) (d+1) ks b (ob+j*10) wr (by omega) (za hks HBU.o hbl) ((hvx.under HBU.o).more HBU.o.size))
         clear hc hks hvx hy HR hkl hbl
         cases hrc:zK y (d+1) with
         |false=>
          have HV2:Hid (res= false):=I (HV.o.trans (by rw[hrc];exact Bool.false_and _))
          rw[hrc] at HC
          clear hrc
          go_wp2_with (go_at_call 57;refine HC.o.mono ?_;rintro e w4 ⟨rfl,hb⟩;have HB4:=I hb;clear hb)
          go_ret
          exact⟨z6 HV2.o.symm,HBU.o.trans (HB4.o.mono HBU.o.size)⟩
         |true=>
          have HV2:=I (HV.o.trans (by rw[hrc,Bool.true_and]))
          rw[hrc] at HC
          clear hrc
          go_wp2_with (go_at_call 57;refine HC.o.mono ?_;rintro e w4 ⟨rfl,hb⟩;have HB4:=I hb;clear hb)
          go_roundg q
          case measure=>omega
          case rel=>exact⟨j+1,by omega,by go_num,HBU.o.trans (HB4.o.mono HBU.o.size),HV2.o.symm⟩
    ·subst hz1
     have hz0':0<=(its.length:Int):=by omega
     go_enter Tryz.func57,Tryz.ntmps57
     go_upto_region 4 with (first|(go_at_call 93;refine(HKD.o _).mono ?_;rintro e z ⟨rfl,hzw⟩;rw[hzw];clear hzw z)|(go_at_call 94;refine HNM.o.mono ?_;rintro e w1 ⟨rfl,hb⟩;have HB1:=I hb;have x0:=(hb.cell (p:=⟨p,o,none⟩) HPL.o).trans D0.o;have x9:=(hb.cell (p:=⟨p,o+9,none⟩) HPL.o).trans D9.o;clear hb))
     have X9:=I x9
     have X0:=I x0
     have HRV1:=I (z3X HRV.o HB1.o HPL.o)
     clear x9
     by_cases hk1:k= 1
     ·subst hk1
      have HCC:=I (z7g (.mk vk vn vf vs vns vits) [.int .i64 vk,.int .i64 vn,.float .f64 vf,.string vs,.slice VA vns.length vc,.slice VD vits.length vd] w1 ((HVV.o.under HB1.o).more HB1.o.size))
      have hval:valB 1 (.mk vk vn vf vs vns vits)= zL (.mk vk vn vf vs vns vits):=by unfold valB;rw[if_pos rfl]
      rw[hval] at HRE
      cases hvb:zL (.mk vk vn vf vs vns vits) with
      |false=>
       have HR:Hid (res= false):=I (HRE.o.trans (by rw[hvb];exact Bool.false_and _))
       rw[hvb] at HCC
       clear hvb hval
       go_wp2_with (first|((with_reducible refine z7 27 _ rfl ?_ p (o+2) [.int .i64 vk,.int .i64 vn,.float .f64 vf,.string vs,.slice VA vns.length vc,.slice VD vits.length vd] _ rfl HRV1.o Tryz.underlying27 rfl ?_ ?_);(exact wA rfl);kernel_rfl)|(go_at_call 95;refine HCC.o.mono ?_;rintro e w2 ⟨rfl,hb⟩;have HB2:=I hb;have y0:=(hb.cell (p:=⟨p,o,none⟩) (Nat.lt_of_lt_of_le HPL.o HB1.o.size)).trans X0.o;have y9:=(hb.cell (p:=⟨p,o+9,none⟩) (Nat.lt_of_lt_of_le HPL.o HB1.o.size)).trans X9.o;clear hb))
       go_ret
       exact⟨z6 HR.o.symm,HB1.o.trans (HB2.o.mono HB1.o.size)⟩
      |true=>
       have HRR:Hid (res= zP its (d+1)):=I (HRE.o.trans (by rw[hvb,Bool.true_and]))
       rw[hvb] at HCC
       clear hvb hval
       go_upto_region 7 with (first|((with_reducible refine z7 27 _ rfl ?_ p (o+2) [.int .i64 vk,.int .i64 vn,.float .f64 vf,.string vs,.slice VA vns.length vc,.slice VD vits.length vd] _ rfl HRV1.o Tryz.underlying27 rfl ?_ ?_);(exact wA rfl);kernel_rfl)|(go_at_call 95;refine HCC.o.mono ?_;rintro e w2 ⟨rfl,hb⟩;have HB2:=I hb;have y0:=(hb.cell (p:=⟨p,o,none⟩) (Nat.lt_of_lt_of_le HPL.o HB1.o.size)).trans X0.o;have y9:=(hb.cell (p:=⟨p,o+9,none⟩) (Nat.lt_of_lt_of_le HPL.o HB1.o.size)).trans X9.o;clear hb))
       clear y9
       go_loopg [68] its.length (fun q x u=>∃ j:Nat,j+q= its.length/\x= .int .i64 j/\Below w.heap.size w u/\zP (its.drop j) (d+1)= res)
       case atStart=>exact⟨0,by omega,rfl,HB1.o.trans (HB2.o.mono HB1.o.size),HRR.o.symm⟩
       case round=>
        obtain⟨j,hj,rfl,hbu,hres⟩:=hrel
        have HBU:=I hbu
        have HR:=I hres
        have u9:=(hbu.cell (p:=⟨p,o+9,none⟩) HPL.o).trans D9.o
        clear hbu hres
        cases gk with
        |zero=>
         obtain rfl:j= its.length:=by omega
         have hge: ¬ ((its.length:Int) <(its.length:Int)):=by omega
         have HV:=I (HR.o.symm.trans z12)
         go_wp2
         go_ret
         exact⟨z6 HV.o.symm,HBU.o⟩
        |succ q=>
         have hlt:(j:Int) <(its.length:Int):=by omega
         obtain⟨y,hy⟩:∃ y,its[j]?= some y:=⟨_,List.getElem?_eq_getElem (by omega)⟩
         obtain⟨b,ob,rfl,hbl,hc⟩:=HA.o (by omega)
         obtain⟨ks,hkl,hks,hvx⟩:=hc j y hy
         have HV:=I (HR.o.symm.trans (z0S hy))
         have HC:=I (IH.o y (List.mem_of_getElem? hy) (d+1) ks b (ob+j*10) wr (by omega) (za hks HBU.o hbl) ((hvx.under HBU.o).more HBU.o.size))
         clear hc hks hvx hy HR hkl hbl
         cases hrc:zK y (d+1) with
         |false=>
          have HV2:Hid (res= false):=I (HV.o.trans (by rw[hrc];exact Bool.false_and _))
          rw[hrc] at HC
          clear hrc
          go_wp2_with (go_at_call 57;refine HC.o.mono ?_;rintro e w4 ⟨rfl,hb⟩;have HB4:=I hb;clear hb)
          go_ret
          exact⟨z6 HV2.o.symm,HBU.o.trans (HB4.o.mono HBU.o.size)⟩
         |true=>
          have HV2:=I (HV.o.trans (by rw[hrc,Bool.true_and]))
          rw[hrc] at HC
          clear hrc
          go_wp2_with (go_at_call 57;refine HC.o.mono ?_;rintro e w4 ⟨rfl,hb⟩;have HB4:=I hb;clear hb)
          go_roundg q
          case measure=>omega
          case rel=>exact⟨j+1,by omega,by go_num,HBU.o.trans (HB4.o.mono HBU.o.size),HV2.o.symm⟩
     ·have hk1n:(k !=1)= true:=by simpa using hk1
      have HCC:=I (z4H p (o+2) vk vn vf vs VA VD vns.length vits.length vc vd w1 HVF.o HRV1.o)
      have hval:valB k (.mk vk vn vf vs vns vits)= noneB vk vn vf vs vns.length vits.length:=by unfold valB;rw[if_neg hk1];rfl
      rw[hval] at HRE
      have x9:=X9.o
      cases hvb:noneB vk vn vf vs vns.length vits.length with
      |false=>
       have HR:Hid (res= false):=I (HRE.o.trans (by rw[hvb];exact Bool.false_and _))
       rw[hvb] at HCC
       clear hvb hval
       go_wp2_with (go_at_call 96;refine HCC.o.mono ?_;rintro e w2 ⟨rfl,hzw⟩;rw[hzw];clear hzw w2)
       go_ret
       exact⟨z6 HR.o.symm,HB1.o⟩
      |true=>
       have HRR:Hid (res= zP its (d+1)):=I (HRE.o.trans (by rw[hvb,Bool.true_and]))
       rw[hvb] at HCC
       clear hvb hval
       go_upto_region 7 with (go_at_call 96;refine HCC.o.mono ?_;rintro e w2 ⟨rfl,hzw⟩;rw[hzw];clear hzw w2)
       clear x9
       go_loopg [68] its.length (fun q x u=>∃ j:Nat,j+q= its.length/\x= .int .i64 j/\Below w.heap.size w u/\zP (its.drop j) (d+1)= res)
       case atStart=>exact⟨0,by omega,rfl,HB1.o,HRR.o.symm⟩
       case round=>
        obtain⟨j,hj,rfl,hbu,hres⟩:=hrel
        have HBU:=I hbu
        have HR:=I hres
        have u9:=(hbu.cell (p:=⟨p,o+9,none⟩) HPL.o).trans D9.o
        clear hbu hres
        cases gk with
        |zero=>
         obtain rfl:j= its.length:=by omega
         have hge: ¬ ((its.length:Int) <(its.length:Int)):=by omega
         have HV:=I (HR.o.symm.trans z12)
         go_wp2
         go_ret
         exact⟨z6 HV.o.symm,HBU.o⟩
        |succ q=>
         have hlt:(j:Int) <(its.length:Int):=by omega
         obtain⟨y,hy⟩:∃ y,its[j]?= some y:=⟨_,List.getElem?_eq_getElem (by omega)⟩
         obtain⟨b,ob,rfl,hbl,hc⟩:=HA.o (by omega)
         obtain⟨ks,hkl,hks,hvx⟩:=hc j y hy
         have HV:=I (HR.o.symm.trans (z0S hy))
         have HC:=I (IH.o y (List.mem_of_getElem? hy) (d+1) ks b (ob+j*10) wr (by omega) (za hks HBU.o hbl) ((hvx.under HBU.o).more HBU.o.size))
         clear hc hks hvx hy HR hkl hbl
         cases hrc:zK y (d+1) with
         |false=>
          have HV2:Hid (res= false):=I (HV.o.trans (by rw[hrc];exact Bool.false_and _))
          rw[hrc] at HC
          clear hrc
          go_wp2_with (go_at_call 57;refine HC.o.mono ?_;rintro e w4 ⟨rfl,hb⟩;have HB4:=I hb;clear hb)
          go_ret
          exact⟨z6 HV2.o.symm,HBU.o.trans (HB4.o.mono HBU.o.size)⟩
         |true=>
          have HV2:=I (HV.o.trans (by rw[hrc,Bool.true_and]))
          rw[hrc] at HC
          clear hrc
          go_wp2_with (go_at_call 57;refine HC.o.mono ?_;rintro e w4 ⟨rfl,hb⟩;have HB4:=I hb;clear hb)
          go_roundg q
          case measure=>omega
          case rel=>exact⟨j+1,by omega,by go_num,HBU.o.trans (HB4.o.mono HBU.o.size),HV2.o.symm⟩
  ·have hd':(d:Int) > 12:=by omega
   have HR:Hid (res= false):=I (by rw[HRE.o,decide_eq_false hd];simp)
   go_enter Tryz.func57,Tryz.ntmps57
   go_wp2_with (go_at_call 93;refine(HKD.o _).mono ?_;rintro e z ⟨rfl,hzw⟩;rw[hzw];clear hzw z)
   go_ret
   exact⟨z6 HR.o.symm,Below.refl _ _⟩
def zB (t:ET):Bool:=decide (cntE t 0<=200) && zK t 1
theorem z6v (t:ET) (cs:List Value) (w:World) (hv:ExpAt w w.heap.size cs t):Calls Tryz.prog 28 #[.agg ⟨cs⟩] w fun e w'=>e= .returned (.bool (zB t))/\Below w.heap.size w w':=by
 have HCL:=I (eslen hv)
 have HB:=I (zc w (.cells ⟨cs⟩ 30))
 have HR:=I (zm w cs 30)
 have HV:=I ((hv.under HB.o).more HB.o.size)
 have HS:=I (zw w (.cells ⟨cs⟩ 30))
 clear hv
 go_enter Tryz.func28,Tryz.ntmps28
 go_upto_region 1 with (fail)
 generalize w.alloc (.cells ⟨cs⟩ 30)= W at*
 have HC:=I (zab t cs W HV.o)
 by_cases h:cntE t 0<=200
 ·have h2:(cntE t 0:Int)<=200:=by omega
  have HT:Hid (zB t= zK t 1):=I (by unfold zB;rw[decide_eq_true h,Bool.true_and])
  clear h
  go_wp2_with (first|((with_reducible refine z7 30 _ rfl ?_ w.heap.size 0 cs _ rfl HR.o Tryz.underlying30 rfl ?_ ?_);(exact wA rfl);rw[HCL.o];kernel_rfl)|(go_at_call 56;refine HC.o.mono ?_;rintro e z ⟨rfl,hb⟩;have HB2:=I hb;clear hb)|(go_at_call 57;refine(zap t 1 cs w.heap.size 0 z (by omega) (za HR.o HB2.o HS.o) ((HV.o.under HB2.o).more HB2.o.size)).mono ?_;rintro e z2 ⟨rfl,hb⟩;have HB3:=I hb;clear hb))
  go_ret
  exact⟨z6 HT.o.symm,(HB.o.trans (HB2.o.mono HB.o.size)).trans (HB3.o.mono (Nat.le_trans HB.o.size HB2.o.size))⟩
 ·have h2: ¬ (cntE t 0:Int)<=200:=by omega
  have HT:Hid (zB t= false):=I (by unfold zB;rw[decide_eq_false h];rfl)
  clear h
  go_wp2_with (first|((with_reducible refine z7 30 _ rfl ?_ w.heap.size 0 cs _ rfl HR.o Tryz.underlying30 rfl ?_ ?_);(exact wA rfl);rw[HCL.o];kernel_rfl)|(go_at_call 56;refine HC.o.mono ?_;rintro e z ⟨rfl,hb⟩;have HB2:=I hb;clear hb))
  go_ret
  exact⟨z6 HT.o.symm,HB.o.trans (HB2.o.mono HB.o.size)⟩
end
section
open Go Go.RowKit
theorem zaO (b:Nat) (t:ET) (cs:List Value) (v:Value) (w:World) (hv:ExpAt w w.heap.size cs t) (hr:zB t= false):
  Calls Tryz.prog 9 #[.pointer (some ⟨b,0,none⟩),.agg ⟨cs⟩,v] w fun e w'=>e= .returned (.tuple #[.int .i64 0,.int .i64 2])/\Below w.heap.size w w':=by
 have HCL:=I (eslen hv)
 have HB:=I (zc w (.cells ⟨cs⟩ 30))
 have HR:=I (zm w cs 30)
 have HV:=I ((hv.under HB.o).more HB.o.size)
 have HRT:=I hr
 clear hv hr
 go_enter Tryz.func9,Tryz.ntmps9
 go_upto_region 1 with (fail)
 generalize w.alloc (.cells ⟨cs⟩ 30)= W at*
 have HC:=I (z6v t cs W HV.o)
 rw[HRT.o] at HC
 go_wp2_with (first|((with_reducible refine z7 30 _ rfl ?_ w.heap.size 0 cs _ rfl HR.o Tryz.underlying30 rfl ?_ ?_);(exact wA rfl);rw[HCL.o];kernel_rfl)|(go_at_call 28;refine HC.o.mono ?_;rintro e z ⟨rfl,hb⟩;have HB2:=I hb;clear hb))
 go_ret2
 exact⟨rfl,HB.o.trans (HB2.o.mono HB.o.size)⟩
end
section
open Go Go.RowKit
def leafV:VT->Bool
 | .mk k n f s ns its=>((k ==1 && n ==1) ||(k ==2 ||(k ==3 && n ==0))) && (f ==0 && (s.toList.isEmpty && (ns.isEmpty && its.isEmpty)))
theorem z8Z (t:VT) (cs:List Value) (w:World) (hl:leafV t= true) (hv:ValAt w w.heap.size cs t):Calls Tryz.prog 12 #[.agg ⟨cs⟩] w fun e w'=>e= .returned (.bool (zl t))/\Below w.heap.size w w':=z5V t cs w hv
end
end Go.Proofs.YteolfamhmfidbaaGreatDoor
