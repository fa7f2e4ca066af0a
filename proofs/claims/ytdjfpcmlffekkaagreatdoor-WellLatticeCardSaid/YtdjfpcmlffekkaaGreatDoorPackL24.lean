/- Parts of a proof: FText, RDig, EConst, EConst2, ERight. -/
import Derived.Lib.ItoaMem
import Derived.Laws.BytesString
import Derived.Test.YtdjfpcmlffekkaaGreatDoorPackL11
import Derived.Test.YtdjfpcmlffekkaaGreatDoorPackL20
import Derived.Test.YtdjfpcmlffekkaaGreatDoorPackL21
import Derived.Test.YtdjfpcmlffekkaaGreatDoorPackL22
import Derived.Test.YtdjfpcmlffekkaaGreatDoorPackL23
set_option maxHeartbeats 8000000
set_option maxRecDepth 100000
set_option linter.unusedVariables false
set_option linter.unusedSimpArgs false
namespace Go.Proofs.YtdjfpcmlffekkaaGreatDoor
section
open Go Go.RowKit Go.Sort Go.Lib
def TabP (w:World):Prop:=Lib.TabIs Tryz.prog w "internal/strconv.uint64pow10" .u64 Lib.pow10Tab
theorem z33 (w:World) (k:Nat) (os:Array Obj):Below w.heap.size w (Sort.grow (w.drewN k) os):=by
 have h1:Below w.heap.size w (w.drewN k):=⟨rfl,rfl,rfl,Nat.le_refl _,fun _ _=>rfl⟩
 refine h1.trans ?_
 refine⟨rfl,rfl,rfl,?_,fun i hi=> ?_⟩
 ·show(w.drewN k).heap.size<=((w.drewN k).heap ++ os).size
  rw[Array.size_append];exact Nat.le_add_right _ _
 ·show((w.drewN k).heap ++ os)[i]?=(w.drewN k).heap[i]?
  exact Array.getElem?_append_left hi
theorem zbg (w:World) (T:TypeId) (nd:Nat) (hs:nd<=24):Holds (fun(b:UInt8)=>Value.int .u8 (b.toNat:Int)) (w.alloc (.cells Lib.zeros24 T)) w.heap.size 0 (Array.replicate nd (0:UInt8)):=fun j hj=>by
 have hj':j < nd:=by simpa using hj
 refine⟨?_,World.frozen?_alloc_new _ _ _ _⟩
 rw[World.cell?_alloc_new,Lib.zeros24_at _ (by omega),getElem!_pos _ j hj]
 simp
theorem zdG (w:World) (o:Obj) (dk:Array UInt8) (k:Nat):∃ os,(Sort.putRow (fun(b:UInt8)=>Value.int .u8 (b.toNat:Int)) (w.alloc o) w.heap.size 0 dk).drewN k= Sort.grow (w.drewN k) os:=by
 rw[alloc_eq_grow]
 obtain⟨os',_,e⟩:=Sort.putRow_grow_new (fun(b:UInt8)=>Value.int .u8 (b.toNat:Int)) w #[o] w.heap.size 0 dk (Nat.le_refl _)
 exact⟨os',by rw[e];rfl⟩
theorem z78 (u:Nat) (hu1:1<=u) (hu64:u < 18446744073709551616) (w:World) (ht:TabP w):Calls Tryz.prog 221 #[.int .u64 u,.int .i64 10] w fun e w'=>e= .returned (.string ⟨(Lib.decDigits u).toArray⟩)/\Below w.heap.size w w':=by
 by_cases hs:u < 100
 ·have HS:=I (fun w=>Tryz.internal_strconv_small u hs w)
  have t1:(u:Int) < 100:=by omega
  have t2:IntKind.i64.wrap (u:Int)= u:=by rw[IntKind.wrap_i64];omega
  clear hs hu64 hu1 ht
  go_enter Tryz.func221,Tryz.ntmps221
  go_wp2_with (go_at_call 213;refine(HS.o _).mono ?_;rintro e z ⟨rfl,rfl⟩)
  go_ret
  exact⟨rfl,Below.refl _ _⟩
 ·have hnd20:Lib.nDigits u<=20:=by have:=Lib.numDigits_eq u hu1 hu64;split at this<;>omega
  have hal:Tryz.prog.arrayLen 261= 24:=by simp[Program.arrayLen,Tryz.underlying261]
  have hsl1:∀ W,(Instr.sliceAt 261 (.pointer (some ⟨w.heap.size,0,none⟩)) none (some (.int .i64 (Lib.nDigits u:Int))) none).run Tryz.prog W= .ok (.slice (some ⟨w.heap.size,0,none⟩) (Lib.nDigits u) 24) W:=fun W=>by
   rw[run_sliceAt_array_h W 261 ⟨w.heap.size,0,none⟩ (by simp[Program.arrayLen,Program.elem,Tryz.underlying261]) .i64 (Lib.nDigits u:Int) (by omega) (by rw[hal];omega)]
   go_simp
  have hH0:=zbg w 261 (Lib.nDigits u) (by omega)
  have hfmt:=Tryz.internal_strconv_formatBase10 w.heap.size 0 24 u (Array.replicate (Lib.nDigits u) 0) (w.alloc (.cells Lib.zeros24 261)) hH0 (by rw[Array.size_replicate];exact Lib.lt_pow_nDigits u) hu64 (by rw[Array.size_replicate];omega)
  rw[Array.size_replicate] at hfmt
  have HH0:=I hH0
  have HF:=I hfmt
  have HD:=I (Tryz.internal_strconv_numDigits u hu1 hu64 (w.alloc (.cells Lib.zeros24 261)) (Lib.tabIs_alloc ht _))
  have t1: ¬ (u:Int) < 100:=by omega
  clear hH0 hal hfmt hs
  go_enter Tryz.func221,Tryz.ntmps221
  go_wp2_with (go_at_call 214;refine HD.o.mono ?_;rintro e w' ⟨rfl,rfl⟩)
  go_at_call 215
  refine HF.o.mono ?_
  rintro e w' ⟨rfl,k,v',dk,rfl,hF⟩
  have hcv:(convert 131 9 (.slice (some ⟨w.heap.size,0,none⟩) (Lib.nDigits u) 24)).run Tryz.prog ((putRow (fun(b:UInt8)=>Value.int .u8 (b.toNat:Int)) (w.alloc (.cells Lib.zeros24 261)) w.heap.size 0 dk).drewN k)= .ok (.string ⟨(Lib.decDigits u).toArray⟩) ((putRow (fun(b:UInt8)=>Value.int .u8 (b.toNat:Int)) (w.alloc (.cells Lib.zeros24 261)) w.heap.size 0 dk).drewN k):=by
   have h:=run_convert_bytes_back (P:=Tryz.prog) ((putRow (fun(b:UInt8)=>Value.int .u8 (b.toNat:Int)) (w.alloc (.cells Lib.zeros24 261)) w.heap.size 0 dk).drewN k) 131 9 5 ⟨w.heap.size,0,none⟩ 24 (Lib.decDigits u) Tryz.underlying131 Tryz.underlying5 Tryz.underlying9 (fun j hj=>by
    rw[Lib.row_is_numeral hF j hj,Lib.add_plain,World.cell?_drewN]
    exact cell?_putRow (fun(b:UInt8)=>Value.int .u8 (b.toNat:Int)) _ w.heap.size 0 _ dk HH0.o (by rw[hF.size,Array.size_replicate]) j (by rw[hF.size];rw[Lib.decDigits_length] at hj;exact hj))
   rw[Lib.decDigits_length] at h
   exact h
  go_wp2
  go_ret
  obtain⟨os,eo⟩:=zdG w (.cells Lib.zeros24 261) dk k
  rw[eo]
  exact⟨rfl,z33 w k os⟩
theorem z5o (u:Nat) (hu1:1<=u) (hu64:u < 18446744073709551616) (w:World) (ht:TabP w):Calls Tryz.prog 210 #[.int .u64 u,.int .i64 10] w fun e w'=>e= .returned (.string ⟨(Lib.decDigits u).toArray⟩)/\Below w.heap.size w w':=by
 have H:=I (z78 u hu1 hu64 w ht)
 clear hu1 hu64 ht
 go_enter Tryz.func210,Tryz.ntmps210
 go_wp2_with (go_at_call 221;refine H.o.mono ?_;rintro e z ⟨rfl,hb⟩;have HB:=I hb;clear hb)
 go_ret
 exact⟨rfl,HB.o⟩
theorem z7G (n:Int) (h0: -9223372036854775808<=n) (h1:n<=9223372036854775807) (w:World) (ht:TabP w):Calls Tryz.prog 211 #[.int .i64 n] w fun e w'=>e= .returned (.string ⟨(Lib.itoa n).toArray⟩)/\Below w.heap.size w w':=by
 have H:=I (Tryz.internal_strconv_Itoa n h0 h1 w ht)
 clear h0 h1 ht
 go_enter Tryz.func211,Tryz.ntmps211
 go_wp2_with (go_at_call 222;refine H.o.mono ?_;rintro e z ⟨rfl,k,os,hz⟩;have HZ:=I hz;clear hz)
 go_ret
 rw[HZ.o]
 exact⟨rfl,z33 w k os⟩
theorem z74 (n:Int) (h0: -9223372036854775808<=n) (h1:n<=9223372036854775807) (w:World) (ht:TabP w):Calls Tryz.prog 193 #[.int .i64 n,.int .i64 10] w fun e w'=>e= .returned (.string ⟨(Lib.itoa n).toArray⟩)/\Below w.heap.size w w':=by
 have H:=I (Tryz.internal_strconv_FormatInt_10 n h0 h1 w ht)
 clear h0 h1 ht
 go_enter Tryz.func193,Tryz.ntmps193
 go_wp2_with (go_at_call 206;refine H.o.mono ?_;rintro e z ⟨rfl,k,os,hz⟩;have HZ:=I hz;clear hz)
 go_ret
 rw[HZ.o]
 exact⟨rfl,z33 w k os⟩
theorem TabP.next {w w':World} (h:TabP w) (hb:Below w.heap.size w w'):TabP w':=by
 unfold TabP Lib.TabIs World.var? at*
 cases hg:Tryz.prog.globalNamed "internal/strconv.uint64pow10" with
 |none=>simp[hg] at h
 |some g=>
  simp only[hg,Option.bind_some] at h ⊢
  have hlt:g < w.heap.size:=by
   rcases Nat.lt_or_ge g w.heap.size with h'|h'
   ·exact h'
   ·rw[Array.getElem?_eq_none h'] at h;simp at h
  rw[hb.block g hlt]
  exact h
theorem zaX {m:Nat} (h0:4503599627370496<=m) (h:m < 9007199254740992):floatToIntVal .f64 (4836865999795912704+m) .u64= some ((m:Nat):Int):=by
 obtain⟨l,rfl⟩:∃ l,m= 4503599627370496+l:=⟨m - 4503599627370496,by omega⟩
 rw[show 4836865999795912704+ (4503599627370496+l)= 4841369599423283200+l by omega]
 exact zfb (by omega)
theorem ze6 (f:Nat) (b:Bool) (h:decide (9223372036854775808<=f)= b):(if f < 9223372036854775808 then([]:List UInt8) else[45])= if b= true then[45] else[]:=by
 subst h
 by_cases h:9223372036854775808<=f
 ·rw[if_neg (by omega),if_pos (by simpa using h)]
 ·rw[if_pos (by omega),if_neg (by simpa using h)]
theorem z0R (op:BinOp) (ho:op= .add\/op= .sub\/op= .mul\/op= .quo) (t:TypeId) (x y:Nat) (h:floatBits op .f64 x y= none) (w:World):
  ∃ n,n < 2 ^ 64/\9218868437227405312 < n % 9223372036854775808/\(binOp op t (.float .f64 x) (.float .f64 y)).run Tryz.prog w= .ok (.float .f64 n) w.drew:=by
 refine⟨Question.cut (.nanBits .f64 x y) (w.tape w.drawn (.nanBits .f64 x y)),?_,?_,?_⟩
 ·show(w.tape w.drawn (.nanBits .f64 x y)) % 2*2 ^ 63+0x7ff0000000000000+1+ ((w.tape w.drawn (.nanBits .f64 x y)) / 2) % (2 ^ 52 - 1) < 2 ^ 64
  omega
 ·have h3:(w.tape w.drawn (.nanBits .f64 x y)) / 2 % (2 ^ 52 - 1) < 2 ^ 52 - 1:=Nat.mod_lt _ (by decide)
  have h4:(w.tape w.drawn (.nanBits .f64 x y)) % 2 < 2:=Nat.mod_lt _ (by decide)
  show 9218868437227405312 <((w.tape w.drawn (.nanBits .f64 x y)) % 2*2 ^ 63+0x7ff0000000000000+1+ ((w.tape w.drawn (.nanBits .f64 x y)) / 2) % (2 ^ 52 - 1)) % 9223372036854775808
  generalize (w.tape w.drawn (.nanBits .f64 x y)) / 2 % (2 ^ 52 - 1)= c at*
  generalize (w.tape w.drawn (.nanBits .f64 x y)) % 2= b at*
  have h5:b= 0\/b= 1:=by omega
  rcases h5 with rfl|rfl<;>omega
 ·rcases ho with rfl|rfl|rfl|rfl<;>(unfold floatBits at h;simp only at h;simp[binOp,Op.floatArith,h,choose];rfl)
theorem z6q {n m:Nat} (hn:n < 2 ^ 64) (h:9218868437227405312 < n % 9223372036854775808):FloatKind.f64.format.order n m= none:=
 z2O _ _ (.inl ((z2n hn).2 h))
theorem zde {f:Nat} (hf:f < 2 ^ 64) (h: ¬ 9218868437227405312 < f % 9223372036854775808):(FloatKind.f64.format.order f f !=some .eq)= false:=by
 have h1:nanB f= false:=by
  rw[z1w,decide_eq_false]
  exact fun e=>h ((z2n hf).1 e)
 exact h1
theorem zdu {f:Nat} (hf:f < 2 ^ 64) (h:f % 9223372036854775808≠0):(FloatKind.f64.format.order f 0 ==some .eq)= false:=by
 rw[Bool.eq_false_iff]
 intro e
 rcases z7E hf e with h1|h1<;>omega
theorem z2j (a b:List UInt8) (h:a.length+b.length<=1000000) (W:World):(Op.stringOp .add ⟨a.toArray⟩ ⟨b.toArray⟩).run Tryz.prog W= .ok (.string ⟨(a ++ b).toArray⟩) W:=by
 have h1:(Op.stringOp .add ⟨a.toArray⟩ ⟨b.toArray⟩).run Tryz.prog W= .ok (.string (⟨a.toArray⟩ ++ ⟨b.toArray⟩)) W:=run_string_add_sum W _ _ (by simp[ByteArray.size];omega)
 have h2:(⟨a.toArray⟩:ByteArray) ++ ⟨b.toArray⟩=⟨(a ++ b).toArray⟩:=by apply ByteArray.ext;simp[ByteArray.data_append]
 rw[h2] at h1
 exact h1
theorem zbK (f:Nat) (hf:f < 2 ^ 64) (w:World) (ht:TabP w):Calls Tryz.prog 194 #[.float .f64 f] w fun e w'=>e= .returned (.string ⟨(textF f).toArray⟩)/\Below w.heap.size w w':=by
 have HS:=I (fun w=>zdv f hf w)
 have hsg:=fun b=>ze6 f b
 unfold textF
 by_cases hn:9218868437227405312 < f % 9223372036854775808
 ·rw[if_pos hn]
  have t1:(FloatKind.f64.format.order f f !=some .eq)= true:=by rw[z6q hf hn];rfl
  clear ht hf hsg hn
  cases hb:decide (9223372036854775808<=f)<;>rw[hb] at HS<;>clear hb<;>go_enter Tryz.func194,Tryz.ntmps194
  all_goals
   go_wp2_with (go_at_call 207;refine(HS.o _).mono ?_;rintro e z ⟨rfl,rfl⟩)
   go_ret
   exact⟨rfl,Below.refl _ _⟩
 ·rw[if_neg hn]
  have t1:=zde hf hn
  by_cases hi:f % 9223372036854775808= 9218868437227405312
  ·rw[if_pos hi]
   have hsub:floatBits .sub .f64 f f= none:=by
    have hd:f= 9218868437227405312\/f= 18442240474082181120:=by omega
    rcases hd with rfl|rfl<;>decide +kernel
   obtain⟨n,n1,n2,n3⟩:=z0R .sub (.inr (.inl rfl)) 49 f f hsub w
   have t2:(FloatKind.f64.format.order n 0 !=some .eq)= true:=by rw[z6q n1 n2];rfl
   have HW:Hid (Below w.heap.size w w.drew):=I (Below.refl _ w).drew
   cases hb:decide (9223372036854775808<=f) with
   |true=>
    rw[hsg _ hb]
    rw[hb] at HS
    clear ht hf hsg hn hb hi n1 n2 hsub
    go_enter Tryz.func194,Tryz.ntmps194
    go_wp2_with (go_at_call 207;refine(HS.o _).mono ?_;rintro e z ⟨rfl,rfl⟩)
    go_ret
    exact⟨rfl,HW.o⟩
   |false=>
    rw[hsg _ hb]
    rw[hb] at HS
    clear ht hf hsg hn hb hi n1 n2 hsub
    go_enter Tryz.func194,Tryz.ntmps194
    go_wp2_with (go_at_call 207;refine(HS.o _).mono ?_;rintro e z ⟨rfl,rfl⟩)
    go_ret
    exact⟨rfl,HW.o⟩
  ·rw[if_neg hi]
   have hfin:f % 9223372036854775808 < 9218868437227405312:=by omega
   have hq:∀ (t:TypeId) (w:World),(binOp .sub t (.float .f64 f) (.float .f64 f)).run Tryz.prog w= .ok (.float .f64 0) w:=fun t w=>run_float_arith w .sub t .f64 _ _ _ (zaz hf hfin)
   have t2:(FloatKind.f64.format.order 0 0 !=some .eq)= false:=by decide +kernel
   by_cases h0:f % 9223372036854775808= 0
   ·have t3:(FloatKind.f64.format.order f 0 ==some .eq)= true:=by
     have:f= 0\/f= 9223372036854775808:=by omega
     rcases this with rfl|rfl<;>decide +kernel
    have hp:Lib.decDigits (z0P (f % 9223372036854775808)).1 ++ (112::Lib.itoa (z0P (f % 9223372036854775808)).2)=[48,112,48]:=by
     rw[h0]
     show Lib.decDigits 0 ++ (112::Lib.itoa 0)= _
     rw[show Lib.itoa 0= Lib.decDigits 0 from Lib.itoa_nonneg 0,Lib.decDigits_one (by decide)]
     decide
    rw[hp]
    cases hb:decide (9223372036854775808<=f)<;>rw[hsg _ hb]<;>rw[hb] at HS<;>clear ht hf hsg hn hb hi hfin h0 hp<;>go_enter Tryz.func194,Tryz.ntmps194
    all_goals
     go_wp2_with (go_at_call 207;refine(HS.o _).mono ?_;rintro e z ⟨rfl,rfl⟩)
     go_ret
     exact⟨rfl,Below.refl _ _⟩
   ·have t3:=zdu hf h0
    have HA:=I (fun w=>z61 f hf w)
    generalize hr:f % 9223372036854775808= r at*
    have HX:=I (fun w=>zcc r (by omega) hfin w)
    have hm:=z4f (r:=r) (by omega)
    have hp:=z87 (r:=r) (by omega) hfin
    have HY:=I (fun w=>zbi (mantF r) hm.1 hm.2 w)
    have hcv:∀ W:World,(convert 49 152 (.float .f64 (4836865999795912704+mantF r))).run Tryz.prog W= .ok (.int .u64 ((mantF r:Nat):Int)) W:=fun W=>run_convert_float_int W 49 152 .f64 .u64 _ _ (by kernel_rfl) Tryz.underlying152 (zaX hm.1 hm.2)
    have HRS:=I (RedAt.start (m:=mantF r) (e:=powF r) (by omega) (by omega))
    rw[← z8l (r:=r) (by omega)] at HRS
    have hw1:wrap64 (powF r+53)= powF r+53:=by unfold wrap64;omega
    have hw2:wrap64 (powF r+53 - 53)= powF r:=by unfold wrap64;omega
    have hpl:=z7i (r:=r) hfin
    have HPL:=I hpl
    generalize z0P r= t at*
    generalize powF r= p at*
    generalize mantF r= m at*
    cases hb:decide (9223372036854775808<=f) with
    |true=>
     rw[hsg _ hb]
     rw[hb] at HS
     have HT:=I ht
     clear ht hsg hn hb hi h0 hr hm hpl hf
     go_enter Tryz.func194,Tryz.ntmps194
     go_wp2_with (first|(go_at_call 207;refine(HS.o _).mono ?_;rintro e z ⟨rfl,rfl⟩)|(go_at_call 201;refine(HA.o _).mono ?_;rintro e z ⟨rfl,rfl⟩)|(go_at_call 208;refine(HX.o _).mono ?_;rintro e z ⟨rfl,rfl⟩)|(go_at_call 209;refine(HY.o _).mono ?_;rintro e z ⟨rfl,rfl⟩))
     go_loopg [5,6] m (fun q x y u=>∃ e:Int,x= .int .i64 e/\y= .int .u64 (q:Nat)/\RedAt t p q e/\u= z)
     case atStart=>exact⟨p,rfl,rfl,HRS.o,rfl⟩
     case round=>
      obtain⟨e,rfl,rfl,hrd,rfl⟩:=hrel
      have HRD:=I hrd
      have hpw:=hrd.pow
      have hw3:wrap64 (e+1)= e+1:=by unfold wrap64;omega
      by_cases hodd:gk % 2= 0
      ·have t4:(gk:Int) % 2= 0:=by omega
       have HM:Hid (gk / 2 < gk):=I (by omega)
       have HM2:Hid (IntKind.u64.wrap ((gk:Int) / 2)=((gk / 2:Nat):Int)):=I (by rw[IntKind.wrap_u64];omega)
       have HNX:=I (HRD.o.next hodd)
       clear hrd HRD hodd hpw
       go_wp2
       go_roundg (gk / 2)
       case measure=>exact HM.o
       case rel=>exact⟨e+1,congrArg (Value.int .i64) hw3,congrArg (Value.int .u64) HM2.o,HNX.o,rfl⟩
      ·have t4: ¬ (gk:Int) % 2= 0:=by omega
       have HV:Hid (t=(gk,e)):=I (HRD.o.stop hodd)
       have hdl:=z5W (n:=gk) (by have:=HPL.o;rw[HV.o] at this;omega)
       have hil:=z2g (n:=e) (by omega) (by omega)
       have c1:=z2j [45] (Lib.decDigits gk) (by simp;omega)
       have c2:=z2j ([45] ++ Lib.decDigits gk) [112] (by simp;omega)
       have c3:=z2j ([45] ++ Lib.decDigits gk ++ [112]) (Lib.itoa e) (by simp;omega)
       have cE:Hid ((⟨([45] ++ Lib.decDigits gk ++ [112] ++ Lib.itoa e).toArray⟩:ByteArray)=⟨([45] ++ (Lib.decDigits gk ++ (112::Lib.itoa e))).toArray⟩):=I (by simp)
       generalize (⟨([45] ++ Lib.decDigits gk).toArray⟩:ByteArray)= S1 at*
       generalize (⟨([45] ++ Lib.decDigits gk ++ [112]).toArray⟩:ByteArray)= S2 at*
       generalize (⟨([45] ++ Lib.decDigits gk ++ [112] ++ Lib.itoa e).toArray⟩:ByteArray)= S3 at*
       clear hdl hil
       have HU:=I (z5o gk (by omega) (by omega) wr HT.o)
       have HI:=I (fun z h=>z7G e (by omega) (by omega) z h)
       clear hrd HRD hodd hpw
       go_wp2_with (first|(go_at_call 210;refine HU.o.mono ?_;rintro e z ⟨rfl,hb⟩;have HB1:=I hb;have HT1:=I (HT.o.next hb);clear hb)|(go_at_call 211;refine(HI.o _ HT1.o).mono ?_;rintro e z ⟨rfl,hb⟩;have HB2:=I hb;clear hb))
       go_ret
       have hv:=HV.o
       subst hv
       exact⟨congrArg (fun s=>Ending.returned (.string s)) cE.o,HB1.o.trans (HB2.o.mono HB1.o.size)⟩
    |false=>
     rw[hsg _ hb]
     rw[hb] at HS
     have HT:=I ht
     clear ht hsg hn hb hi h0 hr hm hpl hf
     go_enter Tryz.func194,Tryz.ntmps194
     go_wp2_with (first|(go_at_call 207;refine(HS.o _).mono ?_;rintro e z ⟨rfl,rfl⟩)|(go_at_call 201;refine(HA.o _).mono ?_;rintro e z ⟨rfl,rfl⟩)|(go_at_call 208;refine(HX.o _).mono ?_;rintro e z ⟨rfl,rfl⟩)|(go_at_call 209;refine(HY.o _).mono ?_;rintro e z ⟨rfl,rfl⟩))
     go_loopg [5,6] m (fun q x y u=>∃ e:Int,x= .int .i64 e/\y= .int .u64 (q:Nat)/\RedAt t p q e/\u= z)
     case atStart=>exact⟨p,rfl,rfl,HRS.o,rfl⟩
     case round=>
      obtain⟨e,rfl,rfl,hrd,rfl⟩:=hrel
      have HRD:=I hrd
      have hpw:=hrd.pow
      have hw3:wrap64 (e+1)= e+1:=by unfold wrap64;omega
      by_cases hodd:gk % 2= 0
      ·have t4:(gk:Int) % 2= 0:=by omega
       have HM:Hid (gk / 2 < gk):=I (by omega)
       have HM2:Hid (IntKind.u64.wrap ((gk:Int) / 2)=((gk / 2:Nat):Int)):=I (by rw[IntKind.wrap_u64];omega)
       have HNX:=I (HRD.o.next hodd)
       clear hrd HRD hodd hpw
       go_wp2
       go_roundg (gk / 2)
       case measure=>exact HM.o
       case rel=>exact⟨e+1,congrArg (Value.int .i64) hw3,congrArg (Value.int .u64) HM2.o,HNX.o,rfl⟩
      ·have t4: ¬ (gk:Int) % 2= 0:=by omega
       have HV:Hid (t=(gk,e)):=I (HRD.o.stop hodd)
       have hdl:=z5W (n:=gk) (by have:=HPL.o;rw[HV.o] at this;omega)
       have hil:=z2g (n:=e) (by omega) (by omega)
       have c1:=z2j [] (Lib.decDigits gk) (by simp;omega)
       have c2:=z2j ([] ++ Lib.decDigits gk) [112] (by simp;omega)
       have c3:=z2j ([] ++ Lib.decDigits gk ++ [112]) (Lib.itoa e) (by simp;omega)
       have cE:Hid ((⟨([] ++ Lib.decDigits gk ++ [112] ++ Lib.itoa e).toArray⟩:ByteArray)=⟨([] ++ (Lib.decDigits gk ++ (112::Lib.itoa e))).toArray⟩):=I (by simp)
       generalize (⟨([] ++ Lib.decDigits gk).toArray⟩:ByteArray)= S1 at*
       generalize (⟨([] ++ Lib.decDigits gk ++ [112]).toArray⟩:ByteArray)= S2 at*
       generalize (⟨([] ++ Lib.decDigits gk ++ [112] ++ Lib.itoa e).toArray⟩:ByteArray)= S3 at*
       clear hdl hil
       have HU:=I (z5o gk (by omega) (by omega) wr HT.o)
       have HI:=I (fun z h=>z7G e (by omega) (by omega) z h)
       clear hrd HRD hodd hpw
       go_wp2_with (first|(go_at_call 210;refine HU.o.mono ?_;rintro e z ⟨rfl,hb⟩;have HB1:=I hb;have HT1:=I (HT.o.next hb);clear hb)|(go_at_call 211;refine(HI.o _ HT1.o).mono ?_;rintro e z ⟨rfl,hb⟩;have HB2:=I hb;clear hb))
       go_ret
       have hv:=HV.o
       subst hv
       exact⟨congrArg (fun s=>Ending.returned (.string s)) cE.o,HB1.o.trans (HB2.o.mono HB1.o.size)⟩
end
section
open Go Go.RowKit
def DigAt (R:List UInt8) (q:Nat) (T:List UInt8):Prop:=Lib.decDigits q ++ T= R
theorem DigAt.next {R:List UInt8} {q:Nat} {T:List UInt8} (h:DigAt R q T) (hq: ¬ q < 10):DigAt R (q / 10) (UInt8.ofNat (48+q % 10)::T):=by
 unfold DigAt at*
 rw[zdQ hq] at h
 rw[← h];simp
theorem DigAt.stop {R:List UInt8} {q:Nat} {T:List UInt8} (h:DigAt R q T) (hq:q < 10):UInt8.ofNat (48+q % 10)::T= R:=by
 unfold DigAt at h
 rw[Lib.decDigits_one hq] at h
 rw[← h,Nat.mod_eq_of_lt hq];rfl
theorem DigAt.len {R:List UInt8} {q:Nat} {T:List UInt8} (h:DigAt R q T):T.length<=R.length:=by
 unfold DigAt at h
 rw[← h,List.length_append];omega
end
section
open Go Go.RowKit
theorem zfc {f:Nat} (hf:f < 2 ^ 64) (h:(fOrd f 0 ==some .lt)= true):cmpF f 0 < 0:=by
 have hn0:nanB 0= false:=by decide +kernel
 have hn:nanB f= false:=by
  rw[beq_iff_eq] at h
  cases hb:nanB f with
  |false=>rfl
  |true=>
   have hd:=z1w f
   rw[hb] at hd
   have h1:nanD (dat f)≠0:=by simpa using hd.symm
   rw[z4n,z2O _ _ (Or.inl h1)] at h
   cases h
 unfold cmpF
 rw[hn,hn0,if_neg (by simp),if_neg (by simp),if_pos (Or.inl h)]
 decide
def negB (f:Nat):Bool:=decide (cmpF f 0 < 0)
def zv (t:VT):Bool:=decide (cntV t 0<=200) && zu t 1
def z0p (t:VT):Bool:=match t with
 | .mk k n f s ns its=>((k ==1) ||((k ==4) ||(((k ==2) && decide (0<=n)) ||((k ==3) && !(negB f))))) && zv t
end
section
open Go Go.RowKit
theorem z6C (t:VT) (cs:List Value) (w:World) (hv:ValAt w w.heap.size cs t):Calls Tryz.prog 128 #[.agg ⟨cs⟩] w fun e w'=>e= .returned (.bool (z0p t))/\Below w.heap.size w w':=by
 cases t with
 |mk k n f s ns its=>
 obtain⟨vn,vi,rfl,_,_,hff,_,_,_,_⟩:=hv.inv
 have hf:=wf64 hff
 have HB1:=I (zd w (.cells ⟨[.int .i64 k,.int .i64 n,.float .f64 f,.string s,vn,vi]⟩ 52))
 have HRG:=I (zD w [.int .i64 k,.int .i64 n,.float .f64 f,.string s,vn,vi] 52)
 have HRT:Hid (Calls Tryz.prog 61 #[.agg ⟨[.int .i64 k,.int .i64 n,.float .f64 f,.string s,vn,vi]⟩] (w.alloc (.cells ⟨[.int .i64 k,.int .i64 n,.float .f64 f,.string s,vn,vi]⟩ 52)) fun e w'=>e= .returned (.bool (zv (.mk k n f s ns its)))/\Below (w.alloc (.cells ⟨[.int .i64 k,.int .i64 n,.float .f64 f,.string s,vn,vi]⟩ 52)).heap.size (w.alloc (.cells ⟨[.int .i64 k,.int .i64 n,.float .f64 f,.string s,vn,vi]⟩ 52)) w'):=I (z1x _ _ _ (hv.next HB1.o))
 have d0:=zB w ⟨[.int .i64 k,.int .i64 n,.float .f64 f,.string s,vn,vi]⟩ 52 0
 have d1:=zB w ⟨[.int .i64 k,.int .i64 n,.float .f64 f,.string s,vn,vi]⟩ 52 1
 have d2:=zB w ⟨[.int .i64 k,.int .i64 n,.float .f64 f,.string s,vn,vi]⟩ 52 2
 simp only[List.getElem?_toArray,List.getElem?_cons_succ,List.getElem?_cons_zero] at d0 d1 d2
 have D1:=I d1
 have D2:=I d2
 have HSZ:=I (zL w (.cells ⟨[.int .i64 k,.int .i64 n,.float .f64 f,.string s,vn,vi]⟩ 52))
 have HCV:Hid (z0p (.mk k n f s ns its)=(((k ==1) ||((k ==4) ||(((k ==2) && decide (0<=n)) ||((k ==3) && !(negB f))))) && zv (.mk k n f s ns its))):=I rfl
 clear hv hff
 generalize zv (.mk k n f s ns its)= rr at*
 rcases Classical.em (k= 1) with hk1|hk1
 ·subst hk1
  have HR:Hid (z0p (.mk 1 n f s ns its)= rr):=I (by rw[HCV.o];cases rr<;>rfl)
  go_enter Tryz.func128,Tryz.ntmps128
  go_upto_region 1 with (fail)
  generalize w.alloc (.cells ⟨[.int .i64 1,.int .i64 n,.float .f64 f,.string s,vn,vi]⟩ 52)= W at*
  go_wp2_with (first|((with_reducible refine za 52 _ rfl ?_ w.heap.size 0 [.int .i64 1,.int .i64 n,.float .f64 f,.string s,vn,vi] _ rfl HRG.o Tryz.underlying52 rfl ?_ ?_);(exact wA rfl);kernel_rfl)|(go_at_call 61;refine HRT.o.mono ?_;rintro e z ⟨rfl,hb⟩;have HB2:=I hb;clear hb))
  go_ret
  exact⟨zb HR.o.symm,HB1.o.trans (HB2.o.mono HB1.o.size)⟩
 rcases Classical.em (k= 4) with hk4|hk4
 ·subst hk4
  have HR:Hid (z0p (.mk 4 n f s ns its)= rr):=I (by rw[HCV.o];cases rr<;>rfl)
  go_enter Tryz.func128,Tryz.ntmps128
  go_upto_region 1 with (fail)
  generalize w.alloc (.cells ⟨[.int .i64 4,.int .i64 n,.float .f64 f,.string s,vn,vi]⟩ 52)= W at*
  go_wp2_with (first|((with_reducible refine za 52 _ rfl ?_ w.heap.size 0 [.int .i64 4,.int .i64 n,.float .f64 f,.string s,vn,vi] _ rfl HRG.o Tryz.underlying52 rfl ?_ ?_);(exact wA rfl);kernel_rfl)|(go_at_call 61;refine HRT.o.mono ?_;rintro e z ⟨rfl,hb⟩;have HB2:=I hb;clear hb))
  go_ret
  exact⟨zb HR.o.symm,HB1.o.trans (HB2.o.mono HB1.o.size)⟩
 rcases Classical.em (k= 2) with hk2|hk2
 ·subst hk2
  by_cases hn:n < 0
  ·have hn2: ¬ 0<=n:=by omega
   have HR:Hid (z0p (.mk 2 n f s ns its)= false):=I (by rw[HCV.o];rw[decide_eq_false hn2];rfl)
   go_enter Tryz.func128,Tryz.ntmps128
   go_upto_region 1 with (fail)
   generalize w.alloc (.cells ⟨[.int .i64 2,.int .i64 n,.float .f64 f,.string s,vn,vi]⟩ 52)= W at*
   go_wp2_with (first|((with_reducible refine za 52 _ rfl ?_ w.heap.size 0 [.int .i64 2,.int .i64 n,.float .f64 f,.string s,vn,vi] _ rfl HRG.o Tryz.underlying52 rfl ?_ ?_);(exact wA rfl);kernel_rfl)|(go_at_call 61;refine HRT.o.mono ?_;rintro e z ⟨rfl,hb⟩;have HB2:=I hb;clear hb))
   go_ret
   exact⟨zb HR.o.symm,HB1.o⟩
  ·have hn2:0<=n:=by omega
   have HR:Hid (z0p (.mk 2 n f s ns its)= rr):=I (by rw[HCV.o];rw[decide_eq_true hn2];cases rr<;>rfl)
   go_enter Tryz.func128,Tryz.ntmps128
   go_upto_region 1 with (fail)
   generalize w.alloc (.cells ⟨[.int .i64 2,.int .i64 n,.float .f64 f,.string s,vn,vi]⟩ 52)= W at*
   go_wp2_with (first|((with_reducible refine za 52 _ rfl ?_ w.heap.size 0 [.int .i64 2,.int .i64 n,.float .f64 f,.string s,vn,vi] _ rfl HRG.o Tryz.underlying52 rfl ?_ ?_);(exact wA rfl);kernel_rfl)|(go_at_call 61;refine HRT.o.mono ?_;rintro e z ⟨rfl,hb⟩;have HB2:=I hb;clear hb))
   go_ret
   exact⟨zb HR.o.symm,HB1.o.trans (HB2.o.mono HB1.o.size)⟩
 rcases Classical.em (k= 3) with hk3|hk3
 ·subst hk3
  have HFO:=I (fun w=>z0W f 0 hf (by decide) w)
  cases hlt:(fOrd f 0 ==some .lt) with
  |true=>
   have hneg:negB f= true:=decide_eq_true (zfc hf hlt)
   have t1:(FloatKind.f64.format.order f 0 ==some .lt)= true:=hlt
   clear hlt
   have HR:Hid (z0p (.mk 3 n f s ns its)= false):=I (by rw[HCV.o];rw[hneg];rfl)
   go_enter Tryz.func128,Tryz.ntmps128
   go_upto_region 1 with (fail)
   generalize w.alloc (.cells ⟨[.int .i64 3,.int .i64 n,.float .f64 f,.string s,vn,vi]⟩ 52)= W at*
   go_wp2_with (first|((with_reducible refine za 52 _ rfl ?_ w.heap.size 0 [.int .i64 3,.int .i64 n,.float .f64 f,.string s,vn,vi] _ rfl HRG.o Tryz.underlying52 rfl ?_ ?_);(exact wA rfl);kernel_rfl)|(go_at_call 61;refine HRT.o.mono ?_;rintro e z ⟨rfl,hb⟩;have HB2:=I hb;clear hb)|(go_at_call 123;refine(HFO.o _).mono ?_;rintro e z ⟨rfl,rfl⟩))
   go_ret
   exact⟨zb HR.o.symm,HB1.o⟩
  |false=>
   have t1:(FloatKind.f64.format.order f 0 ==some .lt)= false:=hlt
   clear hlt
   by_cases hc:cmpF f 0 < 0
   ·have hneg:negB f= true:=decide_eq_true hc
    have HNG:=I hneg
    generalize cmpF f 0= cf at*
    have HR:Hid (z0p (.mk 3 n f s ns its)= false):=I (by rw[HCV.o];rw[HNG.o];rfl)
    go_enter Tryz.func128,Tryz.ntmps128
    go_upto_region 1 with (fail)
    generalize w.alloc (.cells ⟨[.int .i64 3,.int .i64 n,.float .f64 f,.string s,vn,vi]⟩ 52)= W at*
    go_wp2_with (first|((with_reducible refine za 52 _ rfl ?_ w.heap.size 0 [.int .i64 3,.int .i64 n,.float .f64 f,.string s,vn,vi] _ rfl HRG.o Tryz.underlying52 rfl ?_ ?_);(exact wA rfl);kernel_rfl)|(go_at_call 61;refine HRT.o.mono ?_;rintro e z ⟨rfl,hb⟩;have HB2:=I hb;clear hb)|(go_at_call 123;refine(HFO.o _).mono ?_;rintro e z ⟨rfl,rfl⟩))
    go_ret
    exact⟨zb HR.o.symm,HB1.o⟩
   ·have hneg:negB f= false:=decide_eq_false hc
    have HNG:=I hneg
    generalize cmpF f 0= cf at*
    have HR:Hid (z0p (.mk 3 n f s ns its)= rr):=I (by rw[HCV.o];rw[HNG.o];cases rr<;>rfl)
    go_enter Tryz.func128,Tryz.ntmps128
    go_upto_region 1 with (fail)
    generalize w.alloc (.cells ⟨[.int .i64 3,.int .i64 n,.float .f64 f,.string s,vn,vi]⟩ 52)= W at*
    go_wp2_with (first|((with_reducible refine za 52 _ rfl ?_ w.heap.size 0 [.int .i64 3,.int .i64 n,.float .f64 f,.string s,vn,vi] _ rfl HRG.o Tryz.underlying52 rfl ?_ ?_);(exact wA rfl);kernel_rfl)|(go_at_call 61;refine HRT.o.mono ?_;rintro e z ⟨rfl,hb⟩;have HB2:=I hb;clear hb)|(go_at_call 123;refine(HFO.o _).mono ?_;rintro e z ⟨rfl,rfl⟩))
    go_ret
    exact⟨zb HR.o.symm,HB1.o.trans (HB2.o.mono HB1.o.size)⟩
 have e1:(k ==1)= false:=by rw[beq_eq_false_iff_ne];exact hk1
 have e4:(k ==4)= false:=by rw[beq_eq_false_iff_ne];exact hk4
 have e2:(k ==2)= false:=by rw[beq_eq_false_iff_ne];exact hk2
 have e3:(k ==3)= false:=by rw[beq_eq_false_iff_ne];exact hk3
 have HR:Hid (z0p (.mk k n f s ns its)= false):=I (by rw[HCV.o];rw[e1,e2,e3,e4];rfl)
 go_enter Tryz.func128,Tryz.ntmps128
 go_upto_region 1 with (fail)
 generalize w.alloc (.cells ⟨[.int .i64 k,.int .i64 n,.float .f64 f,.string s,vn,vi]⟩ 52)= W at*
 go_wp2_with (first|((with_reducible refine za 52 _ rfl ?_ w.heap.size 0 [.int .i64 k,.int .i64 n,.float .f64 f,.string s,vn,vi] _ rfl HRG.o Tryz.underlying52 rfl ?_ ?_);(exact wA rfl);kernel_rfl)|(go_at_call 61;refine HRT.o.mono ?_;rintro e z ⟨rfl,hb⟩;have HB2:=I hb;clear hb))
 go_ret
 exact⟨zb HR.o.symm,HB1.o⟩
end
section
open Go Go.RowKit
def kidsB (z:Int) (n:Nat):Bool:=!(z == -2) && (decide (z < 0) ||((n:Int) ==z))
def noneV:VT->Bool
 | .mk k n f s ns its=>noneB k n f s ns.length its.length
def valB (k:Int) (v:VT):Bool:=if k= 1 then z0p v else noneV v
mutual
def z0m:ET->Nat->Bool
 | .mk k s v ns its,d=>decide (d<=12) && (kidsB (z0M k) its.length && (zN k s ns its.length && (valB k v && z04 its (d+1))))
def z04:List ET->Nat->Bool
 |[],_=>true
 |a::l,d=>z0m a d && z04 l d
end
theorem z1F {l:List ET} {j d:Nat} {x:ET} (h:l[j]?= some x):z04 (l.drop j) d=(z0m x d && z04 (l.drop (j+1)) d):=by
 rw[z58 h,z04]
theorem z1S {l:List ET} {d:Nat}:z04 (l.drop l.length) d= true:=by
 rw[List.drop_eq_nil_of_le (Nat.le_refl _),z04]
theorem z8r (k:Int): -2<=z0M k/\z0M k<=3:=by
 unfold z0M
 (repeat' split)<;>omega
theorem z5u {w:World} {p o i:Nat} {cs ds:List Value} (h:w.rangeAt p o cs) (hd:∀ j v,ds[j]?= some v->cs[i+j]?= some v):w.rangeAt p (o+i) ds:=fun j v hv=>by
 have:=h (i+j) v (hd j v hv)
 rw[show o+i+j= o+ (i+j) by omega];exact this
theorem z3U {w w':World} {p o:Nat} {cs:List Value} (h:w.rangeAt p o cs) (hb:Below w.heap.size w w') (hp:p < w.heap.size):w'.rangeAt p o cs:=zc h hb hp
theorem z9K:∀ (t:ET) (d:Nat) (cs:List Value) (p o:Nat) (w:World),d<=13->w.rangeAt p o cs->ExpAt w w.heap.size cs t->
  Calls Tryz.prog 107 #[.pointer (some ⟨p,o,none⟩),.int .i64 d] w fun e w'=>e= .returned (.bool (z0m t d))/\Below w.heap.size w w':=by
 intro t
 induction t using ET.ind with
 |h k s v ns its ih=>
  intro d cs p o w hd13 hr hv
  have IH:=I ih
  obtain⟨v0,v1,v2,v3,v4,v5,vn0,vi0,rfl,_,_,hvv,hns,hil,hi⟩:=hv.inv
  obtain⟨_,A,c,rfl,hA⟩:=hi
  obtain⟨_,NA,nc,rfl,_⟩:=id hns
  cases v with
  |mk vk vn vf vs vns vits=>
  obtain⟨u0,u1,hcv,_,_,hvf,_,hvns,_,hvi⟩:=hvv.inv
  obtain⟨_,VA,vc,rfl,_⟩:=hvns
  obtain⟨_,VD,vd,rfl,_⟩:=hvi
  simp only[List.cons.injEq,and_true] at hcv
  obtain⟨rfl,rfl,rfl,rfl,rfl,rfl⟩:=hcv
  have hvf':=wf64 hvf
  have HA:=I hA
  have d0:w.cell? ⟨p,o,none⟩= some (.int .i64 k):=hr 0 _ rfl
  have d9:w.cell? ⟨p,o+9,none⟩= some (.slice A its.length c):=hr 9 _ rfl
  have HPL:Hid (p < w.heap.size):=I (z2i d0)
  have D0:=I d0
  have D9:=I d9
  have HRV:Hid (w.rangeAt p (o+2) [.int .i64 vk,.int .i64 vn,.float .f64 vf,.string vs,.slice VA vns.length vc,.slice VD vits.length vd]):=I (z5u hr (fun j x h=>match j,h with|0,h=>h|1,h=>h|2,h=>h|3,h=>h|4,h=>h|5,h=>h|j+6,h=>by simp at h))
  have HNM:=I (zbV k p o s (.int .i64 vk) (.int .i64 vn) (.float .f64 vf) (.string vs) (.slice VA vns.length vc) (.slice VD vits.length vd) NA A nc its.length c ns w hr hns)
  have HKD:=I (fun w=>zdJ k w)
  have HVV:=I hvv
  have HVF:=I hvf'
  have HRE:Hid (z0m (.mk k s (.mk vk vn vf vs vns vits) ns its) d=(decide (d<=12) && (kidsB (z0M k) its.length && (zN k s ns its.length && (valB k (.mk vk vn vf vs vns vits) && z04 its (d+1)))))):=I (by rw[z0m])
  have HWR:=z8r k
  obtain⟨zz,hz⟩:∃ z,z0M k= z:=⟨_,rfl⟩
  rw[hz] at HKD HRE HWR
  unfold maxLen at hil
  clear hr hv ih hA hns hvf hvf' hvv hz
  generalize z0m (.mk k s (.mk vk vn vf vs vns vits) ns its) d= res at*
  by_cases hd:d<=12
  ·have hd': ¬ ((d:Int) > 12):=by omega
   have HD:=I hd
   by_cases hz2:zz= -2
   ·have e2:(zz == -2)= true:=by simpa using hz2
    have HR:Hid (res= false):=I (by rw[HRE.o,(by unfold kidsB;rw[e2];rfl:kidsB zz its.length= false)];simp)
    go_enter Tryz.func107,Tryz.ntmps107
    go_wp2_with (go_at_call 126;refine(HKD.o _).mono ?_;rintro e z ⟨rfl,hzw⟩;rw[hzw];clear hzw z)
    go_ret
    exact⟨zb HR.o.symm,Below.refl _ _⟩
   have e2:(zz == -2)= false:=by simpa using hz2
   by_cases hko:kidsB zz its.length= false
   ·have hz0:0<=zz/\¬ (its.length:Int)= zz:=by
     unfold kidsB at hko
     rw[e2] at hko
     simp at hko
     omega
    obtain⟨hz0,hz1⟩:=hz0
    have HR:Hid (res= false):=I (by rw[HRE.o,hko];simp)
    go_enter Tryz.func107,Tryz.ntmps107
    go_wp2_with (go_at_call 126;refine(HKD.o _).mono ?_;rintro e z ⟨rfl,hzw⟩;rw[hzw];clear hzw z)
    go_ret
    exact⟨zb HR.o.symm,Below.refl _ _⟩
   have hko2:kidsB zz its.length= true:=by simpa using hko
   have HKO:=I hko2
   have hzc:zz < 0\/(its.length:Int)= zz:=by
    unfold kidsB at hko2
    rw[e2] at hko2
    simp at hko2
    exact hko2
   clear hko hko2
   rw[HKO.o,decide_eq_true HD.o,Bool.true_and,Bool.true_and] at HRE
   cases hnm:zN k s ns its.length with
   |false=>
    rw[hnm] at HNM HRE
    clear hnm
    rcases hzc with hz0|hz1
    ·have hz0': ¬ (0<=zz):=by omega
     clear hz0
     have HR:Hid (res= false):=I (HRE.o.trans (Bool.false_and _))
     go_enter Tryz.func107,Tryz.ntmps107
     go_wp2_with (first|(go_at_call 126;refine(HKD.o _).mono ?_;rintro e z ⟨rfl,hzw⟩;rw[hzw];clear hzw z)|(go_at_call 127;refine HNM.o.mono ?_;rintro e w1 ⟨rfl,hb⟩;have HB1:=I hb;have x0:=(hb.cell (p:=⟨p,o,none⟩) HPL.o).trans D0.o;have x9:=(hb.cell (p:=⟨p,o+9,none⟩) HPL.o).trans D9.o;clear hb))
     go_ret
     exact⟨zb HR.o.symm,HB1.o⟩
    ·subst hz1
     have hz0':0<=(its.length:Int):=by omega
     have HR:Hid (res= false):=I (HRE.o.trans (Bool.false_and _))
     go_enter Tryz.func107,Tryz.ntmps107
     go_wp2_with (first|(go_at_call 126;refine(HKD.o _).mono ?_;rintro e z ⟨rfl,hzw⟩;rw[hzw];clear hzw z)|(go_at_call 127;refine HNM.o.mono ?_;rintro e w1 ⟨rfl,hb⟩;have HB1:=I hb;have x0:=(hb.cell (p:=⟨p,o,none⟩) HPL.o).trans D0.o;have x9:=(hb.cell (p:=⟨p,o+9,none⟩) HPL.o).trans D9.o;clear hb))
     go_ret
     exact⟨zb HR.o.symm,HB1.o⟩
   |true=>
    rw[hnm,Bool.true_and] at HRE
    rw[hnm] at HNM
    clear hnm
    rcases hzc with hz0|hz1
    ·have hz0': ¬ (0<=zz):=by omega
     clear hz0
     go_enter Tryz.func107,Tryz.ntmps107
     go_upto_region 4 with (first|(go_at_call 126;refine(HKD.o _).mono ?_;rintro e z ⟨rfl,hzw⟩;rw[hzw];clear hzw z)|(go_at_call 127;refine HNM.o.mono ?_;rintro e w1 ⟨rfl,hb⟩;have HB1:=I hb;have x0:=(hb.cell (p:=⟨p,o,none⟩) HPL.o).trans D0.o;have x9:=(hb.cell (p:=⟨p,o+9,none⟩) HPL.o).trans D9.o;clear hb))
     have X9:=I x9
     have X0:=I x0
     have HRV1:=I (z3U HRV.o HB1.o HPL.o)
     clear x9
     by_cases hk1:k= 1
     ·subst hk1
      have HCC:=I (z6C (.mk vk vn vf vs vns vits) [.int .i64 vk,.int .i64 vn,.float .f64 vf,.string vs,.slice VA vns.length vc,.slice VD vits.length vd] w1 ((HVV.o.under HB1.o).more HB1.o.size))
      have hval:valB 1 (.mk vk vn vf vs vns vits)= z0p (.mk vk vn vf vs vns vits):=by unfold valB;rw[if_pos rfl]
      rw[hval] at HRE
      cases hvb:z0p (.mk vk vn vf vs vns vits) with
      |false=>
       have HR:Hid (res= false):=I (HRE.o.trans (by rw[hvb];exact Bool.false_and _))
       rw[hvb] at HCC
       clear hvb hval
       go_wp2_with (first|((with_reducible refine za 52 _ rfl ?_ p (o+2) [.int .i64 vk,.int .i64 vn,.float .f64 vf,.string vs,.slice VA vns.length vc,.slice VD vits.length vd] _ rfl HRV1.o Tryz.underlying52 rfl ?_ ?_);(exact wA rfl);kernel_rfl)|(go_at_call 128;refine HCC.o.mono ?_;rintro e w2 ⟨rfl,hb⟩;have HB2:=I hb;have y0:=(hb.cell (p:=⟨p,o,none⟩) (Nat.lt_of_lt_of_le HPL.o HB1.o.size)).trans X0.o;have y9:=(hb.cell (p:=⟨p,o+9,none⟩) (Nat.lt_of_lt_of_le HPL.o HB1.o.size)).trans X9.o;clear hb))
       go_ret
       exact⟨zb HR.o.symm,HB1.o.trans (HB2.o.mono HB1.o.size)⟩
      |true=>
       have HRR:Hid (res= z04 its (d+1)):=I (HRE.o.trans (by rw[hvb,Bool.true_and]))
       rw[hvb] at HCC
       clear hvb hval
       go_upto_region 7 with (first|((with_reducible refine za 52 _ rfl ?_ p (o+2) [.int .i64 vk,.int .i64 vn,.float .f64 vf,.string vs,.slice VA vns.length vc,.slice VD vits.length vd] _ rfl HRV1.o Tryz.underlying52 rfl ?_ ?_);(exact wA rfl);kernel_rfl)|(go_at_call 128;refine HCC.o.mono ?_;rintro e w2 ⟨rfl,hb⟩;have HB2:=I hb;have y0:=(hb.cell (p:=⟨p,o,none⟩) (Nat.lt_of_lt_of_le HPL.o HB1.o.size)).trans X0.o;have y9:=(hb.cell (p:=⟨p,o+9,none⟩) (Nat.lt_of_lt_of_le HPL.o HB1.o.size)).trans X9.o;clear hb))
       clear y9
       go_loopg [68] its.length (fun q x u=>∃ j:Nat,j+q= its.length/\x= .int .i64 j/\Below w.heap.size w u/\z04 (its.drop j) (d+1)= res)
       case atStart=>exact⟨0,by omega,rfl,HB1.o.trans (HB2.o.mono HB1.o.size),HRR.o.symm⟩
       case round=>
        obtain⟨j,hj,rfl,hbu,hres⟩:=hrel
        have HBU:=I hbu
        have HR:=I hres
        have u9:=(hbu.cell (p:=⟨p,o+9,none⟩) HPL.o).trans D9.o
        clear hbu hres
        cases gk with
        |zero=>
         obtain rfl:j= its.length:=by omega
         have hge: ¬ ((its.length:Int) <(its.length:Int)):=by omega
         have HV:=I (HR.o.symm.trans z1S)
         go_wp2
         go_ret
         exact⟨zb HV.o.symm,HBU.o⟩
        |succ q=>
         have hlt:(j:Int) <(its.length:Int):=by omega
         obtain⟨y,hy⟩:∃ y,its[j]?= some y:=⟨_,List.getElem?_eq_getElem (by omega)⟩
         obtain⟨b,ob,rfl,hbl,hc⟩:=HA.o (by omega)
         obtain⟨ks,hkl,hks,hvx⟩:=hc j y hy
         have HV:=I (HR.o.symm.trans (z1F hy))
         have HC:=I (IH.o y (List.mem_of_getElem? hy) (d+1) ks b (ob+j*10) wr (by omega) (zc hks HBU.o hbl) ((hvx.under HBU.o).more HBU.o.size))
         clear hc hks hvx hy HR hkl hbl
         cases hrc:z0m y (d+1) with
         |false=>
          have HV2:Hid (res= false):=I (HV.o.trans (by rw[hrc];exact Bool.false_and _))
          rw[hrc] at HC
          clear hrc
          go_wp2_with (go_at_call 107;refine HC.o.mono ?_;rintro e w4 ⟨rfl,hb⟩;have HB4:=I hb;clear hb)
          go_ret
          exact⟨zb HV2.o.symm,HBU.o.trans (HB4.o.mono HBU.o.size)⟩
         |true=>
          have HV2:=I (HV.o.trans (by rw[hrc,Bool.true_and]))
          rw[hrc] at HC
          clear hrc
          go_wp2_with (go_at_call 107;refine HC.o.mono ?_;rintro e w4 ⟨rfl,hb⟩;have HB4:=I hb;clear hb)
          go_roundg q
          case measure=>omega
          case rel=>exact⟨j+1,by omega,by go_num,HBU.o.trans (HB4.o.mono HBU.o.size),HV2.o.symm⟩
     ·have hk1n:(k !=1)= true:=by simpa using hk1
      have HCC:=I (z4E p (o+2) vk vn vf vs VA VD vns.length vits.length vc vd w1 HVF.o HRV1.o)
      have hval:valB k (.mk vk vn vf vs vns vits)= noneB vk vn vf vs vns.length vits.length:=by unfold valB;rw[if_neg hk1];rfl
      rw[hval] at HRE
      have x9:=X9.o
      cases hvb:noneB vk vn vf vs vns.length vits.length with
      |false=>
       have HR:Hid (res= false):=I (HRE.o.trans (by rw[hvb];exact Bool.false_and _))
       rw[hvb] at HCC
       clear hvb hval
       go_wp2_with (go_at_call 129;refine HCC.o.mono ?_;rintro e w2 ⟨rfl,hzw⟩;rw[hzw];clear hzw w2)
       go_ret
       exact⟨zb HR.o.symm,HB1.o⟩
      |true=>
       have HRR:Hid (res= z04 its (d+1)):=I (HRE.o.trans (by rw[hvb,Bool.true_and]))
       rw[hvb] at HCC
       clear hvb hval
       go_upto_region 7 with (go_at_call 129;refine HCC.o.mono ?_;rintro e w2 ⟨rfl,hzw⟩;rw[hzw];clear hzw w2)
       clear x9
       go_loopg [68] its.length (fun q x u=>∃ j:Nat,j+q= its.length/\x= .int .i64 j/\Below w.heap.size w u/\z04 (its.drop j) (d+1)= res)
       case atStart=>exact⟨0,by omega,rfl,HB1.o,HRR.o.symm⟩
       case round=>
        obtain⟨j,hj,rfl,hbu,hres⟩:=hrel
        have HBU:=I hbu
        have HR:=I hres
        have u9:=(hbu.cell (p:=⟨p,o+9,none⟩) HPL.o).trans D9.o
        clear hbu hres
        cases gk with
        |zero=>
         obtain rfl:j= its.length:=by omega
         have hge: ¬ ((its.length:Int) <(its.length:Int)):=by omega
         have HV:=I (HR.o.symm.trans z1S)
         go_wp2
         go_ret
         exact⟨zb HV.o.symm,HBU.o⟩
        |succ q=>
         have hlt:(j:Int) <(its.length:Int):=by omega
         obtain⟨y,hy⟩:∃ y,its[j]?= some y:=⟨_,List.getElem?_eq_getElem (by omega)⟩
         obtain⟨b,ob,rfl,hbl,hc⟩:=HA.o (by omega)
         obtain⟨ks,hkl,hks,hvx⟩:=hc j y hy
         have HV:=I (HR.o.symm.trans (z1F hy))
         have HC:=I (IH.o y (List.mem_of_getElem? hy) (d+1) ks b (ob+j*10) wr (by omega) (zc hks HBU.o hbl) ((hvx.under HBU.o).more HBU.o.size))
         clear hc hks hvx hy HR hkl hbl
         cases hrc:z0m y (d+1) with
         |false=>
          have HV2:Hid (res= false):=I (HV.o.trans (by rw[hrc];exact Bool.false_and _))
          rw[hrc] at HC
          clear hrc
          go_wp2_with (go_at_call 107;refine HC.o.mono ?_;rintro e w4 ⟨rfl,hb⟩;have HB4:=I hb;clear hb)
          go_ret
          exact⟨zb HV2.o.symm,HBU.o.trans (HB4.o.mono HBU.o.size)⟩
         |true=>
          have HV2:=I (HV.o.trans (by rw[hrc,Bool.true_and]))
          rw[hrc] at HC
          clear hrc
          go_wp2_with (go_at_call 107;refine HC.o.mono ?_;rintro e w4 ⟨rfl,hb⟩;have HB4:=I hb;clear hb)
          go_roundg q
          case measure=>omega
          case rel=>exact⟨j+1,by omega,by go_num,HBU.o.trans (HB4.o.mono HBU.o.size),HV2.o.symm⟩
    ·subst hz1
     have hz0':0<=(its.length:Int):=by omega
     go_enter Tryz.func107,Tryz.ntmps107
     go_upto_region 4 with (first|(go_at_call 126;refine(HKD.o _).mono ?_;rintro e z ⟨rfl,hzw⟩;rw[hzw];clear hzw z)|(go_at_call 127;refine HNM.o.mono ?_;rintro e w1 ⟨rfl,hb⟩;have HB1:=I hb;have x0:=(hb.cell (p:=⟨p,o,none⟩) HPL.o).trans D0.o;have x9:=(hb.cell (p:=⟨p,o+9,none⟩) HPL.o).trans D9.o;clear hb))
     have X9:=I x9
     have X0:=I x0
     have HRV1:=I (z3U HRV.o HB1.o HPL.o)
     clear x9
     by_cases hk1:k= 1
     ·subst hk1
      have HCC:=I (z6C (.mk vk vn vf vs vns vits) [.int .i64 vk,.int .i64 vn,.float .f64 vf,.string vs,.slice VA vns.length vc,.slice VD vits.length vd] w1 ((HVV.o.under HB1.o).more HB1.o.size))
      have hval:valB 1 (.mk vk vn vf vs vns vits)= z0p (.mk vk vn vf vs vns vits):=by unfold valB;rw[if_pos rfl]
      rw[hval] at HRE
      cases hvb:z0p (.mk vk vn vf vs vns vits) with
      |false=>
       have HR:Hid (res= false):=I (HRE.o.trans (by rw[hvb];exact Bool.false_and _))
       rw[hvb] at HCC
       clear hvb hval
       go_wp2_with (first|((with_reducible refine za 52 _ rfl ?_ p (o+2) [.int .i64 vk,.int .i64 vn,.float .f64 vf,.string vs,.slice VA vns.length vc,.slice VD vits.length vd] _ rfl HRV1.o Tryz.underlying52 rfl ?_ ?_);(exact wA rfl);kernel_rfl)|(go_at_call 128;refine HCC.o.mono ?_;rintro e w2 ⟨rfl,hb⟩;have HB2:=I hb;have y0:=(hb.cell (p:=⟨p,o,none⟩) (Nat.lt_of_lt_of_le HPL.o HB1.o.size)).trans X0.o;have y9:=(hb.cell (p:=⟨p,o+9,none⟩) (Nat.lt_of_lt_of_le HPL.o HB1.o.size)).trans X9.o;clear hb))
       go_ret
       exact⟨zb HR.o.symm,HB1.o.trans (HB2.o.mono HB1.o.size)⟩
      |true=>
       have HRR:Hid (res= z04 its (d+1)):=I (HRE.o.trans (by rw[hvb,Bool.true_and]))
       rw[hvb] at HCC
       clear hvb hval
       go_upto_region 7 with (first|((with_reducible refine za 52 _ rfl ?_ p (o+2) [.int .i64 vk,.int .i64 vn,.float .f64 vf,.string vs,.slice VA vns.length vc,.slice VD vits.length vd] _ rfl HRV1.o Tryz.underlying52 rfl ?_ ?_);(exact wA rfl);kernel_rfl)|(go_at_call 128;refine HCC.o.mono ?_;rintro e w2 ⟨rfl,hb⟩;have HB2:=I hb;have y0:=(hb.cell (p:=⟨p,o,none⟩) (Nat.lt_of_lt_of_le HPL.o HB1.o.size)).trans X0.o;have y9:=(hb.cell (p:=⟨p,o+9,none⟩) (Nat.lt_of_lt_of_le HPL.o HB1.o.size)).trans X9.o;clear hb))
       clear y9
       go_loopg [68] its.length (fun q x u=>∃ j:Nat,j+q= its.length/\x= .int .i64 j/\Below w.heap.size w u/\z04 (its.drop j) (d+1)= res)
       case atStart=>exact⟨0,by omega,rfl,HB1.o.trans (HB2.o.mono HB1.o.size),HRR.o.symm⟩
       case round=>
        obtain⟨j,hj,rfl,hbu,hres⟩:=hrel
        have HBU:=I hbu
        have HR:=I hres
        have u9:=(hbu.cell (p:=⟨p,o+9,none⟩) HPL.o).trans D9.o
        clear hbu hres
        cases gk with
        |zero=>
         obtain rfl:j= its.length:=by omega
         have hge: ¬ ((its.length:Int) <(its.length:Int)):=by omega
         have HV:=I (HR.o.symm.trans z1S)
         go_wp2
         go_ret
         exact⟨zb HV.o.symm,HBU.o⟩
        |succ q=>
         have hlt:(j:Int) <(its.length:Int):=by omega
         obtain⟨y,hy⟩:∃ y,its[j]?= some y:=⟨_,List.getElem?_eq_getElem (by omega)⟩
         obtain⟨b,ob,rfl,hbl,hc⟩:=HA.o (by omega)
         obtain⟨ks,hkl,hks,hvx⟩:=hc j y hy
         have HV:=I (HR.o.symm.trans (z1F hy))
         have HC:=I (IH.o y (List.mem_of_getElem? hy) (d+1) ks b (ob+j*10) wr (by omega) (zc hks HBU.o hbl) ((hvx.under HBU.o).more HBU.o.size))
         clear hc hks hvx hy HR hkl hbl
         cases hrc:z0m y (d+1) with
         |false=>
          have HV2:Hid (res= false):=I (HV.o.trans (by rw[hrc];exact Bool.false_and _))
          rw[hrc] at HC
          clear hrc
          go_wp2_with (go_at_call 107;refine HC.o.mono ?_;rintro e w4 ⟨rfl,hb⟩;have HB4:=I hb;clear hb)
          go_ret
          exact⟨zb HV2.o.symm,HBU.o.trans (HB4.o.mono HBU.o.size)⟩
         |true=>
          have HV2:=I (HV.o.trans (by rw[hrc,Bool.true_and]))
          rw[hrc] at HC
          clear hrc
          go_wp2_with (go_at_call 107;refine HC.o.mono ?_;rintro e w4 ⟨rfl,hb⟩;have HB4:=I hb;clear hb)
          go_roundg q
          case measure=>omega
          case rel=>exact⟨j+1,by omega,by go_num,HBU.o.trans (HB4.o.mono HBU.o.size),HV2.o.symm⟩
     ·have hk1n:(k !=1)= true:=by simpa using hk1
      have HCC:=I (z4E p (o+2) vk vn vf vs VA VD vns.length vits.length vc vd w1 HVF.o HRV1.o)
      have hval:valB k (.mk vk vn vf vs vns vits)= noneB vk vn vf vs vns.length vits.length:=by unfold valB;rw[if_neg hk1];rfl
      rw[hval] at HRE
      have x9:=X9.o
      cases hvb:noneB vk vn vf vs vns.length vits.length with
      |false=>
       have HR:Hid (res= false):=I (HRE.o.trans (by rw[hvb];exact Bool.false_and _))
       rw[hvb] at HCC
       clear hvb hval
       go_wp2_with (go_at_call 129;refine HCC.o.mono ?_;rintro e w2 ⟨rfl,hzw⟩;rw[hzw];clear hzw w2)
       go_ret
       exact⟨zb HR.o.symm,HB1.o⟩
      |true=>
       have HRR:Hid (res= z04 its (d+1)):=I (HRE.o.trans (by rw[hvb,Bool.true_and]))
       rw[hvb] at HCC
       clear hvb hval
       go_upto_region 7 with (go_at_call 129;refine HCC.o.mono ?_;rintro e w2 ⟨rfl,hzw⟩;rw[hzw];clear hzw w2)
       clear x9
       go_loopg [68] its.length (fun q x u=>∃ j:Nat,j+q= its.length/\x= .int .i64 j/\Below w.heap.size w u/\z04 (its.drop j) (d+1)= res)
       case atStart=>exact⟨0,by omega,rfl,HB1.o,HRR.o.symm⟩
       case round=>
        obtain⟨j,hj,rfl,hbu,hres⟩:=hrel
        have HBU:=I hbu
        have HR:=I hres
        have u9:=(hbu.cell (p:=⟨p,o+9,none⟩) HPL.o).trans D9.o
        clear hbu hres
        cases gk with
        |zero=>
         obtain rfl:j= its.length:=by omega
         have hge: ¬ ((its.length:Int) <(its.length:Int)):=by omega
         have HV:=I (HR.o.symm.trans z1S)
         go_wp2
         go_ret
         exact⟨zb HV.o.symm,HBU.o⟩
        |succ q=>
         have hlt:(j:Int) <(its.length:Int):=by omega
         obtain⟨y,hy⟩:∃ y,its[j]?= some y:=⟨_,List.getElem?_eq_getElem (by omega)⟩
         obtain⟨b,ob,rfl,hbl,hc⟩:=HA.o (by omega)
         obtain⟨ks,hkl,hks,hvx⟩:=hc j y hy
         have HV:=I (HR.o.symm.trans (z1F hy))
         have HC:=I (IH.o y (List.mem_of_getElem? hy) (d+1) ks b (ob+j*10) wr (by omega) (zc hks HBU.o hbl) ((hvx.under HBU.o).more HBU.o.size))
         clear hc hks hvx hy HR hkl hbl
         cases hrc:z0m y (d+1) with
         |false=>
          have HV2:Hid (res= false):=I (HV.o.trans (by rw[hrc];exact Bool.false_and _))
          rw[hrc] at HC
          clear hrc
          go_wp2_with (go_at_call 107;refine HC.o.mono ?_;rintro e w4 ⟨rfl,hb⟩;have HB4:=I hb;clear hb)
          go_ret
          exact⟨zb HV2.o.symm,HBU.o.trans (HB4.o.mono HBU.o.size)⟩
         |true=>
          have HV2:=I (HV.o.trans (by rw[hrc,Bool.true_and]))
          rw[hrc] at HC
          clear hrc
          go_wp2_with (go_at_call 107;refine HC.o.mono ?_;rintro e w4 ⟨rfl,hb⟩;have HB4:=I hb;clear hb)
          go_roundg q
          case measure=>omega
          case rel=>exact⟨j+1,by omega,by go_num,HBU.o.trans (HB4.o.mono HBU.o.size),HV2.o.symm⟩
  ·have hd':(d:Int) > 12:=by omega
   have HR:Hid (res= false):=I (by rw[HRE.o,decide_eq_false hd];simp)
   go_enter Tryz.func107,Tryz.ntmps107
   go_wp2_with (go_at_call 126;refine(HKD.o _).mono ?_;rintro e z ⟨rfl,hzw⟩;rw[hzw];clear hzw z)
   go_ret
   exact⟨zb HR.o.symm,Below.refl _ _⟩
def z0i (t:ET):Bool:=decide (cntE t 0<=200) && z0m t 1
theorem z6a (t:ET) (cs:List Value) (w:World) (hv:ExpAt w w.heap.size cs t):Calls Tryz.prog 84 #[.agg ⟨cs⟩] w fun e w'=>e= .returned (.bool (z0i t))/\Below w.heap.size w w':=by
 have HCL:=I (eslen hv)
 have HB:=I (zd w (.cells ⟨cs⟩ 54))
 have HR:=I (zD w cs 54)
 have HV:=I ((hv.under HB.o).more HB.o.size)
 have HS:=I (zL w (.cells ⟨cs⟩ 54))
 clear hv
 go_enter Tryz.func84,Tryz.ntmps84
 go_upto_region 1 with (fail)
 generalize w.alloc (.cells ⟨cs⟩ 54)= W at*
 have HC:=I (zaA t cs W HV.o)
 by_cases h:cntE t 0<=200
 ·have h2:(cntE t 0:Int)<=200:=by omega
  have HT:Hid (z0i t= z0m t 1):=I (by unfold z0i;rw[decide_eq_true h,Bool.true_and])
  clear h
  go_wp2_with (first|((with_reducible refine za 54 _ rfl ?_ w.heap.size 0 cs _ rfl HR.o Tryz.underlying54 rfl ?_ ?_);(exact wA rfl);rw[HCL.o];kernel_rfl)|(go_at_call 106;refine HC.o.mono ?_;rintro e z ⟨rfl,hb⟩;have HB2:=I hb;clear hb)|(go_at_call 107;refine(z9K t 1 cs w.heap.size 0 z (by omega) (zc HR.o HB2.o HS.o) ((HV.o.under HB2.o).more HB2.o.size)).mono ?_;rintro e z2 ⟨rfl,hb⟩;have HB3:=I hb;clear hb))
  go_ret
  exact⟨zb HT.o.symm,(HB.o.trans (HB2.o.mono HB.o.size)).trans (HB3.o.mono (Nat.le_trans HB.o.size HB2.o.size))⟩
 ·have h2: ¬ (cntE t 0:Int)<=200:=by omega
  have HT:Hid (z0i t= false):=I (by unfold z0i;rw[decide_eq_false h];rfl)
  clear h
  go_wp2_with (first|((with_reducible refine za 54 _ rfl ?_ w.heap.size 0 cs _ rfl HR.o Tryz.underlying54 rfl ?_ ?_);(exact wA rfl);rw[HCL.o];kernel_rfl)|(go_at_call 106;refine HC.o.mono ?_;rintro e z ⟨rfl,hb⟩;have HB2:=I hb;clear hb))
  go_ret
  exact⟨zb HT.o.symm,HB.o.trans (HB2.o.mono HB.o.size)⟩
end
end Go.Proofs.YtdjfpcmlffekkaaGreatDoor
