/- Parts of a proof: FText, RDig, EConst, RRLeaf. -/
import Derived.Lib.ItoaMem
import Derived.Laws.BytesString
import Derived.Test.YtmpbepjjbaeebaaGreatDoorPackR13
import Derived.Test.YtmpbepjjbaeebaaGreatDoorPackR14
import Derived.Test.YtmpbepjjbaeebaaGreatDoorPackR17
import Derived.Test.YtmpbepjjbaeebaaGreatDoorPackR18
import Derived.Test.YtmpbepjjbaeebaaGreatDoorPackR19
import Derived.Test.YtmpbepjjbaeebaaGreatDoorPackR20
import Derived.Test.YtmpbepjjbaeebaaGreatDoorPackR21
set_option maxHeartbeats 8000000
set_option maxRecDepth 100000
set_option linter.unusedVariables false
set_option linter.unusedSimpArgs false
section
namespace Go.Proofs.YtmpbepjjbaeebaaGreatDoor
open Go Go.RowKit Go.Sort Go.Lib
open Go.Lib (hid)
def TabP (w:World):Prop:=Lib.TabIs Tryz.prog w "internal/strconv.uint64pow10" .u64 Lib.pow10Tab
theorem z2T (w:World) (k:Nat) (os:Array Obj):Below w.heap.size w (Sort.grow (w.drewN k) os):=by
 have h1:Below w.heap.size w (w.drewN k):=⟨rfl,rfl,rfl,Nat.le_refl _,fun _ _=>rfl⟩
 refine h1.trans ?_
 refine⟨rfl,rfl,rfl,?_,fun i hi=> ?_⟩
 ·show(w.drewN k).heap.size≤((w.drewN k).heap ++ os).size
  rw[Array.size_append];exact Nat.le_add_right _ _
 ·show((w.drewN k).heap ++ os)[i]?=(w.drewN k).heap[i]?
  exact Array.getElem?_append_left hi
theorem zaw (w:World) (T:TypeId) (nd:Nat) (hs:nd≤24):Holds (fun(b:UInt8)=>Value.int .u8 (b.toNat:Int)) (w.alloc (.cells Lib.zeros24 T)) w.heap.size 0 (Array.replicate nd (0:UInt8)):=fun j hj=>by
 have hj':j < nd:=by simpa using hj
 refine⟨?_,World.frozen?_alloc_new _ _ _ _⟩
 rw[World.cell?_alloc_new,Lib.zeros24_at _ (by omega),getElem!_pos _ j hj]
 simp
theorem zbU (w:World) (o:Obj) (dk:Array UInt8) (k:Nat):∃ os,(Sort.putRow (fun(b:UInt8)=>Value.int .u8 (b.toNat:Int)) (w.alloc o) w.heap.size 0 dk).drewN k= Sort.grow (w.drewN k) os:=by
 rw[alloc_eq_grow]
 obtain⟨os',_,e⟩:=Sort.putRow_grow_new (fun(b:UInt8)=>Value.int .u8 (b.toNat:Int)) w #[o] w.heap.size 0 dk (Nat.le_refl _)
 exact⟨os',by rw[e];rfl⟩
theorem z6m (u:Nat) (hu1:1≤u) (hu64:u < 18446744073709551616) (w:World) (ht:TabP w):Calls Tryz.prog 232 #[.int .u64 u,.int .i64 10] w fun e w'=>e= .returned (.string ⟨(Lib.decDigits u).toArray⟩)∧Below w.heap.size w w':=by
 by_cases hs:u < 100
 ·have HS:=hid (fun w=>Tryz.internal_strconv_small u hs w)
  have t1:(u:Int) < 100:=by omega
  have t2:IntKind.i64.wrap (u:Int)= u:=by rw[IntKind.wrap_i64];omega
  clear hs hu64 hu1 ht
  go_enter Tryz.func232,Tryz.ntmps232
  go_wp2_with (go_at_call 224;refine(HS.out _).mono ?_;rintro e z ⟨rfl,rfl⟩)
  go_ret
  exact⟨rfl,Below.refl _ _⟩
 ·have hnd20:Lib.nDigits u≤20:=by have:=Lib.numDigits_eq u hu1 hu64;split at this<;>omega
  have hal:Tryz.prog.arrayLen 220= 24:=by simp[Program.arrayLen,Tryz.underlying220]
  have hsl1:∀ W,(Instr.sliceAt 220 (.pointer (some ⟨w.heap.size,0,none⟩)) none (some (.int .i64 (Lib.nDigits u:Int))) none).run Tryz.prog W= .ok (.slice (some ⟨w.heap.size,0,none⟩) (Lib.nDigits u) 24) W:=fun W=>by
   rw[run_sliceAt_array_h W 220 ⟨w.heap.size,0,none⟩ (by simp[Program.arrayLen,Program.elem,Tryz.underlying220]) .i64 (Lib.nDigits u:Int) (by omega) (by rw[hal];omega)]
   go_simp
  have hH0:=zaw w 220 (Lib.nDigits u) (by omega)
  have hfmt:=Tryz.internal_strconv_formatBase10 w.heap.size 0 24 u (Array.replicate (Lib.nDigits u) 0) (w.alloc (.cells Lib.zeros24 220)) hH0 (by rw[Array.size_replicate];exact Lib.lt_pow_nDigits u) hu64 (by rw[Array.size_replicate];omega)
  rw[Array.size_replicate] at hfmt
  have HH0:=hid hH0
  have HF:=hid hfmt
  have HD:=hid (Tryz.internal_strconv_numDigits u hu1 hu64 (w.alloc (.cells Lib.zeros24 220)) (Lib.tabIs_alloc ht _))
  have t1: ¬ (u:Int) < 100:=by omega
  clear hH0 hal hfmt hs
  go_enter Tryz.func232,Tryz.ntmps232
  go_wp2_with (go_at_call 225;refine HD.out.mono ?_;rintro e w' ⟨rfl,rfl⟩)
  go_at_call 226
  refine HF.out.mono ?_
  rintro e w' ⟨rfl,k,v',dk,rfl,hF⟩
  have hcv:(convert 164 9 (.slice (some ⟨w.heap.size,0,none⟩) (Lib.nDigits u) 24)).run Tryz.prog ((putRow (fun(b:UInt8)=>Value.int .u8 (b.toNat:Int)) (w.alloc (.cells Lib.zeros24 220)) w.heap.size 0 dk).drewN k)= .ok (.string ⟨(Lib.decDigits u).toArray⟩) ((putRow (fun(b:UInt8)=>Value.int .u8 (b.toNat:Int)) (w.alloc (.cells Lib.zeros24 220)) w.heap.size 0 dk).drewN k):=by
   have h:=run_convert_bytes_back (P:=Tryz.prog) ((putRow (fun(b:UInt8)=>Value.int .u8 (b.toNat:Int)) (w.alloc (.cells Lib.zeros24 220)) w.heap.size 0 dk).drewN k) 164 9 5 ⟨w.heap.size,0,none⟩ 24 (Lib.decDigits u) Tryz.underlying164 Tryz.underlying5 Tryz.underlying9 (fun j hj=>by
    rw[Lib.row_is_numeral hF j hj,Lib.add_plain,World.cell?_drewN]
    exact cell?_putRow (fun(b:UInt8)=>Value.int .u8 (b.toNat:Int)) _ w.heap.size 0 _ dk HH0.out (by rw[hF.size,Array.size_replicate]) j (by rw[hF.size];rw[Lib.decDigits_length] at hj;exact hj))
   rw[Lib.decDigits_length] at h
   exact h
  go_wp2
  go_ret
  obtain⟨os,eo⟩:=zbU w (.cells Lib.zeros24 220) dk k
  rw[eo]
  exact⟨rfl,z2T w k os⟩
theorem z4P (u:Nat) (hu1:1≤u) (hu64:u < 18446744073709551616) (w:World) (ht:TabP w):Calls Tryz.prog 213 #[.int .u64 u,.int .i64 10] w fun e w'=>e= .returned (.string ⟨(Lib.decDigits u).toArray⟩)∧Below w.heap.size w w':=by
 have H:=hid (z6m u hu1 hu64 w ht)
 clear hu1 hu64 ht
 go_enter Tryz.func213,Tryz.ntmps213
 go_wp2_with (go_at_call 232;refine H.out.mono ?_;rintro e z ⟨rfl,hb⟩;have HB:=hid hb;clear hb)
 go_ret
 exact⟨rfl,HB.out⟩
theorem z6M (n:Int) (h0: -9223372036854775808≤n) (h1:n≤9223372036854775807) (w:World) (ht:TabP w):Calls Tryz.prog 214 #[.int .i64 n] w fun e w'=>e= .returned (.string ⟨(Lib.itoa n).toArray⟩)∧Below w.heap.size w w':=by
 have H:=hid (Tryz.internal_strconv_Itoa n h0 h1 w ht)
 clear h0 h1 ht
 go_enter Tryz.func214,Tryz.ntmps214
 go_wp2_with (go_at_call 233;refine H.out.mono ?_;rintro e z ⟨rfl,k,os,hz⟩;have HZ:=hid hz;clear hz)
 go_ret
 rw[HZ.out]
 exact⟨rfl,z2T w k os⟩
theorem z6p (n:Int) (h0: -9223372036854775808≤n) (h1:n≤9223372036854775807) (w:World) (ht:TabP w):Calls Tryz.prog 189 #[.int .i64 n,.int .i64 10] w fun e w'=>e= .returned (.string ⟨(Lib.itoa n).toArray⟩)∧Below w.heap.size w w':=by
 have H:=hid (Tryz.internal_strconv_FormatInt_10 n h0 h1 w ht)
 clear h0 h1 ht
 go_enter Tryz.func189,Tryz.ntmps189
 go_wp2_with (go_at_call 209;refine H.out.mono ?_;rintro e z ⟨rfl,k,os,hz⟩;have HZ:=hid hz;clear hz)
 go_ret
 rw[HZ.out]
 exact⟨rfl,z2T w k os⟩
theorem TabP.next {w w':World} (h:TabP w) (hb:Below w.heap.size w w'):TabP w':=by
 unfold TabP Lib.TabIs World.var? at*
 cases hg:Tryz.prog.globalNamed "internal/strconv.uint64pow10" with
 |none=>simp[hg] at h
 |some g=>
  simp only[hg,Option.bind_some] at h ⊢
  have hlt:g < w.heap.size:=by
   rcases Nat.lt_or_ge g w.heap.size with h'|h'
   ·exact h'
   ·rw[Array.getElem?_eq_none h'] at h;simp at h
  rw[hb.block g hlt]
  exact h
theorem zaq {m:Nat} (h0:4503599627370496≤m) (h:m < 9007199254740992):floatToIntVal .f64 (4836865999795912704+m) .u64= some ((m:Nat):Int):=by
 obtain⟨l,rfl⟩:∃ l,m= 4503599627370496+l:=⟨m - 4503599627370496,by omega⟩
 rw[show 4836865999795912704+ (4503599627370496+l)= 4841369599423283200+l by omega]
 exact zdJ (by omega)
theorem z7j (f:Nat) (b:Bool) (h:decide (9223372036854775808≤f)= b):(if f < 9223372036854775808 then([]:List UInt8) else[45])= if b= true then[45] else[]:=by
 subst h
 by_cases h:9223372036854775808≤f
 ·rw[if_neg (by omega),if_pos (by simpa using h)]
 ·rw[if_pos (by omega),if_neg (by simpa using h)]
theorem z0B (op:BinOp) (ho:op= .add∨op= .sub∨op= .mul∨op= .quo) (t:TypeId) (x y:Nat) (h:floatBits op .f64 x y= none) (w:World):
  ∃ n,n < 2 ^ 64∧9218868437227405312 < n % 9223372036854775808∧(binOp op t (.float .f64 x) (.float .f64 y)).run Tryz.prog w= .ok (.float .f64 n) w.drew:=by
 refine⟨Question.cut (.nanBits .f64 x y) (w.tape w.drawn (.nanBits .f64 x y)),?_,?_,?_⟩
 ·show(w.tape w.drawn (.nanBits .f64 x y)) % 2*2 ^ 63+0x7ff0000000000000+1+ ((w.tape w.drawn (.nanBits .f64 x y)) / 2) % (2 ^ 52 - 1) < 2 ^ 64
  omega
 ·have h3:(w.tape w.drawn (.nanBits .f64 x y)) / 2 % (2 ^ 52 - 1) < 2 ^ 52 - 1:=Nat.mod_lt _ (by decide)
  have h4:(w.tape w.drawn (.nanBits .f64 x y)) % 2 < 2:=Nat.mod_lt _ (by decide)
  show 9218868437227405312 <((w.tape w.drawn (.nanBits .f64 x y)) % 2*2 ^ 63+0x7ff0000000000000+1+ ((w.tape w.drawn (.nanBits .f64 x y)) / 2) % (2 ^ 52 - 1)) % 9223372036854775808
  generalize (w.tape w.drawn (.nanBits .f64 x y)) / 2 % (2 ^ 52 - 1)= c at*
  generalize (w.tape w.drawn (.nanBits .f64 x y)) % 2= b at*
  have h5:b= 0∨b= 1:=by omega
  rcases h5 with rfl|rfl<;>omega
 ·rcases ho with rfl|rfl|rfl|rfl<;>(unfold floatBits at h;simp only at h;simp[binOp,Op.floatArith,h,choose];rfl)
theorem z5X {n m:Nat} (hn:n < 2 ^ 64) (h:9218868437227405312 < n % 9223372036854775808):FloatKind.f64.format.order n m= none:=
 z1I _ _ (.inl ((z0T hn).2 h))
theorem zbi {f:Nat} (hf:f < 2 ^ 64) (h: ¬ 9218868437227405312 < f % 9223372036854775808):(FloatKind.f64.format.order f f !=some .eq)= false:=by
 have h1:nanB f= false:=by
  rw[z0N,decide_eq_false]
  exact fun e=>h ((z0T hf).1 e)
 exact h1
theorem zbx {f:Nat} (hf:f < 2 ^ 64) (h:f % 9223372036854775808≠0):(FloatKind.f64.format.order f 0 ==some .eq)= false:=by
 rw[Bool.eq_false_iff]
 intro e
 rcases z4A hf e with h1|h1<;>omega
theorem zT (a b:List UInt8) (h:a.length+b.length≤1000000) (W:World):(Op.stringOp .add ⟨a.toArray⟩ ⟨b.toArray⟩).run Tryz.prog W= .ok (.string ⟨(a ++ b).toArray⟩) W:=by
 have h1:(Op.stringOp .add ⟨a.toArray⟩ ⟨b.toArray⟩).run Tryz.prog W= .ok (.string (⟨a.toArray⟩ ++ ⟨b.toArray⟩)) W:=run_string_add_sum W _ _ (by simp[ByteArray.size];omega)
 have h2:(⟨a.toArray⟩:ByteArray) ++ ⟨b.toArray⟩=⟨(a ++ b).toArray⟩:=by apply ByteArray.ext;simp[ByteArray.data_append]
 rw[h2] at h1
 exact h1
theorem z9s (f:Nat) (hf:f < 2 ^ 64) (w:World) (ht:TabP w):Calls Tryz.prog 190 #[.float .f64 f] w fun e w'=>e= .returned (.string ⟨(textF f).toArray⟩)∧Below w.heap.size w w':=by
 have HS:=hid (fun w=>zaW f hf w)
 have hsg:=fun b=>z7j f b
 unfold textF
 by_cases hn:9218868437227405312 < f % 9223372036854775808
 ·rw[if_pos hn]
  have t1:(FloatKind.f64.format.order f f !=some .eq)= true:=by rw[z5X hf hn];rfl
  clear ht hf hsg hn
  cases hb:decide (9223372036854775808≤f)<;>rw[hb] at HS<;>clear hb<;>go_enter Tryz.func190,Tryz.ntmps190
  all_goals
   go_wp2_with (go_at_call 210;refine(HS.out _).mono ?_;rintro e z ⟨rfl,rfl⟩)
   go_ret
   exact⟨rfl,Below.refl _ _⟩
 ·rw[if_neg hn]
  have t1:=zbi hf hn
  by_cases hi:f % 9223372036854775808= 9218868437227405312
  ·rw[if_pos hi]
   have hsub:floatBits .sub .f64 f f= none:=by
    have hd:f= 9218868437227405312∨f= 18442240474082181120:=by omega
    rcases hd with rfl|rfl<;>decide +kernel
   obtain⟨n,n1,n2,n3⟩:=z0B .sub (.inr (.inl rfl)) 22 f f hsub w
   have t2:(FloatKind.f64.format.order n 0 !=some .eq)= true:=by rw[z5X n1 n2];rfl
   have HW:Hid (Below w.heap.size w w.drew):=hid (Below.refl _ w).drew
   cases hb:decide (9223372036854775808≤f) with
   |true=>
    rw[hsg _ hb]
    rw[hb] at HS
    clear ht hf hsg hn hb hi n1 n2 hsub
    go_enter Tryz.func190,Tryz.ntmps190
    go_wp2_with (go_at_call 210;refine(HS.out _).mono ?_;rintro e z ⟨rfl,rfl⟩)
    go_ret
    exact⟨rfl,HW.out⟩
   |false=>
    rw[hsg _ hb]
    rw[hb] at HS
    clear ht hf hsg hn hb hi n1 n2 hsub
    go_enter Tryz.func190,Tryz.ntmps190
    go_wp2_with (go_at_call 210;refine(HS.out _).mono ?_;rintro e z ⟨rfl,rfl⟩)
    go_ret
    exact⟨rfl,HW.out⟩
  ·rw[if_neg hi]
   have hfin:f % 9223372036854775808 < 9218868437227405312:=by omega
   have hq:∀ (t:TypeId) (w:World),(binOp .sub t (.float .f64 f) (.float .f64 f)).run Tryz.prog w= .ok (.float .f64 0) w:=fun t w=>run_float_arith w .sub t .f64 _ _ _ (z8D hf hfin)
   have t2:(FloatKind.f64.format.order 0 0 !=some .eq)= false:=by decide +kernel
   by_cases h0:f % 9223372036854775808= 0
   ·have t3:(FloatKind.f64.format.order f 0 ==some .eq)= true:=by
     have:f= 0∨f= 9223372036854775808:=by omega
     rcases this with rfl|rfl<;>decide +kernel
    have hp:Lib.decDigits (zS (f % 9223372036854775808)).1 ++ (112::Lib.itoa (zS (f % 9223372036854775808)).2)=[48,112,48]:=by
     rw[h0]
     show Lib.decDigits 0 ++ (112::Lib.itoa 0)= _
     rw[show Lib.itoa 0= Lib.decDigits 0 from Lib.itoa_nonneg 0,Lib.decDigits_one (by decide)]
     decide
    rw[hp]
    cases hb:decide (9223372036854775808≤f)<;>rw[hsg _ hb]<;>rw[hb] at HS<;>clear ht hf hsg hn hb hi hfin h0 hp<;>go_enter Tryz.func190,Tryz.ntmps190
    all_goals
     go_wp2_with (go_at_call 210;refine(HS.out _).mono ?_;rintro e z ⟨rfl,rfl⟩)
     go_ret
     exact⟨rfl,Below.refl _ _⟩
   ·have t3:=zbx hf h0
    have HA:=hid (fun w=>z5y f hf w)
    generalize hr:f % 9223372036854775808= r at*
    have HX:=hid (fun w=>z9x r (by omega) hfin w)
    have hm:=z3F (r:=r) (by omega)
    have hp:=z7g (r:=r) (by omega) hfin
    have HY:=hid (fun w=>z9Q (mantF r) hm.1 hm.2 w)
    have hcv:∀ W:World,(convert 22 161 (.float .f64 (4836865999795912704+mantF r))).run Tryz.prog W= .ok (.int .u64 ((mantF r:Nat):Int)) W:=fun W=>run_convert_float_int W 22 161 .f64 .u64 _ _ (by kernel_rfl) Tryz.underlying161 (zaq hm.1 hm.2)
    have HRS:=hid (RedAt.start (m:=mantF r) (e:=powF r) (by omega) (by omega))
    rw[← z7o (r:=r) (by omega)] at HRS
    have hw1:wrap64 (powF r+53)= powF r+53:=by unfold wrap64;omega
    have hw2:wrap64 (powF r+53 - 53)= powF r:=by unfold wrap64;omega
    have hpl:=z4j (r:=r) hfin
    have HPL:=hid hpl
    generalize zS r= t at*
    generalize powF r= p at*
    generalize mantF r= m at*
    cases hb:decide (9223372036854775808≤f) with
    |true=>
     rw[hsg _ hb]
     rw[hb] at HS
     have HT:=hid ht
     clear ht hsg hn hb hi h0 hr hm hpl hf
     go_enter Tryz.func190,Tryz.ntmps190
     go_wp2_with (first|(go_at_call 210;refine(HS.out _).mono ?_;rintro e z ⟨rfl,rfl⟩)|(go_at_call 205;refine(HA.out _).mono ?_;rintro e z ⟨rfl,rfl⟩)|(go_at_call 211;refine(HX.out _).mono ?_;rintro e z ⟨rfl,rfl⟩)|(go_at_call 212;refine(HY.out _).mono ?_;rintro e z ⟨rfl,rfl⟩))
     go_loopg [5,6] m (fun q x y u=>∃ e:Int,x= .int .i64 e∧y= .int .u64 (q:Nat)∧RedAt t p q e∧u= z)
     case atStart=>exact⟨p,rfl,rfl,HRS.out,rfl⟩
     case round=>
      obtain⟨e,rfl,rfl,hrd,rfl⟩:=hrel
      have HRD:=hid hrd
      have hpw:=hrd.pow
      have hw3:wrap64 (e+1)= e+1:=by unfold wrap64;omega
      by_cases hodd:gk % 2= 0
      ·have t4:(gk:Int) % 2= 0:=by omega
       have HM:Hid (gk / 2 < gk):=hid (by omega)
       have HM2:Hid (IntKind.u64.wrap ((gk:Int) / 2)=((gk / 2:Nat):Int)):=hid (by rw[IntKind.wrap_u64];omega)
       have HNX:=hid (HRD.out.next hodd)
       clear hrd HRD hodd hpw
       go_wp2
       go_roundg (gk / 2)
       case measure=>exact HM.out
       case rel=>exact⟨e+1,congrArg (Value.int .i64) hw3,congrArg (Value.int .u64) HM2.out,HNX.out,rfl⟩
      ·have t4: ¬ (gk:Int) % 2= 0:=by omega
       have HV:Hid (t=(gk,e)):=hid (HRD.out.stop hodd)
       have hdl:=z1Z (n:=gk) (by have:=HPL.out;rw[HV.out] at this;omega)
       have hil:=z1X (n:=e) (by omega) (by omega)
       have c1:=zT [45] (Lib.decDigits gk) (by simp;omega)
       have c2:=zT ([45] ++ Lib.decDigits gk) [112] (by simp;omega)
       have c3:=zT ([45] ++ Lib.decDigits gk ++ [112]) (Lib.itoa e) (by simp;omega)
       have cE:Hid ((⟨([45] ++ Lib.decDigits gk ++ [112] ++ Lib.itoa e).toArray⟩:ByteArray)=⟨([45] ++ (Lib.decDigits gk ++ (112::Lib.itoa e))).toArray⟩):=hid (by simp)
       generalize (⟨([45] ++ Lib.decDigits gk).toArray⟩:ByteArray)= S1 at*
       generalize (⟨([45] ++ Lib.decDigits gk ++ [112]).toArray⟩:ByteArray)= S2 at*
       generalize (⟨([45] ++ Lib.decDigits gk ++ [112] ++ Lib.itoa e).toArray⟩:ByteArray)= S3 at*
       clear hdl hil
       have HU:=hid (z4P gk (by omega) (by omega) wr HT.out)
       have HI:=hid (fun z h=>z6M e (by omega) (by omega) z h)
       clear hrd HRD hodd hpw
       go_wp2_with (first|(go_at_call 213;refine HU.out.mono ?_;rintro e z ⟨rfl,hb⟩;have HB1:=hid hb;have HT1:=hid (HT.out.next hb);clear hb)|(go_at_call 214;refine(HI.out _ HT1.out).mono ?_;rintro e z ⟨rfl,hb⟩;have HB2:=hid hb;clear hb))
       go_ret
       have hv:=HV.out
       subst hv
       exact⟨congrArg (fun s=>Ending.returned (.string s)) cE.out,HB1.out.trans (HB2.out.mono HB1.out.size)⟩
    |false=>
     rw[hsg _ hb]
     rw[hb] at HS
     have HT:=hid ht
     clear ht hsg hn hb hi h0 hr hm hpl hf
     go_enter Tryz.func190,Tryz.ntmps190
     go_wp2_with (first|(go_at_call 210;refine(HS.out _).mono ?_;rintro e z ⟨rfl,rfl⟩)|(go_at_call 205;refine(HA.out _).mono ?_;rintro e z ⟨rfl,rfl⟩)|(go_at_call 211;refine(HX.out _).mono ?_;rintro e z ⟨rfl,rfl⟩)|(go_at_call 212;refine(HY.out _).mono ?_;rintro e z ⟨rfl,rfl⟩))
     go_loopg [5,6] m (fun q x y u=>∃ e:Int,x= .int .i64 e∧y= .int .u64 (q:Nat)∧RedAt t p q e∧u= z)
     case atStart=>exact⟨p,rfl,rfl,HRS.out,rfl⟩
     case round=>
      obtain⟨e,rfl,rfl,hrd,rfl⟩:=hrel
      have HRD:=hid hrd
      have hpw:=hrd.pow
      have hw3:wrap64 (e+1)= e+1:=by unfold wrap64;omega
      by_cases hodd:gk % 2= 0
      ·have t4:(gk:Int) % 2= 0:=by omega
       have HM:Hid (gk / 2 < gk):=hid (by omega)
       have HM2:Hid (IntKind.u64.wrap ((gk:Int) / 2)=((gk / 2:Nat):Int)):=hid (by rw[IntKind.wrap_u64];omega)
       have HNX:=hid (HRD.out.next hodd)
       clear hrd HRD hodd hpw
       go_wp2
       go_roundg (gk / 2)
       case measure=>exact HM.out
       case rel=>exact⟨e+1,congrArg (Value.int .i64) hw3,congrArg (Value.int .u64) HM2.out,HNX.out,rfl⟩
      ·have t4: ¬ (gk:Int) % 2= 0:=by omega
       have HV:Hid (t=(gk,e)):=hid (HRD.out.stop hodd)
       have hdl:=z1Z (n:=gk) (by have:=HPL.out;rw[HV.out] at this;omega)
       have hil:=z1X (n:=e) (by omega) (by omega)
       have c1:=zT [] (Lib.decDigits gk) (by simp;omega)
       have c2:=zT ([] ++ Lib.decDigits gk) [112] (by simp;omega)
       have c3:=zT ([] ++ Lib.decDigits gk ++ [112]) (Lib.itoa e) (by simp;omega)
       have cE:Hid ((⟨([] ++ Lib.decDigits gk ++ [112] ++ Lib.itoa e).toArray⟩:ByteArray)=⟨([] ++ (Lib.decDigits gk ++ (112::Lib.itoa e))).toArray⟩):=hid (by simp)
       generalize (⟨([] ++ Lib.decDigits gk).toArray⟩:ByteArray)= S1 at*
       generalize (⟨([] ++ Lib.decDigits gk ++ [112]).toArray⟩:ByteArray)= S2 at*
       generalize (⟨([] ++ Lib.decDigits gk ++ [112] ++ Lib.itoa e).toArray⟩:ByteArray)= S3 at*
       clear hdl hil
       have HU:=hid (z4P gk (by omega) (by omega) wr HT.out)
       have HI:=hid (fun z h=>z6M e (by omega) (by omega) z h)
       clear hrd HRD hodd hpw
       go_wp2_with (first|(go_at_call 213;refine HU.out.mono ?_;rintro e z ⟨rfl,hb⟩;have HB1:=hid hb;have HT1:=hid (HT.out.next hb);clear hb)|(go_at_call 214;refine(HI.out _ HT1.out).mono ?_;rintro e z ⟨rfl,hb⟩;have HB2:=hid hb;clear hb))
       go_ret
       have hv:=HV.out
       subst hv
       exact⟨congrArg (fun s=>Ending.returned (.string s)) cE.out,HB1.out.trans (HB2.out.mono HB1.out.size)⟩
end Go.Proofs.YtmpbepjjbaeebaaGreatDoor
end
section
namespace Go.Proofs.YtmpbepjjbaeebaaGreatDoor
open Go Go.RowKit
open Go.Lib (hid)
def DigAt (R:List UInt8) (q:Nat) (T:List UInt8):Prop:=Lib.decDigits q ++ T= R
theorem DigAt.next {R:List UInt8} {q:Nat} {T:List UInt8} (h:DigAt R q T) (hq: ¬ q < 10):DigAt R (q / 10) (UInt8.ofNat (48+q % 10)::T):=by
 unfold DigAt at*
 rw[zaS hq] at h
 rw[← h];simp
theorem DigAt.stop {R:List UInt8} {q:Nat} {T:List UInt8} (h:DigAt R q T) (hq:q < 10):UInt8.ofNat (48+q % 10)::T= R:=by
 unfold DigAt at h
 rw[Lib.decDigits_one hq] at h
 rw[← h,Nat.mod_eq_of_lt hq];rfl
theorem DigAt.len {R:List UInt8} {q:Nat} {T:List UInt8} (h:DigAt R q T):T.length≤R.length:=by
 unfold DigAt at h
 rw[← h,List.length_append];omega
theorem zcn (q:Nat):((UInt8.ofNat (48+q % 10)).toNat:Int)= 48+ ((q % 10:Nat):Int):=by
 rw[UInt8.toNat_ofNat']
 omega
theorem z2C (n:Nat) (hn:n < 18446744073709551616) (hl:(Lib.decDigits n).length≤100) (w:World):Calls Tryz.prog 169 #[.int .u64 n] w fun e w'=>e= .returned (.string ⟨(Lib.decDigits n).toArray⟩)∧Below w.heap.size w w':=by
 have H0:Hid (DigAt (Lib.decDigits n) n []):=hid (List.append_nil _)
 generalize Lib.decDigits n= R at*
 have HL:=hid hl
 have HN:=hid hn
 clear hl hn
 go_enter Tryz.func169,Tryz.ntmps169
 go_wp2
 go_loopg [0,3] n (fun q x y u=>q≤n∧x= .int .u64 (q:Nat)∧∃ T:List UInt8,y= .string ⟨T.toArray⟩∧DigAt R q T∧Below w.heap.size w u)
 case atStart=>exact⟨Nat.le_refl _,rfl,[],rfl,H0.out,Below.refl _ _⟩
 case round=>
  obtain⟨hq,rfl,T,rfl,hd,hb⟩:=hrel
  have HD:=hid hd
  have HB:=hid hb
  have HQ:=hid hq
  clear hd hb hq
  have hlen:T.length≤100:=Nat.le_trans HD.out.len HL.out
  have hcv:(convert 164 9 (.slice (some ⟨wr.heap.size,0,none⟩) 1 1)).run Tryz.prog (wr.alloc (.cells #[.int .u8 (48+ (gk:Int) % 10)] 5))= .ok (.string ⟨[UInt8.ofNat (48+gk % 10)].toArray⟩) (wr.alloc (.cells #[.int .u8 (48+ (gk:Int) % 10)] 5)):=
   run_convert_bytes_back (P:=Tryz.prog) _ 164 9 5 ⟨wr.heap.size,0,none⟩ 1 [UInt8.ofNat (48+gk % 10)] Tryz.underlying164 Tryz.underlying5 Tryz.underlying9 (fun j hj=>by
    obtain rfl:j= 0:=by simpa using hj
    have h1:=zcn gk
    have h2:(48+ (gk:Int) % 10)= 48+ ((gk % 10:Nat):Int):=by omega
    show World.cell? _ _= some (.int .u8 ((UInt8.ofNat (48+gk % 10)).toNat:Int))
    rw[h1,h2,Lib.add_plain,cell_of_row _ wr.heap.size 0 _ _ _ (heap_alloc_new wr _)]
    rfl)
  have c1:=zT [UInt8.ofNat (48+gk % 10)] T (by simp;omega)
  have HW:Hid (Below w.heap.size w (wr.alloc (.cells #[.int .u8 (48+ (gk:Int) % 10)] 5))):=hid (HB.out.alloc HB.out.size _)
  have HX:Hid (IntKind.u64.wrap ((gk:Int) / 10)=((gk / 10:Nat):Int)):=hid (by rw[IntKind.wrap_u64];have:=HQ.out;have:=HN.out;omega)
  by_cases h10:gk < 10
  ·have HE:Hid (UInt8.ofNat (48+gk % 10)::T= R):=hid (HD.out.stop h10)
   have t1:IntKind.u64.wrap ((gk:Int) / 10)= 0:=by rw[HX.out];omega
   have t2:(gk:Int) / 10= 0:=by omega
   have HS:Hid ((⟨([UInt8.ofNat (48+gk % 10)] ++ T).toArray⟩:ByteArray)=⟨R.toArray⟩):=hid (by rw[← HE.out];rfl)
   clear h10 hlen HE
   generalize (⟨([UInt8.ofNat (48+gk % 10)] ++ T).toArray⟩:ByteArray)= S at*
   generalize UInt8.ofNat (48+gk % 10)= c at*
   go_wp2
   (try simp only[Exit.inBlock,Exit.then])
   go_ret
   exact⟨by rw[← HS.out];rfl,HW.out⟩
  ·have HE:=hid (HD.out.next h10)
   have HM:Hid (gk / 10 < gk∧gk / 10≤n):=hid (by have:=HQ.out;omega)
   have t1: ¬ (IntKind.u64.wrap ((gk:Int) / 10)= 0):=by rw[HX.out];omega
   have t2: ¬ ((gk:Int) / 10= 0):=by omega
   have HS:Hid ((⟨([UInt8.ofNat (48+gk % 10)] ++ T).toArray⟩:ByteArray)=⟨(UInt8.ofNat (48+gk % 10)::T).toArray⟩):=hid rfl
   have t3:(IntKind.u64.wrap ((gk:Int) / 10) ==0)= false:=by rw[beq_eq_false_iff_ne];exact t1
   clear h10 hlen t1 t2
   generalize (⟨([UInt8.ofNat (48+gk % 10)] ++ T).toArray⟩:ByteArray)= S at*
   generalize UInt8.ofNat (48+gk % 10)= c at*
   go_wp2
   go_roundg (gk / 10)
   case measure=>exact HM.out.1
   case rel=>exact⟨HM.out.2,congrArg (Value.int .u64) HX.out,_,congrArg Value.string HS.out,HE.out,HW.out⟩
theorem z9h (f:Nat) (w:World):Calls Tryz.prog 168 #[.float .f64 f] w fun e w'=>e= .returned (.bool (decide (9223372036854775808≤f)))∧w'= w:=by
 have e1:∀ W:World,(callFunc 166 #[.float .f64 f]).run Tryz.prog W= .ok (.value (.int .u64 f)) W:=fun W=>by
  rw[run_callFunc_extern Tryz.func166 (by kernel_rfl) (by kernel_rfl) (by kernel_rfl) (e:=Extern.MathFloatBits.float64bits) (by kernel_rfl)]
  rfl
 have hw:decide ((9223372036854775808:Int)≤(f:Int))= decide (9223372036854775808≤f):=by
  by_cases h:9223372036854775808≤f
  ·rw[decide_eq_true h,decide_eq_true (by omega)]
  ·rw[decide_eq_false h,decide_eq_false (by omega)]
 rw[← hw]
 clear hw
 go_enter Tryz.func168,Tryz.ntmps168
 go_wp2
 go_ret
 exact⟨rfl,rfl⟩
theorem z5G {f:Nat} (hf:f < 2 ^ 64):nanR f= decide (9218868437227405312 < f % 9223372036854775808):=by
 unfold nanR
 rw[IntKind.wrap_u64]
 by_cases h:9218868437227405312 < f % 9223372036854775808
 ·rw[decide_eq_true h,decide_eq_true (by omega)]
 ·rw[decide_eq_false h,decide_eq_false (by omega)]
theorem zbr (f:Nat) (hf:f < 2 ^ 64) (hfin:f % 9223372036854775808 < 9218868437227405312) (w:World):Calls Tryz.prog 167 #[.float .f64 f] w fun e w'=>
  e= .returned (.tuple #[.int .u64 ((zS (f % 9223372036854775808)).1:Nat),.int .i64 (zS (f % 9223372036854775808)).2])∧w'= w:=by
 have e1:∀ W:World,(callFunc 166 #[.float .f64 f]).run Tryz.prog W= .ok (.value (.int .u64 f)) W:=fun W=>by
  rw[run_callFunc_extern Tryz.func166 (by kernel_rfl) (by kernel_rfl) (by kernel_rfl) (e:=Extern.MathFloatBits.float64bits) (by kernel_rfl)]
  rfl
 have a1:IntKind.u64.wrap ((f:Int) *4096) / 4096=((f % 4503599627370496:Nat):Int):=by rw[IntKind.wrap_u64];omega
 have a2:IntKind.u64.wrap ((f:Int) *2) / 9007199254740992=((f % 9223372036854775808 / 4503599627370496:Nat):Int):=by rw[IntKind.wrap_u64];omega
 obtain⟨r,hr⟩:∃ r,f % 9223372036854775808= r:=⟨_,rfl⟩
 have h52:f % 4503599627370496= r % 4503599627370496:=by omega
 rw[hr] at a2 hfin ⊢
 rw[h52] at a1
 have hk:r / 4503599627370496 < 2048:=by omega
 obtain⟨X1,hX1⟩:∃ X1:Int,X1= IntKind.u64.wrap ((f:Int) *4096):=⟨_,rfl⟩
 obtain⟨X2,hX2⟩:∃ X2:Int,X2= IntKind.u64.wrap ((f:Int) *2):=⟨_,rfl⟩
 rw[← hX1] at a1
 rw[← hX2] at a2
 have b1:=hX1.symm
 have b2:=hX2.symm
 clear hX1 hX2 hf h52 hr
 by_cases hl:r < 4503599627370496
 ·have k0:r / 4503599627370496= 0:=by omega
  have m0:r % 4503599627370496= r:=by omega
  rw[k0] at a2
  rw[m0] at a1
  clear hk hfin k0 m0
  have a2':X2 / 9007199254740992= 0:=a2
  by_cases h0:r= 0
  ·subst h0
   have a1':X1 / 4096= 0:=a1
   clear a1 a2
   go_enter Tryz.func167,Tryz.ntmps167
   go_wp2
   go_ret2
   exact⟨rfl,rfl⟩
  ·have HP:Hid (zS r= redF 64 r (-1074)):=hid (by unfold zS;rw[if_neg h0,(z0M hl).1,(z0M hl).2])
   have HRS:=hid (RedAt.start (m:=r) (e:= -1074) (by omega) (by omega))
   rw[← HP.out] at HRS
   clear HP
   have t0: ¬ ((r:Int)= 0):=by omega
   have t1:((r:Int) ==0)= false:=by rw[beq_eq_false_iff_ne];exact t0
   generalize zS r= t at*
   clear a2 h0 hl
   go_enter Tryz.func167,Tryz.ntmps167
   go_wp2
   go_loopg [5,6] (r) (fun q x y u=>∃ e:Int,x= .int .u64 (q:Nat)∧y= .int .i64 e∧RedAt t (-1074) q e∧u= w)
   case atStart=>exact⟨-1074,rfl,rfl,HRS.out,rfl⟩
   case round=>
    obtain⟨e,rfl,rfl,hrd,rfl⟩:=hrel
    have HRD:=hid hrd
    have hpw:=hrd.pow
    have HW3:Hid (wrap64 (e+1)= e+1):=hid (by unfold wrap64;omega)
    by_cases hodd:gk % 2= 0
    ·have t4:(gk:Int) % 2= 0:=by omega
     have HM:Hid (gk / 2 < gk):=hid (by omega)
     have HM2:Hid (IntKind.u64.wrap ((gk:Int) / 2)=((gk / 2:Nat):Int)):=hid (by rw[IntKind.wrap_u64];omega)
     have HNX:=hid (HRD.out.next hodd)
     clear hrd HRD hodd hpw
     go_wp2
     go_roundg (gk / 2)
     case measure=>exact HM.out
     case rel=>exact⟨e+1,congrArg (Value.int .u64) HM2.out,congrArg (Value.int .i64) HW3.out,HNX.out,rfl⟩
    ·have t4: ¬ (gk:Int) % 2= 0:=by omega
     have HV:Hid (t=(gk,e)):=hid (HRD.out.stop hodd)
     clear hrd HRD hodd hpw
     go_wp2
     go_ret2
     have hv:=HV.out
     subst hv
     exact⟨rfl,rfl⟩
 ·obtain⟨k,hk2⟩:∃ k:Int,k=((r / 4503599627370496:Nat):Int):=⟨_,rfl⟩
  have hp:zS r= redF 64 (4503599627370496+r % 4503599627370496) (k - 1075):=by
   unfold zS
   rw[if_neg (by omega),(z0u (by omega)).1,(z0u (by omega)).2]
   congr 1;omega
  have HRS:=hid (RedAt.start (m:=4503599627370496+r % 4503599627370496) (e:=k - 1075) (by omega) (by omega))
  rw[← hp] at HRS
  rw[← hk2] at a2
  have hk3:1≤k∧k < 2048:=by omega
  obtain⟨m,hm⟩:∃ m,m= r % 4503599627370496:=⟨_,rfl⟩
  rw[← hm] at a1 HRS
  obtain⟨E,hE⟩:∃ E:Int,E= k - 1075:=⟨_,rfl⟩
  rw[← hE] at HRS
  have HEB:Hid (-1075≤E∧E≤973):=hid (by omega)
  have c1:wrap64 k= k:=by unfold wrap64;omega
  have c2:wrap64 (k - 1075)= E:=by unfold wrap64;omega
  have c3:IntKind.u64.wrap ((m:Int)+4503599627370496)=((4503599627370496+m:Nat):Int):=by rw[IntKind.wrap_u64];omega
  have t1:(E == -1075)= false:=by rw[beq_eq_false_iff_ne];omega
  have t2:(((4503599627370496+m:Nat):Int) ==0)= false:=by rw[beq_eq_false_iff_ne];omega
  generalize 4503599627370496+m= M at*
  generalize zS r= t at*
  clear hp hk2 hm hl hk hfin hk3 hE
  go_enter Tryz.func167,Tryz.ntmps167
  go_wp2
  go_loopg [5,6] (M) (fun q x y u=>∃ e:Int,x= .int .u64 (q:Nat)∧y= .int .i64 e∧RedAt t (E) q e∧u= w)
  case atStart=>exact⟨E,rfl,congrArg (Value.int .i64) c2,HRS.out,rfl⟩
  case round=>
   clear c1 c2 c3 t1 t2 a1 a2 b1 b2
   obtain⟨e,rfl,rfl,hrd,rfl⟩:=hrel
   have HRD:=hid hrd
   have hpw:=hrd.pow
   have heb:=HEB.out
   have HW3:Hid (wrap64 (e+1)= e+1):=hid (by unfold wrap64;omega)
   by_cases hodd:gk % 2= 0
   ·have t4:(gk:Int) % 2= 0:=by omega
    have HM:Hid (gk / 2 < gk):=hid (by omega)
    have HM2:Hid (IntKind.u64.wrap ((gk:Int) / 2)=((gk / 2:Nat):Int)):=hid (by rw[IntKind.wrap_u64];omega)
    have HNX:=hid (HRD.out.next hodd)
    clear hrd HRD hodd hpw heb
    go_wp2
    go_roundg (gk / 2)
    case measure=>exact HM.out
    case rel=>exact⟨e+1,congrArg (Value.int .u64) HM2.out,congrArg (Value.int .i64) HW3.out,HNX.out,rfl⟩
   ·have t4: ¬ (gk:Int) % 2= 0:=by omega
    have HV:Hid (t=(gk,e)):=hid (HRD.out.stop hodd)
    clear hrd HRD hodd hpw heb
    go_wp2
    go_ret2
    have hv:=HV.out
    subst hv
    exact⟨rfl,rfl⟩
theorem zcg (f:Nat) (hf:f < 2 ^ 64) (w:World):Calls Tryz.prog 139 #[.float .f64 f] w fun e w'=>e= .returned (.string ⟨(textF f).toArray⟩)∧Below w.heap.size w w':=by
 have e1:∀ W:World,(callFunc 166 #[.float .f64 f]).run Tryz.prog W= .ok (.value (.int .u64 f)) W:=fun W=>by
  rw[run_callFunc_extern Tryz.func166 (by kernel_rfl) (by kernel_rfl) (by kernel_rfl) (e:=Extern.MathFloatBits.float64bits) (by kernel_rfl)]
  rfl
 have HS:=hid (fun w=>z9h f w)
 have HN:=hid (fun w=>z32 f hf w)
 rw[z5G hf] at HN
 have hsg:=fun b=>z7j f b
 unfold textF
 by_cases hn:9218868437227405312 < f % 9223372036854775808
 ·rw[if_pos hn]
  rw[decide_eq_true hn] at HN
  clear hf hsg hn
  cases hb:decide (9223372036854775808≤f)<;>rw[hb] at HS<;>clear hb<;>go_enter Tryz.func139,Tryz.ntmps139
  all_goals
   go_wp2_with (first|(go_at_call 168;refine(HS.out _).mono ?_;rintro e z ⟨rfl,rfl⟩)|(go_at_call 138;refine(HN.out _).mono ?_;rintro e z ⟨rfl,rfl⟩))
   go_ret
   exact⟨rfl,Below.refl _ _⟩
 ·rw[if_neg hn]
  rw[decide_eq_false hn] at HN
  by_cases hi:f % 9223372036854775808= 9218868437227405312
  ·rw[if_pos hi]
   have q1:IntKind.u64.wrap ((f:Int) *2)= 18437736874454810624:=by rw[IntKind.wrap_u64];omega
   cases hb:decide (9223372036854775808≤f)<;>rw[hsg _ hb]<;>rw[hb] at HS<;>clear hb hf hsg hn hi<;>go_enter Tryz.func139,Tryz.ntmps139
   all_goals
    go_wp2_with (first|(go_at_call 168;refine(HS.out _).mono ?_;rintro e z ⟨rfl,rfl⟩)|(go_at_call 138;refine(HN.out _).mono ?_;rintro e z ⟨rfl,rfl⟩))
    go_ret
    exact⟨rfl,Below.refl _ _⟩
  ·rw[if_neg hi]
   have q0: ¬ (IntKind.u64.wrap ((f:Int) *2)= 18437736874454810624):=by rw[IntKind.wrap_u64];omega
   have hfin:f % 9223372036854775808 < 9218868437227405312:=by omega
   have HP:=hid (fun w=>zbr f hf hfin w)
   have hpl:=z4j hfin
   obtain⟨m,hm⟩:∃ m,m=(zS (f % 9223372036854775808)).1:=⟨_,rfl⟩
   obtain⟨e,he⟩:∃ e,e=(zS (f % 9223372036854775808)).2:=⟨_,rfl⟩
   rw[← hm,← he] at HP hpl
   rw[← hm,← he]
   have q1:(IntKind.u64.wrap ((f:Int) *2) ==18437736874454810624)= false:=by rw[beq_eq_false_iff_ne];exact q0
   have hdm:=z1Z (n:=m) (by omega)
   have HDM:=hid (fun w=>z2C m (by omega) (by omega) w)
   clear hi hn hfin hm he q0
   rcases z4N e with ⟨h0,h1⟩|⟨h0,h1⟩
   ·have hde:=z1Z (n:=e.toNat) (by omega)
    have HDE:=hid (fun w=>z2C e.toNat (by omega) (by omega) w)
    rw[h1]
    have u1:IntKind.u64.wrap e=((e.toNat:Nat):Int):=by rw[IntKind.wrap_u64];omega
    have u2: ¬ e < 0:=by omega
    have u3:decide (e < 0)= false:=decide_eq_false u2
    cases hb:decide (9223372036854775808≤f) with
    |true=>
     rw[hsg _ hb]
     rw[hb] at HS
     have c1:=zT [45] (Lib.decDigits m) (by simp;omega)
     have c2:=zT ([45] ++ Lib.decDigits m) [112] (by simp;omega)
     have c4:=zT ([45] ++ Lib.decDigits m ++ [112]) (Lib.decDigits e.toNat) (by simp;omega)
     have cE:Hid ((⟨([45] ++ Lib.decDigits m ++ [112] ++ Lib.decDigits e.toNat).toArray⟩:ByteArray)=⟨([45] ++ (Lib.decDigits m ++ (112::Lib.decDigits e.toNat))).toArray⟩):=hid (by simp)
     generalize (⟨([45] ++ Lib.decDigits m).toArray⟩:ByteArray)= S1 at*
     generalize (⟨([45] ++ Lib.decDigits m ++ [112]).toArray⟩:ByteArray)= S2 at*
     generalize (⟨([45] ++ Lib.decDigits m ++ [112] ++ Lib.decDigits e.toNat).toArray⟩:ByteArray)= S4 at*
     clear hb hf hsg hpl hdm hde h0 h1
     generalize e.toNat= E at*
     go_enter Tryz.func139,Tryz.ntmps139
     go_wp2_with (first|(go_at_call 168;refine(HS.out _).mono ?_;rintro e z ⟨rfl,rfl⟩)|(go_at_call 138;refine(HN.out _).mono ?_;rintro e z ⟨rfl,rfl⟩)|(go_at_call 167;refine(HP.out _).mono ?_;rintro e z ⟨rfl,rfl⟩)|(go_at_call 169;with_reducible refine(HDM.out _).mono ?_;rintro e z ⟨rfl,hb⟩;have HB1:=hid hb;clear hb HDM)|(go_at_call 169;with_reducible refine(HDE.out _).mono ?_;rintro e z ⟨rfl,hb⟩;have HB2:=hid hb;clear hb))
     go_ret
     exact⟨congrArg (fun s=>Ending.returned (.string s)) cE.out,HB1.out.trans (HB2.out.mono HB1.out.size)⟩
    |false=>
     rw[hsg _ hb]
     rw[hb] at HS
     have c1:=zT [] (Lib.decDigits m) (by simp;omega)
     have c2:=zT ([] ++ Lib.decDigits m) [112] (by simp;omega)
     have c4:=zT ([] ++ Lib.decDigits m ++ [112]) (Lib.decDigits e.toNat) (by simp;omega)
     have cE:Hid ((⟨([] ++ Lib.decDigits m ++ [112] ++ Lib.decDigits e.toNat).toArray⟩:ByteArray)=⟨([] ++ (Lib.decDigits m ++ (112::Lib.decDigits e.toNat))).toArray⟩):=hid (by simp)
     generalize (⟨([] ++ Lib.decDigits m).toArray⟩:ByteArray)= S1 at*
     generalize (⟨([] ++ Lib.decDigits m ++ [112]).toArray⟩:ByteArray)= S2 at*
     generalize (⟨([] ++ Lib.decDigits m ++ [112] ++ Lib.decDigits e.toNat).toArray⟩:ByteArray)= S4 at*
     clear hb hf hsg hpl hdm hde h0 h1
     generalize e.toNat= E at*
     go_enter Tryz.func139,Tryz.ntmps139
     go_wp2_with (first|(go_at_call 168;refine(HS.out _).mono ?_;rintro e z ⟨rfl,rfl⟩)|(go_at_call 138;refine(HN.out _).mono ?_;rintro e z ⟨rfl,rfl⟩)|(go_at_call 167;refine(HP.out _).mono ?_;rintro e z ⟨rfl,rfl⟩)|(go_at_call 169;with_reducible refine(HDM.out _).mono ?_;rintro e z ⟨rfl,hb⟩;have HB1:=hid hb;clear hb HDM)|(go_at_call 169;with_reducible refine(HDE.out _).mono ?_;rintro e z ⟨rfl,hb⟩;have HB2:=hid hb;clear hb))
     go_ret
     exact⟨congrArg (fun s=>Ending.returned (.string s)) cE.out,HB1.out.trans (HB2.out.mono HB1.out.size)⟩
   ·have hde:=z1Z (n:=e.natAbs) (by omega)
    have HDE:=hid (fun w=>z2C e.natAbs (by omega) (by omega) w)
    rw[h1]
    have u1:IntKind.u64.wrap (wrap64 (-e))=((e.natAbs:Nat):Int):=by rw[IntKind.wrap_u64];unfold wrap64;omega
    have u1':IntKind.u64.wrap (-e)=((e.natAbs:Nat):Int):=by rw[IntKind.wrap_u64];omega
    have u2:e < 0:=h0
    have u3:decide (e < 0)= true:=decide_eq_true u2
    cases hb:decide (9223372036854775808≤f) with
    |true=>
     rw[hsg _ hb]
     rw[hb] at HS
     have c1:=zT [45] (Lib.decDigits m) (by simp;omega)
     have c2:=zT ([45] ++ Lib.decDigits m) [112] (by simp;omega)
     have c3:=zT ([45] ++ Lib.decDigits m ++ [112]) [45] (by simp;omega)
     have c4:=zT ([45] ++ Lib.decDigits m ++ [112] ++ [45]) (Lib.decDigits e.natAbs) (by simp;omega)
     have cE:Hid ((⟨([45] ++ Lib.decDigits m ++ [112] ++ [45] ++ Lib.decDigits e.natAbs).toArray⟩:ByteArray)=⟨([45] ++ (Lib.decDigits m ++ (112::45::Lib.decDigits e.natAbs))).toArray⟩):=hid (by simp)
     generalize (⟨([45] ++ Lib.decDigits m).toArray⟩:ByteArray)= S1 at*
     generalize (⟨([45] ++ Lib.decDigits m ++ [112]).toArray⟩:ByteArray)= S2 at*
     generalize (⟨([45] ++ Lib.decDigits m ++ [112] ++ [45]).toArray⟩:ByteArray)= S3 at*
     generalize (⟨([45] ++ Lib.decDigits m ++ [112] ++ [45] ++ Lib.decDigits e.natAbs).toArray⟩:ByteArray)= S4 at*
     clear hb hf hsg hpl hdm hde h0 h1
     generalize e.natAbs= E at*
     go_enter Tryz.func139,Tryz.ntmps139
     go_wp2_with (first|(go_at_call 168;refine(HS.out _).mono ?_;rintro e z ⟨rfl,rfl⟩)|(go_at_call 138;refine(HN.out _).mono ?_;rintro e z ⟨rfl,rfl⟩)|(go_at_call 167;refine(HP.out _).mono ?_;rintro e z ⟨rfl,rfl⟩)|(go_at_call 169;with_reducible refine(HDM.out _).mono ?_;rintro e z ⟨rfl,hb⟩;have HB1:=hid hb;clear hb HDM)|(go_at_call 169;with_reducible refine(HDE.out _).mono ?_;rintro e z ⟨rfl,hb⟩;have HB2:=hid hb;clear hb))
     go_ret
     exact⟨congrArg (fun s=>Ending.returned (.string s)) cE.out,HB1.out.trans (HB2.out.mono HB1.out.size)⟩
    |false=>
     rw[hsg _ hb]
     rw[hb] at HS
     have c1:=zT [] (Lib.decDigits m) (by simp;omega)
     have c2:=zT ([] ++ Lib.decDigits m) [112] (by simp;omega)
     have c3:=zT ([] ++ Lib.decDigits m ++ [112]) [45] (by simp;omega)
     have c4:=zT ([] ++ Lib.decDigits m ++ [112] ++ [45]) (Lib.decDigits e.natAbs) (by simp;omega)
     have cE:Hid ((⟨([] ++ Lib.decDigits m ++ [112] ++ [45] ++ Lib.decDigits e.natAbs).toArray⟩:ByteArray)=⟨([] ++ (Lib.decDigits m ++ (112::45::Lib.decDigits e.natAbs))).toArray⟩):=hid (by simp)
     generalize (⟨([] ++ Lib.decDigits m).toArray⟩:ByteArray)= S1 at*
     generalize (⟨([] ++ Lib.decDigits m ++ [112]).toArray⟩:ByteArray)= S2 at*
     generalize (⟨([] ++ Lib.decDigits m ++ [112] ++ [45]).toArray⟩:ByteArray)= S3 at*
     generalize (⟨([] ++ Lib.decDigits m ++ [112] ++ [45] ++ Lib.decDigits e.natAbs).toArray⟩:ByteArray)= S4 at*
     clear hb hf hsg hpl hdm hde h0 h1
     generalize e.natAbs= E at*
     go_enter Tryz.func139,Tryz.ntmps139
     go_wp2_with (first|(go_at_call 168;refine(HS.out _).mono ?_;rintro e z ⟨rfl,rfl⟩)|(go_at_call 138;refine(HN.out _).mono ?_;rintro e z ⟨rfl,rfl⟩)|(go_at_call 167;refine(HP.out _).mono ?_;rintro e z ⟨rfl,rfl⟩)|(go_at_call 169;with_reducible refine(HDM.out _).mono ?_;rintro e z ⟨rfl,hb⟩;have HB1:=hid hb;clear hb HDM)|(go_at_call 169;with_reducible refine(HDE.out _).mono ?_;rintro e z ⟨rfl,hb⟩;have HB2:=hid hb;clear hb))
     go_ret
     exact⟨congrArg (fun s=>Ending.returned (.string s)) cE.out,HB1.out.trans (HB2.out.mono HB1.out.size)⟩
end Go.Proofs.YtmpbepjjbaeebaaGreatDoor
end
section
namespace Go.Proofs.YtmpbepjjbaeebaaGreatDoor
open Go Go.RowKit
open Go.Lib (hid)
theorem z7z {f:Nat} (hf:f < 2 ^ 64):cmpF f 0 < 0↔¬ 9218868437227405312 < f % 9223372036854775808∧9223372036854775808≤f:=by
 have nf:=z0T hf
 have bf:=z2b (dat f)
 have n0:nanD (dat 0)= 0:=by decide +kernel
 have c0:clsD (dat 0)= 0:=by decide +kernel
 have v0:valD (dat 0)= 0:=by decide +kernel
 have r0:rankZ 0= 0:=rfl
 have rf:=z4G hf
 rw[z5B]
 unfold cmpF' cmpD
 rw[n0,c0,v0,r0]
 have e1:=zX (nanD (dat f)) 0
 have e2:=zX (clsD (dat f)) 0
 have e3:=zX (valD (dat f)) 0
 have e4:=zX (rankZ f) 0
 rcases Nat.lt_trichotomy (f % 9223372036854775808) 9218868437227405312 with h|h|h
 ·obtain⟨hv,hc⟩:=z8e hf h
  have hz:=z4J (r:=f % 9223372036854775808)
  have hn:nanD (dat f)= 0:=by
   rcases bf with h2|h2
   ·exact h2
   ·have:=nf.1 (by omega);omega
  have hrk:(f= 9223372036854775808∧rankZ f= -1)∨(f≠9223372036854775808∧rankZ f= 0):=by
   by_cases h2:f= 9223372036854775808
   ·rw[if_pos h2] at rf;exact Or.inl ⟨h2,rf⟩
   ·rw[if_neg h2] at rf;exact Or.inr ⟨h2,rf⟩
  have hvv:(9223372036854775808≤f∧valD (dat f)= -((valF (f % 9223372036854775808):Nat):Int))∨(¬ 9223372036854775808≤f∧valD (dat f)=(valF (f % 9223372036854775808):Nat)):=by
   by_cases hs:9223372036854775808≤f
   ·rw[if_pos hs] at hv;exact Or.inl ⟨hs,hv⟩
   ·rw[if_neg hs] at hv;exact Or.inr ⟨hs,hv⟩
  clear rf hv nf bf
  have hz1:=hz.1
  have hz2:=hz.2
  clear hz
  generalize valF (f % 9223372036854775808)= q at*
  generalize cmpI (nanD (dat f)) 0= a at*
  generalize cmpI (clsD (dat f)) 0= b at*
  generalize cmpI (valD (dat f)) 0= c at*
  generalize cmpI (rankZ f) 0= d at*
  (repeat' split)<;>omega
 ·have hd:f= 9218868437227405312∨f= 18442240474082181120:=by omega
  clear rf nf bf
  rcases hd with rfl|rfl
  ·have hc:clsD (dat 9218868437227405312)= 1:=by decide +kernel
   have hn:nanD (dat 9218868437227405312)= 0:=by decide +kernel
   rw[hn] at e1 ⊢
   rw[hc] at e2 ⊢
   generalize cmpI 0 0= a at*
   generalize cmpI 1 0= b at*
   generalize cmpI (valD (dat 9218868437227405312)) 0= c at*
   generalize cmpI (rankZ 9218868437227405312) 0= d at*
   (repeat' split)<;>omega
  ·have hc:clsD (dat 18442240474082181120)= -1:=by decide +kernel
   have hn:nanD (dat 18442240474082181120)= 0:=by decide +kernel
   rw[hn] at e1 ⊢
   rw[hc] at e2 ⊢
   generalize cmpI 0 0= a at*
   generalize cmpI (-1) 0= b at*
   generalize cmpI (valD (dat 18442240474082181120)) 0= c at*
   generalize cmpI (rankZ 18442240474082181120) 0= d at*
   (repeat' split)<;>omega
 ·have hn:nanD (dat f)≠0:=nf.2 h
  clear nf rf
  generalize cmpI (nanD (dat f)) 0= a at*
  generalize cmpI (clsD (dat f)) 0= b at*
  generalize cmpI (valD (dat f)) 0= c at*
  generalize cmpI (rankZ f) 0= d at*
  (repeat' split)<;>omega
theorem zdB {f:Nat} (hf:f < 2 ^ 64) (h:(fOrd f 0 ==some .lt)= true):cmpF f 0 < 0:=by
 have hn0:nanB 0= false:=by decide +kernel
 have hn:nanB f= false:=by
  rw[beq_iff_eq] at h
  cases hb:nanB f with
  |false=>rfl
  |true=>
   have hd:=z0N f
   rw[hb] at hd
   have h1:nanD (dat f)≠0:=by simpa using hd.symm
   rw[z2v,z1I _ _ (Or.inl h1)] at h
   cases h
 unfold cmpF
 rw[hn,hn0,if_neg (by simp),if_neg (by simp),if_pos (Or.inl h)]
 decide
def negB (f:Nat):Bool:=decide (cmpF f 0 < 0)
theorem z9d {f:Nat} (hf:f < 2 ^ 64):∃ c t,textF f= c::t∧(negB f= true→c= 45)∧(negB f= false→nanR f= false→c≠45):=by
 have hn:=z7z hf
 have hnan:=z5G hf
 unfold negB textF
 by_cases h1:9218868437227405312 < f % 9223372036854775808
 ·rw[if_pos h1]
  refine⟨_,_,rfl,fun h=> ?_,fun _ h=> ?_⟩
  ·have:=(hn.1 (of_decide_eq_true h)).1;omega
  ·rw[hnan,decide_eq_true h1] at h;cases h
 ·rw[if_neg h1]
  by_cases h2:f < 9223372036854775808
  ·rw[if_pos h2,List.nil_append]
   have hf0: ¬ cmpF f 0 < 0:=fun h=>by have:=(hn.1 h).2;omega
   by_cases h3:f % 9223372036854775808= 9218868437227405312
   ·rw[if_pos h3]
    exact⟨_,_,rfl,fun h=>absurd (of_decide_eq_true h) hf0,fun _ _=>by decide⟩
   ·rw[if_neg h3]
    obtain⟨c,t,he,hd⟩:=z7h (zS (f % 9223372036854775808)).1 (112::Lib.itoa (zS (f % 9223372036854775808)).2)
    exact⟨c,t,he,fun h=>absurd (of_decide_eq_true h) hf0,fun _ _ h=>by subst h;revert hd;decide⟩
  ·rw[if_neg h2]
   refine⟨45,_,rfl,fun _=>rfl,fun h=> ?_⟩
   exact absurd (hn.2 ⟨h1,by omega⟩) (of_decide_eq_false h)
def ze (t:VT):Bool:=decide (cntV t 0≤200) && zo t 1
def zK (t:VT):Bool:=match t with
 | .mk k n f s ns its=>((k ==1) ||((k ==4) ||(((k ==2) && decide (0≤n)) ||((k ==3) && !(negB f))))) && ze t
end Go.Proofs.YtmpbepjjbaeebaaGreatDoor
end
section
namespace Go.Proofs.YtmpbepjjbaeebaaGreatDoor
open Go Go.RowKit
open Go.Lib (hid)
theorem z85:∀ (t:VT) (m:Nat) (cs:List Value) (w:World),m < 500→ValAt w w.heap.size cs t→
  Calls Tryz.prog 85 #[.agg ⟨cs⟩,.int .i64 m] w fun e w'=>e= .returned (.int .i64 (cntV t m:Nat))∧Below w.heap.size w w':=by
 intro t
 induction t using VT.ind with
 |h k n f s ns its ih=>
  intro m cs w hm hv
  have IH:=hid ih
  obtain⟨vn,vi,rfl,_,_,_,_,_,_,hi⟩:=hv.inv
  obtain⟨A,c,rfl,hil,hA⟩:=z0D hi
  have HA:=hid hA
  have HS:=hid (fun k m x=>z3v (l:=its) (k:=k) (m:=m) (x:=x))
  have HE:=hid (fun m=>z4l (l:=its) (m:=m))
  have HLE:=hid (fun x m hm=>z5n x m hm)
  have HCE:Hid (∀ k m,500≤m→cntL (its.drop k) m= m):=hid (fun k m h=>by
   cases its.drop k with
   |nil=>rw[cntL]
   |cons a l=>rw[cntL,if_pos h])
  have H0:Hid (cntL (its.drop 0) (m+1)= cntV (.mk k n f s ns its) m):=hid (by rw[cntV];rfl)
  clear ih hi hA hv
  generalize cntV (.mk k n f s ns its) m= res at*
  go_enter Tryz.func85,Tryz.ntmps85
  go_upto_region 1 with (fail)
  have hb0:=zc w (.cells ⟨[.int .i64 k,.int .i64 n,.float .f64 f,.string s,vn,.slice A its.length c]⟩ 26)
  have hz0:=zw w (.cells ⟨[.int .i64 k,.int .i64 n,.float .f64 f,.string s,vn,.slice A its.length c]⟩ 26)
  have c5:=zp w ⟨[.int .i64 k,.int .i64 n,.float .f64 f,.string s,vn,.slice A its.length c]⟩ 26 5
  generalize w.alloc (.cells ⟨[.int .i64 k,.int .i64 n,.float .f64 f,.string s,vn,.slice A its.length c]⟩ 26)= W at*
  have HB:=hid hb0
  have C5:=hid c5
  have HSZ:=hid hz0
  clear hb0 c5 hz0
  have hm2:(m:Int) < 500:=by omega
  go_wp2
  go_loopg [1,5] its.length (fun g u i wr=>∃ (j m:Nat),j+g= its.length∧i= .int .i64 j∧u= .int .i64 m∧m≤500∧Below W.heap.size W wr∧cntL (its.drop j) m= res)
  case atStart=>exact⟨0,m+1,by omega,rfl,by go_num,by omega,Below.refl _ _,H0.out⟩
  case round=>
   obtain⟨j,m,hj,rfl,rfl,hm5,hb,hres⟩:=hrel
   have HB1:=hid hb
   have HR:=hid hres
   have d5:=(hb.cell (p:=⟨w.heap.size,5,none⟩) HSZ.out).trans C5.out
   clear hb hres
   simp only[List.getElem?_toArray,List.getElem?_cons_succ,List.getElem?_cons_zero] at d5
   have hm5':(m:Int)≤500:=by omega
   cases gk with
   |zero=>
    obtain rfl:j= its.length:=by omega
    have hge: ¬ ((its.length:Int) <(its.length:Int)):=by omega
    have HV:=hid (HR.out.symm.trans (HE.out m))
    go_wp2
    go_ret
    exact⟨by rw[HV.out];go_num,HB.out.trans (HB1.out.mono HB.out.size)⟩
   |succ g=>
    have hlt:(j:Int) <(its.length:Int):=by omega
    by_cases h0:m < 500
    ·have hz2:w.heap.size≤wr.heap.size:=Nat.le_trans HB.out.size HB1.out.size
     obtain⟨y,hy⟩:∃ y,its[j]?= some y:=⟨_,List.getElem?_eq_getElem (by omega)⟩
     obtain⟨b,o,rfl,hbb,hc⟩:=HA.out (by omega)
     obtain⟨cs,hr,hR⟩:=hc j y hy
     have hB2:=HB.out.trans (HB1.out.mono HB.out.size)
     have HV:=hid (HR.out.symm.trans (HS.out j m y hy))
     have HV2:=hid (HV.out.trans (if_neg (by omega)))
     have HR1:=hid (zd hr hB2 hbb)
     have HC:=hid (IH.out y (List.mem_of_getElem? hy) m cs wr h0 (hR.next hB2))
     have HCL:=hid (zi hR)
     have hle:=HLE.out y m h0
     have h0':(m:Int) < 500:=by omega
     clear hc hr hR hB2 hy HV h0
     go_wp2_with (first|((with_reducible refine z8 26 _ rfl ?hwa b (o+j*6) cs _ rfl HR1.out Tryz.underlying26 rfl ?hia ?_);(case hwa=>(exact wantA rfl));(case hia=>rw[HCL.out.1];kernel_rfl))|(go_at_call 85;refine HC.out.mono ?_;rintro e w' ⟨rfl,hb⟩;have HB2:=hid hb;clear hb))
     go_roundg g
     case measure=>omega
     case rel=>exact⟨j+1,_,by omega,by go_num,rfl,hle,HB1.out.trans (HB2.out.mono HB1.out.size),HV2.out.symm⟩
    ·have HV:=hid (HR.out.symm.trans (HCE.out j m (by omega)))
     have h0': ¬ ((m:Int) < 500):=by omega
     have hm500:m= 500:=by omega
     go_wp2
     all_goals
      go_ret
      exact⟨by rw[HV.out,hm500];rfl,HB.out.trans (HB1.out.mono HB.out.size)⟩
theorem z7F (t:VT) (cs:List Value) (w:World) (hv:ValAt w w.heap.size cs t):Calls Tryz.prog 47 #[.agg ⟨cs⟩] w fun e w'=>e= .returned (.int .i64 (cntV t 0:Nat))∧Below w.heap.size w w':=by
 have HCL:=hid (vlen hv)
 have HV:=hid hv
 clear hv
 go_enter Tryz.func47,Tryz.ntmps47
 go_upto_region 1 with (fail)
 have HB:=hid (zc w (.cells ⟨cs⟩ 26))
 have HR:=hid (zq w cs 26)
 generalize w.alloc (.cells ⟨cs⟩ 26)= W at*
 have HC:=hid (z85 t 0 cs W (by omega) (HV.out.next HB.out))
 go_wp2_with (first|((with_reducible refine z8 26 _ rfl ?hwa w.heap.size 0 cs _ rfl HR.out Tryz.underlying26 rfl ?hia ?_);(case hwa=>(exact wantA rfl));(case hia=>rw[HCL.out];kernel_rfl))|(go_at_call 85;refine HC.out.mono ?_;rintro e w' ⟨rfl,hb⟩;have HB2:=hid hb;clear hb))
 go_ret
 exact⟨rfl,HB.out.trans (HB2.out.mono HB.out.size)⟩
theorem z6T (NA A:Option Addr) (nc c:Nat) (w:World):Calls Tryz.prog 48 #[.agg ⟨[.int .i64 1,.int .i64 1,.float .f64 0,.string ⟨#[]⟩,.slice NA 0 nc,.slice A 0 c]⟩,.int .i64 12] w fun e w'=>e= .returned (.bool true)∧Below w.heap.size w w':=by
 have HW:=hid (zc w (.cells ⟨[.int .i64 1,.int .i64 1,.float .f64 0,.string ⟨#[]⟩,.slice NA 0 nc,.slice A 0 c]⟩ 26))
 have HSZ:=hid (zw w (.cells ⟨[.int .i64 1,.int .i64 1,.float .f64 0,.string ⟨#[]⟩,.slice NA 0 nc,.slice A 0 c]⟩ 26))
 have HRG:=hid (zq w [.int .i64 1,.int .i64 1,.float .f64 0,.string ⟨#[]⟩,.slice NA 0 nc,.slice A 0 c] 26)
 have HZ:=hid (fun k n s vn vi z=>z07 k n 0 s vn vi (by decide) z)
 have hc0:(cmpF 0 0 ==0)= true:=by decide +kernel
 rw[hc0] at HZ
 clear hc0
 go_enter Tryz.func48,Tryz.ntmps48
 go_upto_region 1 with (fail)
 generalize w.alloc (.cells ⟨[.int .i64 1,.int .i64 1,.float .f64 0,.string ⟨#[]⟩,.slice NA 0 nc,.slice A 0 c]⟩ 26)= W at*
 have d0:W.cell? ⟨w.heap.size,0,none⟩= some (.int .i64 1):=by have:=HRG.out 0 _ rfl;simpa using this
 have d1:W.cell? ⟨w.heap.size,1,none⟩= some (.int .i64 1):=by have:=HRG.out 1 _ rfl;simpa using this
 have d3:W.cell? ⟨w.heap.size,3,none⟩= some (.string ⟨#[]⟩):=by have:=HRG.out 3 _ rfl;simpa using this
 have d4:W.cell? ⟨w.heap.size,4,none⟩= some (.slice NA 0 nc):=by have:=HRG.out 4 _ rfl;simpa using this
 have d5:W.cell? ⟨w.heap.size,5,none⟩= some (.slice A 0 c):=by have:=HRG.out 5 _ rfl;simpa using this
 go_wp2_with (first|((with_reducible refine z8 26 _ rfl ?hwa w.heap.size 0 [.int .i64 1,.int .i64 1,.float .f64 0,.string ⟨#[]⟩,.slice NA 0 nc,.slice A 0 c] _ rfl HRG.out Tryz.underlying26 rfl ?hia ?_);(case hwa=>(exact wantA rfl));(case hia=>kernel_rfl))|(go_at_call 86;refine(HZ.out _ _ _ _ _ _).mono ?_;rintro e z ⟨rfl,hbz⟩;have HB2:=hid hbz;have d0':=(hbz.cell (p:=⟨w.heap.size,0,none⟩) HSZ.out).trans d0;have d1':=(hbz.cell (p:=⟨w.heap.size,1,none⟩) HSZ.out).trans d1;have d3':=(hbz.cell (p:=⟨w.heap.size,3,none⟩) HSZ.out).trans d3;have d4':=(hbz.cell (p:=⟨w.heap.size,4,none⟩) HSZ.out).trans d4;have d5':=(hbz.cell (p:=⟨w.heap.size,5,none⟩) HSZ.out).trans d5;clear hbz))
 go_ret
 first|exact⟨rfl,HW.out.trans (HB2.out.mono HW.out.size)⟩|exact⟨rfl,HW.out⟩
theorem z6y (n:Int) (NA A:Option Addr) (nc c:Nat) (w:World):Calls Tryz.prog 48 #[.agg ⟨[.int .i64 2,.int .i64 n,.float .f64 0,.string ⟨#[]⟩,.slice NA 0 nc,.slice A 0 c]⟩,.int .i64 12] w fun e w'=>e= .returned (.bool true)∧Below w.heap.size w w':=by
 have HW:=hid (zc w (.cells ⟨[.int .i64 2,.int .i64 n,.float .f64 0,.string ⟨#[]⟩,.slice NA 0 nc,.slice A 0 c]⟩ 26))
 have HSZ:=hid (zw w (.cells ⟨[.int .i64 2,.int .i64 n,.float .f64 0,.string ⟨#[]⟩,.slice NA 0 nc,.slice A 0 c]⟩ 26))
 have HRG:=hid (zq w [.int .i64 2,.int .i64 n,.float .f64 0,.string ⟨#[]⟩,.slice NA 0 nc,.slice A 0 c] 26)
 have HZ:=hid (fun k n s vn vi z=>z07 k n 0 s vn vi (by decide) z)
 have hc0:(cmpF 0 0 ==0)= true:=by decide +kernel
 rw[hc0] at HZ
 clear hc0
 go_enter Tryz.func48,Tryz.ntmps48
 go_upto_region 1 with (fail)
 generalize w.alloc (.cells ⟨[.int .i64 2,.int .i64 n,.float .f64 0,.string ⟨#[]⟩,.slice NA 0 nc,.slice A 0 c]⟩ 26)= W at*
 have d0:W.cell? ⟨w.heap.size,0,none⟩= some (.int .i64 2):=by have:=HRG.out 0 _ rfl;simpa using this
 have d1:W.cell? ⟨w.heap.size,1,none⟩= some (.int .i64 n):=by have:=HRG.out 1 _ rfl;simpa using this
 have d3:W.cell? ⟨w.heap.size,3,none⟩= some (.string ⟨#[]⟩):=by have:=HRG.out 3 _ rfl;simpa using this
 have d4:W.cell? ⟨w.heap.size,4,none⟩= some (.slice NA 0 nc):=by have:=HRG.out 4 _ rfl;simpa using this
 have d5:W.cell? ⟨w.heap.size,5,none⟩= some (.slice A 0 c):=by have:=HRG.out 5 _ rfl;simpa using this
 go_wp2_with (first|((with_reducible refine z8 26 _ rfl ?hwa w.heap.size 0 [.int .i64 2,.int .i64 n,.float .f64 0,.string ⟨#[]⟩,.slice NA 0 nc,.slice A 0 c] _ rfl HRG.out Tryz.underlying26 rfl ?hia ?_);(case hwa=>(exact wantA rfl));(case hia=>kernel_rfl))|(go_at_call 86;refine(HZ.out _ _ _ _ _ _).mono ?_;rintro e z ⟨rfl,hbz⟩;have HB2:=hid hbz;have d0':=(hbz.cell (p:=⟨w.heap.size,0,none⟩) HSZ.out).trans d0;have d1':=(hbz.cell (p:=⟨w.heap.size,1,none⟩) HSZ.out).trans d1;have d3':=(hbz.cell (p:=⟨w.heap.size,3,none⟩) HSZ.out).trans d3;have d4':=(hbz.cell (p:=⟨w.heap.size,4,none⟩) HSZ.out).trans d4;have d5':=(hbz.cell (p:=⟨w.heap.size,5,none⟩) HSZ.out).trans d5;clear hbz))
 go_ret
 first|exact⟨rfl,HW.out.trans (HB2.out.mono HW.out.size)⟩|exact⟨rfl,HW.out⟩
theorem z7y (NA A:Option Addr) (nc c:Nat) (w:World):Calls Tryz.prog 48 #[.agg ⟨[.int .i64 3,.int .i64 0,.float .f64 0,.string ⟨#[]⟩,.slice NA 0 nc,.slice A 0 c]⟩,.int .i64 12] w fun e w'=>e= .returned (.bool true)∧Below w.heap.size w w':=by
 have HW:=hid (zc w (.cells ⟨[.int .i64 3,.int .i64 0,.float .f64 0,.string ⟨#[]⟩,.slice NA 0 nc,.slice A 0 c]⟩ 26))
 have HSZ:=hid (zw w (.cells ⟨[.int .i64 3,.int .i64 0,.float .f64 0,.string ⟨#[]⟩,.slice NA 0 nc,.slice A 0 c]⟩ 26))
 have HRG:=hid (zq w [.int .i64 3,.int .i64 0,.float .f64 0,.string ⟨#[]⟩,.slice NA 0 nc,.slice A 0 c] 26)
 have HZ:=hid (fun k n s vn vi z=>z07 k n 0 s vn vi (by decide) z)
 have hc0:(cmpF 0 0 ==0)= true:=by decide +kernel
 rw[hc0] at HZ
 clear hc0
 go_enter Tryz.func48,Tryz.ntmps48
 go_upto_region 1 with (fail)
 generalize w.alloc (.cells ⟨[.int .i64 3,.int .i64 0,.float .f64 0,.string ⟨#[]⟩,.slice NA 0 nc,.slice A 0 c]⟩ 26)= W at*
 have d0:W.cell? ⟨w.heap.size,0,none⟩= some (.int .i64 3):=by have:=HRG.out 0 _ rfl;simpa using this
 have d1:W.cell? ⟨w.heap.size,1,none⟩= some (.int .i64 0):=by have:=HRG.out 1 _ rfl;simpa using this
 have d3:W.cell? ⟨w.heap.size,3,none⟩= some (.string ⟨#[]⟩):=by have:=HRG.out 3 _ rfl;simpa using this
 have d4:W.cell? ⟨w.heap.size,4,none⟩= some (.slice NA 0 nc):=by have:=HRG.out 4 _ rfl;simpa using this
 have d5:W.cell? ⟨w.heap.size,5,none⟩= some (.slice A 0 c):=by have:=HRG.out 5 _ rfl;simpa using this
 go_wp2_with (first|((with_reducible refine z8 26 _ rfl ?hwa w.heap.size 0 [.int .i64 3,.int .i64 0,.float .f64 0,.string ⟨#[]⟩,.slice NA 0 nc,.slice A 0 c] _ rfl HRG.out Tryz.underlying26 rfl ?hia ?_);(case hwa=>(exact wantA rfl));(case hia=>kernel_rfl))|(go_at_call 86;refine(HZ.out _ _ _ _ _ _).mono ?_;rintro e z ⟨rfl,hbz⟩;have HB2:=hid hbz;have d0':=(hbz.cell (p:=⟨w.heap.size,0,none⟩) HSZ.out).trans d0;have d1':=(hbz.cell (p:=⟨w.heap.size,1,none⟩) HSZ.out).trans d1;have d3':=(hbz.cell (p:=⟨w.heap.size,3,none⟩) HSZ.out).trans d3;have d4':=(hbz.cell (p:=⟨w.heap.size,4,none⟩) HSZ.out).trans d4;have d5':=(hbz.cell (p:=⟨w.heap.size,5,none⟩) HSZ.out).trans d5;clear hbz))
 go_ret
 first|exact⟨rfl,HW.out.trans (HB2.out.mono HW.out.size)⟩|exact⟨rfl,HW.out⟩
def leafV:VT→Bool
 | .mk k n f s ns its=>((k ==1 && n ==1) ||(k ==2 ||(k ==3 && n ==0))) && (f ==0 && (s.toList.isEmpty && (ns.isEmpty && its.isEmpty)))
theorem z40 (t:VT) (hl:leafV t= true) (cs:List Value) (w:World) (hv:ValAt w w.heap.size cs t):Calls Tryz.prog 48 #[.agg ⟨cs⟩,.int .i64 12] w fun e w'=>e= .returned (.bool true)∧Below w.heap.size w w':=by
 cases t with
 |mk k n f s ns its=>
  unfold leafV at hl
  simp only[Bool.and_eq_true,Bool.or_eq_true,beq_iff_eq,List.isEmpty_iff] at hl
  obtain⟨hk,hf,hs,hn,hi⟩:=hl
  subst hf hn hi
  obtain⟨vn,vi,rfl,_,_,_,_,h1,_,h2⟩:=hv.inv
  obtain⟨_,NA,nc,rfl,_⟩:=h1
  obtain⟨_,A,c,rfl,_⟩:=h2
  have hs2:s=⟨#[]⟩:=by
   obtain⟨⟨l⟩⟩:=s
   have h3:l=[]:=by rw[toList_eq] at hs;exact hs
   rw[h3]
  subst hs2
  rcases hk with ⟨rfl,rfl⟩|rfl|⟨rfl,rfl⟩
  ·exact z6T NA A nc c w
  ·exact z6y n NA A nc c w
  ·exact z7y NA A nc c w
theorem z7k (t:VT) (hl:leafV t= true):cntV t 0= 1:=by
 cases t with
 |mk k n f s ns its=>
  unfold leafV at hl
  simp only[Bool.and_eq_true,Bool.or_eq_true,beq_iff_eq,List.isEmpty_iff] at hl
  obtain⟨_,_,_,_,hi⟩:=hl
  subst hi
  rw[cntV,cntL]
theorem z5q (t:VT) (hl:leafV t= true) (cs:List Value) (w:World) (hv:ValAt w w.heap.size cs t):Calls Tryz.prog 21 #[.agg ⟨cs⟩] w fun e w'=>e= .returned (.bool true)∧Below w.heap.size w w':=by
 have HB1:=hid (zc w (.cells ⟨cs⟩ 26))
 have HS1:=hid (zw w (.cells ⟨cs⟩ 26))
 have HR1:=hid (zq w cs 26)
 have HL:=hid (zi hv)
 have HV:=hid (hv.next HB1.out)
 clear hv
 go_enter Tryz.func21,Tryz.ntmps21
 go_upto_region 1 with (fail)
 generalize w.alloc (.cells ⟨cs⟩ 26)= W at*
 have HP:=hid (z7F t cs W HV.out)
 have hct:cntV t 0≤200:=by rw[z7k t hl];omega
 have t1:((cntV t 0:Nat):Int)≤200:=by omega
 have HI:=hid (fun z (hz:ValAt z z.heap.size cs t)=>z40 t hl cs z hz)
 go_wp2_with (first|((with_reducible refine z8 26 _ rfl ?hwa w.heap.size 0 cs _ rfl HR1.out Tryz.underlying26 rfl ?hia ?_);(case hwa=>(exact wantA rfl));(case hia=>rw[HL.out.1];kernel_rfl))|(go_at_call 47;refine HP.out.mono ?_;rintro e z ⟨rfl,hbz⟩;have HB2:=hid hbz;have HR2:=hid (zd HR1.out hbz HS1.out);clear hbz)|((with_reducible refine z8 26 _ rfl ?hwc w.heap.size 0 cs _ rfl HR2.out Tryz.underlying26 rfl ?hic ?_);(case hwc=>(exact wantA rfl));(case hic=>rw[HL.out.1];kernel_rfl))|(go_at_call 48;refine(z40 t hl cs _ (HV.out.next HB2.out)).mono ?_;rintro e z2 ⟨rfl,hbz⟩;have HB3:=hid hbz;clear hbz))
 go_ret
 exact⟨rfl,HB1.out.trans ((HB2.out.trans (HB3.out.mono HB2.out.size)).mono HB1.out.size)⟩
theorem z94 (t:VT) (hl:leafV t= true):ze t= true:=by
 have hc:=z7k t hl
 cases t with
 |mk k n f s ns its=>
  unfold leafV at hl
  simp only[Bool.and_eq_true,Bool.or_eq_true,beq_iff_eq,List.isEmpty_iff] at hl
  obtain⟨hk,hf,hs,hn,hi⟩:=hl
  subst hf hn hi
  unfold ze
  rw[hc,zo]
  have h0:(cmpF 0 0 ==0)= true:=by decide +kernel
  rcases hk with ⟨rfl,rfl⟩|rfl|⟨rfl,rfl⟩<;>simp[bareB,hs,h0]
theorem z6H (t:VT) (cs:List Value) (w:World) (hl:leafV t= true) (hv:ValAt w w.heap.size cs t):Calls Tryz.prog 21 #[.agg ⟨cs⟩] w fun e w'=>e= .returned (.bool (ze t))∧Below w.heap.size w w':=by
 rw[z94 t hl]
 exact z5q t hl cs w hv
end Go.Proofs.YtmpbepjjbaeebaaGreatDoor
end
