/- Parts of a proof: FText, RDig, EConst, RRLeaf. -/
import Derived.Lib.ItoaMem
import Derived.Laws.BytesString
import Derived.Test.YtmpbepjjbaeebaaGreatDoorPackC14
import Derived.Test.YtmpbepjjbaeebaaGreatDoorPackC15
import Derived.Test.YtmpbepjjbaeebaaGreatDoorPackC20
import Derived.Test.YtmpbepjjbaeebaaGreatDoorPackC21
import Derived.Test.YtmpbepjjbaeebaaGreatDoorPackC22
import Derived.Test.YtmpbepjjbaeebaaGreatDoorPackC23
import Derived.Test.YtmpbepjjbaeebaaGreatDoorPackC24
set_option maxHeartbeats 8000000
set_option maxRecDepth 100000
set_option linter.unusedVariables false
set_option linter.unusedSimpArgs false
namespace Go.Proofs.YtmpbepjjbaeebaaGreatDoor
section
open Go Go.RowKit Go.Sort Go.Lib
def TabP (w:World):Prop:=Lib.TabIs Tryz.prog w "internal/strconv.uint64pow10" .u64 Lib.pow10Tab
theorem z30 (w:World) (k:Nat) (os:Array Obj):Below w.heap.size w (Sort.grow (w.drewN k) os):=by
 have h1:Below w.heap.size w (w.drewN k):=⟨rfl,rfl,rfl,Nat.le_refl _,fun _ _=>rfl⟩
 refine h1.trans ?_
 refine⟨rfl,rfl,rfl,?_,fun i hi=> ?_⟩
 ·show(w.drewN k).heap.size<=((w.drewN k).heap ++ os).size
  rw[Array.size_append];exact Nat.le_add_right _ _
 ·show((w.drewN k).heap ++ os)[i]?=(w.drewN k).heap[i]?
  exact Array.getElem?_append_left hi
theorem zbg (w:World) (T:TypeId) (nd:Nat) (hs:nd<=24):Holds (fun(b:UInt8)=>Value.int .u8 (b.toNat:Int)) (w.alloc (.cells Lib.zeros24 T)) w.heap.size 0 (Array.replicate nd (0:UInt8)):=fun j hj=>by
 have hj':j < nd:=by simpa using hj
 refine⟨?_,World.frozen?_alloc_new _ _ _ _⟩
 rw[World.cell?_alloc_new,Lib.zeros24_at _ (by omega),getElem!_pos _ j hj]
 simp
theorem zch (w:World) (o:Obj) (dk:Array UInt8) (k:Nat):∃ os,(Sort.putRow (fun(b:UInt8)=>Value.int .u8 (b.toNat:Int)) (w.alloc o) w.heap.size 0 dk).drewN k= Sort.grow (w.drewN k) os:=by
 rw[alloc_eq_grow]
 obtain⟨os',_,e⟩:=Sort.putRow_grow_new (fun(b:UInt8)=>Value.int .u8 (b.toNat:Int)) w #[o] w.heap.size 0 dk (Nat.le_refl _)
 exact⟨os',by rw[e];rfl⟩
theorem z6O (u:Nat) (hu1:1<=u) (hu64:u < 18446744073709551616) (w:World) (ht:TabP w):Calls Tryz.prog 232 #[.int .u64 u,.int .i64 10] w fun e w'=>e= .returned (.string ⟨(Lib.decDigits u).toArray⟩)/\Below w.heap.size w w':=by
 by_cases hs:u < 100
 ·have HS:=I (fun w=>Tryz.internal_strconv_small u hs w)
  have t1:(u:Int) < 100:=by omega
  have t2:IntKind.i64.wrap (u:Int)= u:=by rw[IntKind.wrap_i64];omega
  clear hs hu64 hu1 ht
  go_enter Tryz.func232,Tryz.ntmps232
  go_wp2_with (go_at_call 224;refine(HS.out _).mono ?_;rintro e z ⟨rfl,rfl⟩)
  go_ret
  exact⟨rfl,Below.refl _ _⟩
 ·have hnd20:Lib.nDigits u<=20:=by have:=Lib.numDigits_eq u hu1 hu64;split at this<;>omega
  have hal:Tryz.prog.arrayLen 220= 24:=by simp[Program.arrayLen,Tryz.underlying220]
  have hsl1:∀ W,(Instr.sliceAt 220 (.pointer (some ⟨w.heap.size,0,none⟩)) none (some (.int .i64 (Lib.nDigits u:Int))) none).run Tryz.prog W= .ok (.slice (some ⟨w.heap.size,0,none⟩) (Lib.nDigits u) 24) W:=fun W=>by
   rw[run_sliceAt_array_h W 220 ⟨w.heap.size,0,none⟩ (by simp[Program.arrayLen,Program.elem,Tryz.underlying220]) .i64 (Lib.nDigits u:Int) (by omega) (by rw[hal];omega)]
   go_simp
  have hH0:=zbg w 220 (Lib.nDigits u) (by omega)
  have hfmt:=Tryz.internal_strconv_formatBase10 w.heap.size 0 24 u (Array.replicate (Lib.nDigits u) 0) (w.alloc (.cells Lib.zeros24 220)) hH0 (by rw[Array.size_replicate];exact Lib.lt_pow_nDigits u) hu64 (by rw[Array.size_replicate];omega)
  rw[Array.size_replicate] at hfmt
  have HH0:=I hH0
  have HF:=I hfmt
  have HD:=I (Tryz.internal_strconv_numDigits u hu1 hu64 (w.alloc (.cells Lib.zeros24 220)) (Lib.tabIs_alloc ht _))
  have t1: ¬ (u:Int) < 100:=by omega
  clear hH0 hal hfmt hs
  go_enter Tryz.func232,Tryz.ntmps232
  go_wp2_with (go_at_call 225;refine HD.out.mono ?_;rintro e w' ⟨rfl,rfl⟩)
  go_at_call 226
  refine HF.out.mono ?_
  rintro e w' ⟨rfl,k,v',dk,rfl,hF⟩
  have hcv:(convert 164 9 (.slice (some ⟨w.heap.size,0,none⟩) (Lib.nDigits u) 24)).run Tryz.prog ((putRow (fun(b:UInt8)=>Value.int .u8 (b.toNat:Int)) (w.alloc (.cells Lib.zeros24 220)) w.heap.size 0 dk).drewN k)= .ok (.string ⟨(Lib.decDigits u).toArray⟩) ((putRow (fun(b:UInt8)=>Value.int .u8 (b.toNat:Int)) (w.alloc (.cells Lib.zeros24 220)) w.heap.size 0 dk).drewN k):=by
   have h:=run_convert_bytes_back (P:=Tryz.prog) ((putRow (fun(b:UInt8)=>Value.int .u8 (b.toNat:Int)) (w.alloc (.cells Lib.zeros24 220)) w.heap.size 0 dk).drewN k) 164 9 5 ⟨w.heap.size,0,none⟩ 24 (Lib.decDigits u) Tryz.underlying164 Tryz.underlying5 Tryz.underlying9 (fun j hj=>by
    rw[Lib.row_is_numeral hF j hj,Lib.add_plain,World.cell?_drewN]
    exact cell?_putRow (fun(b:UInt8)=>Value.int .u8 (b.toNat:Int)) _ w.heap.size 0 _ dk HH0.out (by rw[hF.size,Array.size_replicate]) j (by rw[hF.size];rw[Lib.decDigits_length] at hj;exact hj))
   rw[Lib.decDigits_length] at h
   exact h
  go_wp2
  go_ret
  obtain⟨os,eo⟩:=zch w (.cells Lib.zeros24 220) dk k
  rw[eo]
  exact⟨rfl,z30 w k os⟩
theorem z5p (u:Nat) (hu1:1<=u) (hu64:u < 18446744073709551616) (w:World) (ht:TabP w):Calls Tryz.prog 213 #[.int .u64 u,.int .i64 10] w fun e w'=>e= .returned (.string ⟨(Lib.decDigits u).toArray⟩)/\Below w.heap.size w w':=by
 have H:=I (z6O u hu1 hu64 w ht)
 clear hu1 hu64 ht
 go_enter Tryz.func213,Tryz.ntmps213
 go_wp2_with (go_at_call 232;refine H.out.mono ?_;rintro e z ⟨rfl,hb⟩;have HB:=I hb;clear hb)
 go_ret
 exact⟨rfl,HB.out⟩
theorem z7t (n:Int) (h0: -9223372036854775808<=n) (h1:n<=9223372036854775807) (w:World) (ht:TabP w):Calls Tryz.prog 214 #[.int .i64 n] w fun e w'=>e= .returned (.string ⟨(Lib.itoa n).toArray⟩)/\Below w.heap.size w w':=by
 have H:=I (Tryz.internal_strconv_Itoa n h0 h1 w ht)
 clear h0 h1 ht
 go_enter Tryz.func214,Tryz.ntmps214
 go_wp2_with (go_at_call 233;refine H.out.mono ?_;rintro e z ⟨rfl,k,os,hz⟩;have HZ:=I hz;clear hz)
 go_ret
 rw[HZ.out]
 exact⟨rfl,z30 w k os⟩
theorem z6T (n:Int) (h0: -9223372036854775808<=n) (h1:n<=9223372036854775807) (w:World) (ht:TabP w):Calls Tryz.prog 189 #[.int .i64 n,.int .i64 10] w fun e w'=>e= .returned (.string ⟨(Lib.itoa n).toArray⟩)/\Below w.heap.size w w':=by
 have H:=I (Tryz.internal_strconv_FormatInt_10 n h0 h1 w ht)
 clear h0 h1 ht
 go_enter Tryz.func189,Tryz.ntmps189
 go_wp2_with (go_at_call 209;refine H.out.mono ?_;rintro e z ⟨rfl,k,os,hz⟩;have HZ:=I hz;clear hz)
 go_ret
 rw[HZ.out]
 exact⟨rfl,z30 w k os⟩
theorem TabP.next {w w':World} (h:TabP w) (hb:Below w.heap.size w w'):TabP w':=by
 unfold TabP Lib.TabIs World.var? at*
 cases hg:Tryz.prog.globalNamed "internal/strconv.uint64pow10" with
 |none=>simp[hg] at h
 |some g=>
  simp only[hg,Option.bind_some] at h ⊢
  have hlt:g < w.heap.size:=by
   rcases Nat.lt_or_ge g w.heap.size with h'|h'
   ·exact h'
   ·rw[Array.getElem?_eq_none h'] at h;simp at h
  rw[hb.block g hlt]
  exact h
theorem zby {m:Nat} (h0:4503599627370496<=m) (h:m < 9007199254740992):floatToIntVal .f64 (4836865999795912704+m) .u64= some ((m:Nat):Int):=by
 obtain⟨l,rfl⟩:∃ l,m= 4503599627370496+l:=⟨m - 4503599627370496,by omega⟩
 rw[show 4836865999795912704+ (4503599627370496+l)= 4841369599423283200+l by omega]
 exact zeu (by omega)
theorem z7A (f:Nat) (b:Bool) (h:decide (9223372036854775808<=f)= b):(if f < 9223372036854775808 then([]:List UInt8) else[45])= if b= true then[45] else[]:=by
 subst h
 by_cases h:9223372036854775808<=f
 ·rw[if_neg (by omega),if_pos (by simpa using h)]
 ·rw[if_pos (by omega),if_neg (by simpa using h)]
theorem z0G (op:BinOp) (ho:op= .add\/op= .sub\/op= .mul\/op= .quo) (t:TypeId) (x y:Nat) (h:floatBits op .f64 x y= none) (w:World):
  ∃ n,n < 2 ^ 64/\9218868437227405312 < n % 9223372036854775808/\(binOp op t (.float .f64 x) (.float .f64 y)).run Tryz.prog w= .ok (.float .f64 n) w.drew:=by
 refine⟨Question.cut (.nanBits .f64 x y) (w.tape w.drawn (.nanBits .f64 x y)),?_,?_,?_⟩
 ·show(w.tape w.drawn (.nanBits .f64 x y)) % 2*2 ^ 63+0x7ff0000000000000+1+ ((w.tape w.drawn (.nanBits .f64 x y)) / 2) % (2 ^ 52 - 1) < 2 ^ 64
  omega
 ·have h3:(w.tape w.drawn (.nanBits .f64 x y)) / 2 % (2 ^ 52 - 1) < 2 ^ 52 - 1:=Nat.mod_lt _ (by decide)
  have h4:(w.tape w.drawn (.nanBits .f64 x y)) % 2 < 2:=Nat.mod_lt _ (by decide)
  show 9218868437227405312 <((w.tape w.drawn (.nanBits .f64 x y)) % 2*2 ^ 63+0x7ff0000000000000+1+ ((w.tape w.drawn (.nanBits .f64 x y)) / 2) % (2 ^ 52 - 1)) % 9223372036854775808
  generalize (w.tape w.drawn (.nanBits .f64 x y)) / 2 % (2 ^ 52 - 1)= c at*
  generalize (w.tape w.drawn (.nanBits .f64 x y)) % 2= b at*
  have h5:b= 0\/b= 1:=by omega
  rcases h5 with rfl|rfl<;>omega
 ·rcases ho with rfl|rfl|rfl|rfl<;>(unfold floatBits at h;simp only at h;simp[binOp,Op.floatArith,h,choose];rfl)
theorem z66 {n m:Nat} (hn:n < 2 ^ 64) (h:9218868437227405312 < n % 9223372036854775808):FloatKind.f64.format.order n m= none:=
 z1M _ _ (.inl ((z10 hn).2 h))
theorem zbO {f:Nat} (hf:f < 2 ^ 64) (h: ¬ 9218868437227405312 < f % 9223372036854775808):(FloatKind.f64.format.order f f !=some .eq)= false:=by
 have h1:nanB f= false:=by
  rw[z0P,decide_eq_false]
  exact fun e=>h ((z10 hf).1 e)
 exact h1
theorem zcI {f:Nat} (hf:f < 2 ^ 64) (h:f % 9223372036854775808≠0):(FloatKind.f64.format.order f 0 ==some .eq)= false:=by
 rw[Bool.eq_false_iff]
 intro e
 rcases z4F hf e with h1|h1<;>omega
theorem zZ (a b:List UInt8) (h:a.length+b.length<=1000000) (W:World):(Op.stringOp .add ⟨a.toArray⟩ ⟨b.toArray⟩).run Tryz.prog W= .ok (.string ⟨(a ++ b).toArray⟩) W:=by
 have h1:(Op.stringOp .add ⟨a.toArray⟩ ⟨b.toArray⟩).run Tryz.prog W= .ok (.string (⟨a.toArray⟩ ++ ⟨b.toArray⟩)) W:=run_string_add_sum W _ _ (by simp[ByteArray.size];omega)
 have h2:(⟨a.toArray⟩:ByteArray) ++ ⟨b.toArray⟩=⟨(a ++ b).toArray⟩:=by apply ByteArray.ext;simp[ByteArray.data_append]
 rw[h2] at h1
 exact h1
theorem zbD (f:Nat) (hf:f < 2 ^ 64) (w:World) (ht:TabP w):Calls Tryz.prog 190 #[.float .f64 f] w fun e w'=>e= .returned (.string ⟨(textF f).toArray⟩)/\Below w.heap.size w w':=by
 have HS:=I (fun w=>zcq f hf w)
 have hsg:=fun b=>z7A f b
 unfold textF
 by_cases hn:9218868437227405312 < f % 9223372036854775808
 ·rw[if_pos hn]
  have t1:(FloatKind.f64.format.order f f !=some .eq)= true:=by rw[z66 hf hn];rfl
  clear ht hf hsg hn
  cases hb:decide (9223372036854775808<=f)<;>rw[hb] at HS<;>clear hb<;>go_enter Tryz.func190,Tryz.ntmps190
  all_goals
   go_wp2_with (go_at_call 210;refine(HS.out _).mono ?_;rintro e z ⟨rfl,rfl⟩)
   go_ret
   exact⟨rfl,Below.refl _ _⟩
 ·rw[if_neg hn]
  have t1:=zbO hf hn
  by_cases hi:f % 9223372036854775808= 9218868437227405312
  ·rw[if_pos hi]
   have hsub:floatBits .sub .f64 f f= none:=by
    have hd:f= 9218868437227405312\/f= 18442240474082181120:=by omega
    rcases hd with rfl|rfl<;>decide +kernel
   obtain⟨n,n1,n2,n3⟩:=z0G .sub (.inr (.inl rfl)) 22 f f hsub w
   have t2:(FloatKind.f64.format.order n 0 !=some .eq)= true:=by rw[z66 n1 n2];rfl
   have HW:Hid (Below w.heap.size w w.drew):=I (Below.refl _ w).drew
   cases hb:decide (9223372036854775808<=f) with
   |true=>
    rw[hsg _ hb]
    rw[hb] at HS
    clear ht hf hsg hn hb hi n1 n2 hsub
    go_enter Tryz.func190,Tryz.ntmps190
    go_wp2_with (go_at_call 210;refine(HS.out _).mono ?_;rintro e z ⟨rfl,rfl⟩)
    go_ret
    exact⟨rfl,HW.out⟩
   |false=>
    rw[hsg _ hb]
    rw[hb] at HS
    clear ht hf hsg hn hb hi n1 n2 hsub
    go_enter Tryz.func190,Tryz.ntmps190
    go_wp2_with (go_at_call 210;refine(HS.out _).mono ?_;rintro e z ⟨rfl,rfl⟩)
    go_ret
    exact⟨rfl,HW.out⟩
  ·rw[if_neg hi]
   have hfin:f % 9223372036854775808 < 9218868437227405312:=by omega
   have hq:∀ (t:TypeId) (w:World),(binOp .sub t (.float .f64 f) (.float .f64 f)).run Tryz.prog w= .ok (.float .f64 0) w:=fun t w=>run_float_arith w .sub t .f64 _ _ _ (z9w hf hfin)
   have t2:(FloatKind.f64.format.order 0 0 !=some .eq)= false:=by decide +kernel
   by_cases h0:f % 9223372036854775808= 0
   ·have t3:(FloatKind.f64.format.order f 0 ==some .eq)= true:=by
     have:f= 0\/f= 9223372036854775808:=by omega
     rcases this with rfl|rfl<;>decide +kernel
    have hp:Lib.decDigits (zX (f % 9223372036854775808)).1 ++ (112::Lib.itoa (zX (f % 9223372036854775808)).2)=[48,112,48]:=by
     rw[h0]
     show Lib.decDigits 0 ++ (112::Lib.itoa 0)= _
     rw[show Lib.itoa 0= Lib.decDigits 0 from Lib.itoa_nonneg 0,Lib.decDigits_one (by decide)]
     decide
    rw[hp]
    cases hb:decide (9223372036854775808<=f)<;>rw[hsg _ hb]<;>rw[hb] at HS<;>clear ht hf hsg hn hb hi hfin h0 hp<;>go_enter Tryz.func190,Tryz.ntmps190
    all_goals
     go_wp2_with (go_at_call 210;refine(HS.out _).mono ?_;rintro e z ⟨rfl,rfl⟩)
     go_ret
     exact⟨rfl,Below.refl _ _⟩
   ·have t3:=zcI hf h0
    have HA:=I (fun w=>z5Y f hf w)
    generalize hr:f % 9223372036854775808= r at*
    have HX:=I (fun w=>zb8 r (by omega) hfin w)
    have hm:=z4b (r:=r) (by omega)
    have hp:=z72 (r:=r) (by omega) hfin
    have HY:=I (fun w=>za4 (mantF r) hm.1 hm.2 w)
    have hcv:∀ W:World,(convert 22 161 (.float .f64 (4836865999795912704+mantF r))).run Tryz.prog W= .ok (.int .u64 ((mantF r:Nat):Int)) W:=fun W=>run_convert_float_int W 22 161 .f64 .u64 _ _ (by kernel_rfl) Tryz.underlying161 (zby hm.1 hm.2)
    have HRS:=I (RedAt.start (m:=mantF r) (e:=powF r) (by omega) (by omega))
    rw[← z7v (r:=r) (by omega)] at HRS
    have hw1:wrap64 (powF r+53)= powF r+53:=by unfold wrap64;omega
    have hw2:wrap64 (powF r+53 - 53)= powF r:=by unfold wrap64;omega
    have hpl:=z4Q (r:=r) hfin
    have HPL:=I hpl
    generalize zX r= t at*
    generalize powF r= p at*
    generalize mantF r= m at*
    cases hb:decide (9223372036854775808<=f) with
    |true=>
     rw[hsg _ hb]
     rw[hb] at HS
     have HT:=I ht
     clear ht hsg hn hb hi h0 hr hm hpl hf
     go_enter Tryz.func190,Tryz.ntmps190
     go_wp2_with (first|(go_at_call 210;refine(HS.out _).mono ?_;rintro e z ⟨rfl,rfl⟩)|(go_at_call 205;refine(HA.out _).mono ?_;rintro e z ⟨rfl,rfl⟩)|(go_at_call 211;refine(HX.out _).mono ?_;rintro e z ⟨rfl,rfl⟩)|(go_at_call 212;refine(HY.out _).mono ?_;rintro e z ⟨rfl,rfl⟩))
     go_loopg [5,6] m (fun q x y u=>∃ e:Int,x= .int .i64 e/\y= .int .u64 (q:Nat)/\RedAt t p q e/\u= z)
     case atStart=>exact⟨p,rfl,rfl,HRS.out,rfl⟩
     case round=>
      obtain⟨e,rfl,rfl,hrd,rfl⟩:=hrel
      have HRD:=I hrd
      have hpw:=hrd.pow
      have hw3:wrap64 (e+1)= e+1:=by unfold wrap64;omega
      by_cases hodd:gk % 2= 0
      ·have t4:(gk:Int) % 2= 0:=by omega
       have HM:Hid (gk / 2 < gk):=I (by omega)
       have HM2:Hid (IntKind.u64.wrap ((gk:Int) / 2)=((gk / 2:Nat):Int)):=I (by rw[IntKind.wrap_u64];omega)
       have HNX:=I (HRD.out.next hodd)
       clear hrd HRD hodd hpw
       go_wp2
       go_roundg (gk / 2)
       case measure=>exact HM.out
       case rel=>exact⟨e+1,congrArg (Value.int .i64) hw3,congrArg (Value.int .u64) HM2.out,HNX.out,rfl⟩
      ·have t4: ¬ (gk:Int) % 2= 0:=by omega
       have HV:Hid (t=(gk,e)):=I (HRD.out.stop hodd)
       have hdl:=z27 (n:=gk) (by have:=HPL.out;rw[HV.out] at this;omega)
       have hil:=z29 (n:=e) (by omega) (by omega)
       have c1:=zZ [45] (Lib.decDigits gk) (by simp;omega)
       have c2:=zZ ([45] ++ Lib.decDigits gk) [112] (by simp;omega)
       have c3:=zZ ([45] ++ Lib.decDigits gk ++ [112]) (Lib.itoa e) (by simp;omega)
       have cE:Hid ((⟨([45] ++ Lib.decDigits gk ++ [112] ++ Lib.itoa e).toArray⟩:ByteArray)=⟨([45] ++ (Lib.decDigits gk ++ (112::Lib.itoa e))).toArray⟩):=I (by simp)
       generalize (⟨([45] ++ Lib.decDigits gk).toArray⟩:ByteArray)= S1 at*
       generalize (⟨([45] ++ Lib.decDigits gk ++ [112]).toArray⟩:ByteArray)= S2 at*
       generalize (⟨([45] ++ Lib.decDigits gk ++ [112] ++ Lib.itoa e).toArray⟩:ByteArray)= S3 at*
       clear hdl hil
       have HU:=I (z5p gk (by omega) (by omega) wr HT.out)
       have HI:=I (fun z h=>z7t e (by omega) (by omega) z h)
       clear hrd HRD hodd hpw
       go_wp2_with (first|(go_at_call 213;refine HU.out.mono ?_;rintro e z ⟨rfl,hb⟩;have HB1:=I hb;have HT1:=I (HT.out.next hb);clear hb)|(go_at_call 214;refine(HI.out _ HT1.out).mono ?_;rintro e z ⟨rfl,hb⟩;have HB2:=I hb;clear hb))
       go_ret
       have hv:=HV.out
       subst hv
       exact⟨congrArg (fun s=>Ending.returned (.string s)) cE.out,HB1.out.trans (HB2.out.mono HB1.out.size)⟩
    |false=>
     rw[hsg _ hb]
     rw[hb] at HS
     have HT:=I ht
     clear ht hsg hn hb hi h0 hr hm hpl hf
     go_enter Tryz.func190,Tryz.ntmps190
     go_wp2_with (first|(go_at_call 210;refine(HS.out _).mono ?_;rintro e z ⟨rfl,rfl⟩)|(go_at_call 205;refine(HA.out _).mono ?_;rintro e z ⟨rfl,rfl⟩)|(go_at_call 211;refine(HX.out _).mono ?_;rintro e z ⟨rfl,rfl⟩)|(go_at_call 212;refine(HY.out _).mono ?_;rintro e z ⟨rfl,rfl⟩))
     go_loopg [5,6] m (fun q x y u=>∃ e:Int,x= .int .i64 e/\y= .int .u64 (q:Nat)/\RedAt t p q e/\u= z)
     case atStart=>exact⟨p,rfl,rfl,HRS.out,rfl⟩
     case round=>
      obtain⟨e,rfl,rfl,hrd,rfl⟩:=hrel
      have HRD:=I hrd
      have hpw:=hrd.pow
      have hw3:wrap64 (e+1)= e+1:=by unfold wrap64;omega
      by_cases hodd:gk % 2= 0
      ·have t4:(gk:Int) % 2= 0:=by omega
       have HM:Hid (gk / 2 < gk):=I (by omega)
       have HM2:Hid (IntKind.u64.wrap ((gk:Int) / 2)=((gk / 2:Nat):Int)):=I (by rw[IntKind.wrap_u64];omega)
       have HNX:=I (HRD.out.next hodd)
       clear hrd HRD hodd hpw
       go_wp2
       go_roundg (gk / 2)
       case measure=>exact HM.out
       case rel=>exact⟨e+1,congrArg (Value.int .i64) hw3,congrArg (Value.int .u64) HM2.out,HNX.out,rfl⟩
      ·have t4: ¬ (gk:Int) % 2= 0:=by omega
       have HV:Hid (t=(gk,e)):=I (HRD.out.stop hodd)
       have hdl:=z27 (n:=gk) (by have:=HPL.out;rw[HV.out] at this;omega)
       have hil:=z29 (n:=e) (by omega) (by omega)
       have c1:=zZ [] (Lib.decDigits gk) (by simp;omega)
       have c2:=zZ ([] ++ Lib.decDigits gk) [112] (by simp;omega)
       have c3:=zZ ([] ++ Lib.decDigits gk ++ [112]) (Lib.itoa e) (by simp;omega)
       have cE:Hid ((⟨([] ++ Lib.decDigits gk ++ [112] ++ Lib.itoa e).toArray⟩:ByteArray)=⟨([] ++ (Lib.decDigits gk ++ (112::Lib.itoa e))).toArray⟩):=I (by simp)
       generalize (⟨([] ++ Lib.decDigits gk).toArray⟩:ByteArray)= S1 at*
       generalize (⟨([] ++ Lib.decDigits gk ++ [112]).toArray⟩:ByteArray)= S2 at*
       generalize (⟨([] ++ Lib.decDigits gk ++ [112] ++ Lib.itoa e).toArray⟩:ByteArray)= S3 at*
       clear hdl hil
       have HU:=I (z5p gk (by omega) (by omega) wr HT.out)
       have HI:=I (fun z h=>z7t e (by omega) (by omega) z h)
       clear hrd HRD hodd hpw
       go_wp2_with (first|(go_at_call 213;refine HU.out.mono ?_;rintro e z ⟨rfl,hb⟩;have HB1:=I hb;have HT1:=I (HT.out.next hb);clear hb)|(go_at_call 214;refine(HI.out _ HT1.out).mono ?_;rintro e z ⟨rfl,hb⟩;have HB2:=I hb;clear hb))
       go_ret
       have hv:=HV.out
       subst hv
       exact⟨congrArg (fun s=>Ending.returned (.string s)) cE.out,HB1.out.trans (HB2.out.mono HB1.out.size)⟩
end
section
open Go Go.RowKit
def DigAt (R:List UInt8) (q:Nat) (T:List UInt8):Prop:=Lib.decDigits q ++ T= R
theorem DigAt.next {R:List UInt8} {q:Nat} {T:List UInt8} (h:DigAt R q T) (hq: ¬ q < 10):DigAt R (q / 10) (UInt8.ofNat (48+q % 10)::T):=by
 unfold DigAt at*
 rw[zck hq] at h
 rw[← h];simp
theorem DigAt.stop {R:List UInt8} {q:Nat} {T:List UInt8} (h:DigAt R q T) (hq:q < 10):UInt8.ofNat (48+q % 10)::T= R:=by
 unfold DigAt at h
 rw[Lib.decDigits_one hq] at h
 rw[← h,Nat.mod_eq_of_lt hq];rfl
theorem DigAt.len {R:List UInt8} {q:Nat} {T:List UInt8} (h:DigAt R q T):T.length<=R.length:=by
 unfold DigAt at h
 rw[← h,List.length_append];omega
theorem zdi (q:Nat):((UInt8.ofNat (48+q % 10)).toNat:Int)= 48+ ((q % 10:Nat):Int):=by
 rw[UInt8.toNat_ofNat']
 omega
theorem z2X (n:Nat) (hn:n < 18446744073709551616) (hl:(Lib.decDigits n).length<=100) (w:World):Calls Tryz.prog 169 #[.int .u64 n] w fun e w'=>e= .returned (.string ⟨(Lib.decDigits n).toArray⟩)/\Below w.heap.size w w':=by
 have H0:Hid (DigAt (Lib.decDigits n) n []):=I (List.append_nil _)
 generalize Lib.decDigits n= R at*
 have HL:=I hl
 have HN:=I hn
 clear hl hn
 go_enter Tryz.func169,Tryz.ntmps169
 go_wp2
 go_loopg [0,3] n (fun q x y u=>q<=n/\x= .int .u64 (q:Nat)/\∃ T:List UInt8,y= .string ⟨T.toArray⟩/\DigAt R q T/\Below w.heap.size w u)
 case atStart=>exact⟨Nat.le_refl _,rfl,[],rfl,H0.out,Below.refl _ _⟩
 case round=>
  obtain⟨hq,rfl,T,rfl,hd,hb⟩:=hrel
  have HD:=I hd
  have HB:=I hb
  have HQ:=I hq
  clear hd hb hq
  have hlen:T.length<=100:=Nat.le_trans HD.out.len HL.out
  have hcv:(convert 164 9 (.slice (some ⟨wr.heap.size,0,none⟩) 1 1)).run Tryz.prog (wr.alloc (.cells #[.int .u8 (48+ (gk:Int) % 10)] 5))= .ok (.string ⟨[UInt8.ofNat (48+gk % 10)].toArray⟩) (wr.alloc (.cells #[.int .u8 (48+ (gk:Int) % 10)] 5)):=
   run_convert_bytes_back (P:=Tryz.prog) _ 164 9 5 ⟨wr.heap.size,0,none⟩ 1 [UInt8.ofNat (48+gk % 10)] Tryz.underlying164 Tryz.underlying5 Tryz.underlying9 (fun j hj=>by
    obtain rfl:j= 0:=by simpa using hj
    have h1:=zdi gk
    have h2:(48+ (gk:Int) % 10)= 48+ ((gk % 10:Nat):Int):=by omega
    show World.cell? _ _= some (.int .u8 ((UInt8.ofNat (48+gk % 10)).toNat:Int))
    rw[h1,h2,Lib.add_plain,cell_of_row _ wr.heap.size 0 _ _ _ (heap_alloc_new wr _)]
    rfl)
  have c1:=zZ [UInt8.ofNat (48+gk % 10)] T (by simp;omega)
  have HW:Hid (Below w.heap.size w (wr.alloc (.cells #[.int .u8 (48+ (gk:Int) % 10)] 5))):=I (HB.out.alloc HB.out.size _)
  have HX:Hid (IntKind.u64.wrap ((gk:Int) / 10)=((gk / 10:Nat):Int)):=I (by rw[IntKind.wrap_u64];have:=HQ.out;have:=HN.out;omega)
  by_cases h10:gk < 10
  ·have HE:Hid (UInt8.ofNat (48+gk % 10)::T= R):=I (HD.out.stop h10)
   have t1:IntKind.u64.wrap ((gk:Int) / 10)= 0:=by rw[HX.out];omega
   have t2:(gk:Int) / 10= 0:=by omega
   have HS:Hid ((⟨([UInt8.ofNat (48+gk % 10)] ++ T).toArray⟩:ByteArray)=⟨R.toArray⟩):=I (by rw[← HE.out];rfl)
   clear h10 hlen HE
   generalize (⟨([UInt8.ofNat (48+gk % 10)] ++ T).toArray⟩:ByteArray)= S at*
   generalize UInt8.ofNat (48+gk % 10)= c at*
   go_wp2
   (try simp only[Exit.inBlock,Exit.then])
   go_ret
   exact⟨by rw[← HS.out];rfl,HW.out⟩
  ·have HE:=I (HD.out.next h10)
   have HM:Hid (gk / 10 < gk/\gk / 10<=n):=I (by have:=HQ.out;omega)
   have t1: ¬ (IntKind.u64.wrap ((gk:Int) / 10)= 0):=by rw[HX.out];omega
   have t2: ¬ ((gk:Int) / 10= 0):=by omega
   have HS:Hid ((⟨([UInt8.ofNat (48+gk % 10)] ++ T).toArray⟩:ByteArray)=⟨(UInt8.ofNat (48+gk % 10)::T).toArray⟩):=I rfl
   have t3:(IntKind.u64.wrap ((gk:Int) / 10) ==0)= false:=by rw[beq_eq_false_iff_ne];exact t1
   clear h10 hlen t1 t2
   generalize (⟨([UInt8.ofNat (48+gk % 10)] ++ T).toArray⟩:ByteArray)= S at*
   generalize UInt8.ofNat (48+gk % 10)= c at*
   go_wp2
   go_roundg (gk / 10)
   case measure=>exact HM.out.1
   case rel=>exact⟨HM.out.2,congrArg (Value.int .u64) HX.out,_,congrArg Value.string HS.out,HE.out,HW.out⟩
theorem zbf (f:Nat) (w:World):Calls Tryz.prog 168 #[.float .f64 f] w fun e w'=>e= .returned (.bool (decide (9223372036854775808<=f)))/\w'= w:=by
 have e1:∀ W:World,(callFunc 166 #[.float .f64 f]).run Tryz.prog W= .ok (.value (.int .u64 f)) W:=fun W=>by
  rw[run_callFunc_extern Tryz.func166 (by kernel_rfl) (by kernel_rfl) (by kernel_rfl) (e:=Extern.MathFloatBits.float64bits) (by kernel_rfl)]
  rfl
 have hw:decide ((9223372036854775808:Int)<=(f:Int))= decide (9223372036854775808<=f):=by
  by_cases h:9223372036854775808<=f
  ·rw[decide_eq_true h,decide_eq_true (by omega)]
  ·rw[decide_eq_false h,decide_eq_false (by omega)]
 rw[← hw]
 clear hw
 go_enter Tryz.func168,Tryz.ntmps168
 go_wp2
 go_ret
 exact⟨rfl,rfl⟩
theorem z5R {f:Nat} (hf:f < 2 ^ 64):nanR f= decide (9218868437227405312 < f % 9223372036854775808):=by
 unfold nanR
 rw[IntKind.wrap_u64]
 by_cases h:9218868437227405312 < f % 9223372036854775808
 ·rw[decide_eq_true h,decide_eq_true (by omega)]
 ·rw[decide_eq_false h,decide_eq_false (by omega)]
theorem zcx (f:Nat) (hf:f < 2 ^ 64) (hfin:f % 9223372036854775808 < 9218868437227405312) (w:World):Calls Tryz.prog 167 #[.float .f64 f] w fun e w'=>
  e= .returned (.tuple #[.int .u64 ((zX (f % 9223372036854775808)).1:Nat),.int .i64 (zX (f % 9223372036854775808)).2])/\w'= w:=by
 have e1:∀ W:World,(callFunc 166 #[.float .f64 f]).run Tryz.prog W= .ok (.value (.int .u64 f)) W:=fun W=>by
  rw[run_callFunc_extern Tryz.func166 (by kernel_rfl) (by kernel_rfl) (by kernel_rfl) (e:=Extern.MathFloatBits.float64bits) (by kernel_rfl)]
  rfl
 have a1:IntKind.u64.wrap ((f:Int) *4096) / 4096=((f % 4503599627370496:Nat):Int):=by rw[IntKind.wrap_u64];omega
 have a2:IntKind.u64.wrap ((f:Int) *2) / 9007199254740992=((f % 9223372036854775808 / 4503599627370496:Nat):Int):=by rw[IntKind.wrap_u64];omega
 obtain⟨r,hr⟩:∃ r,f % 9223372036854775808= r:=⟨_,rfl⟩
 have h52:f % 4503599627370496= r % 4503599627370496:=by omega
 rw[hr] at a2 hfin ⊢
 rw[h52] at a1
 have hk:r / 4503599627370496 < 2048:=by omega
 obtain⟨X1,hX1⟩:∃ X1:Int,X1= IntKind.u64.wrap ((f:Int) *4096):=⟨_,rfl⟩
 obtain⟨X2,hX2⟩:∃ X2:Int,X2= IntKind.u64.wrap ((f:Int) *2):=⟨_,rfl⟩
 rw[← hX1] at a1
 rw[← hX2] at a2
 have b1:=hX1.symm
 have b2:=hX2.symm
 clear hX1 hX2 hf h52 hr
 by_cases hl:r < 4503599627370496
 ·have k0:r / 4503599627370496= 0:=by omega
  have m0:r % 4503599627370496= r:=by omega
  rw[k0] at a2
  rw[m0] at a1
  clear hk hfin k0 m0
  have a2':X2 / 9007199254740992= 0:=a2
  by_cases h0:r= 0
  ·subst h0
   have a1':X1 / 4096= 0:=a1
   clear a1 a2
   go_enter Tryz.func167,Tryz.ntmps167
   go_wp2
   go_ret2
   exact⟨rfl,rfl⟩
  ·have HP:Hid (zX r= redF 64 r (-1074)):=I (by unfold zX;rw[if_neg h0,(z0Q hl).1,(z0Q hl).2])
   have HRS:=I (RedAt.start (m:=r) (e:= -1074) (by omega) (by omega))
   rw[← HP.out] at HRS
   clear HP
   have t0: ¬ ((r:Int)= 0):=by omega
   have t1:((r:Int) ==0)= false:=by rw[beq_eq_false_iff_ne];exact t0
   generalize zX r= t at*
   clear a2 h0 hl
   go_enter Tryz.func167,Tryz.ntmps167
   go_wp2
   go_loopg [5,6] (r) (fun q x y u=>∃ e:Int,x= .int .u64 (q:Nat)/\y= .int .i64 e/\RedAt t (-1074) q e/\u= w)
   case atStart=>exact⟨-1074,rfl,rfl,HRS.out,rfl⟩
   case round=>
    obtain⟨e,rfl,rfl,hrd,rfl⟩:=hrel
    have HRD:=I hrd
    have hpw:=hrd.pow
    have HW3:Hid (wrap64 (e+1)= e+1):=I (by unfold wrap64;omega)
    by_cases hodd:gk % 2= 0
    ·have t4:(gk:Int) % 2= 0:=by omega
     have HM:Hid (gk / 2 < gk):=I (by omega)
     have HM2:Hid (IntKind.u64.wrap ((gk:Int) / 2)=((gk / 2:Nat):Int)):=I (by rw[IntKind.wrap_u64];omega)
     have HNX:=I (HRD.out.next hodd)
     clear hrd HRD hodd hpw
     go_wp2
     go_roundg (gk / 2)
     case measure=>exact HM.out
     case rel=>exact⟨e+1,congrArg (Value.int .u64) HM2.out,congrArg (Value.int .i64) HW3.out,HNX.out,rfl⟩
    ·have t4: ¬ (gk:Int) % 2= 0:=by omega
     have HV:Hid (t=(gk,e)):=I (HRD.out.stop hodd)
     clear hrd HRD hodd hpw
     go_wp2
     go_ret2
     have hv:=HV.out
     subst hv
     exact⟨rfl,rfl⟩
 ·obtain⟨k,hk2⟩:∃ k:Int,k=((r / 4503599627370496:Nat):Int):=⟨_,rfl⟩
  have hp:zX r= redF 64 (4503599627370496+r % 4503599627370496) (k - 1075):=by
   unfold zX
   rw[if_neg (by omega),(z0y (by omega)).1,(z0y (by omega)).2]
   congr 1;omega
  have HRS:=I (RedAt.start (m:=4503599627370496+r % 4503599627370496) (e:=k - 1075) (by omega) (by omega))
  rw[← hp] at HRS
  rw[← hk2] at a2
  have hk3:1<=k/\k < 2048:=by omega
  obtain⟨m,hm⟩:∃ m,m= r % 4503599627370496:=⟨_,rfl⟩
  rw[← hm] at a1 HRS
  obtain⟨E,hE⟩:∃ E:Int,E= k - 1075:=⟨_,rfl⟩
  rw[← hE] at HRS
  have HEB:Hid (-1075<=E/\E<=973):=I (by omega)
  have c1:wrap64 k= k:=by unfold wrap64;omega
  have c2:wrap64 (k - 1075)= E:=by unfold wrap64;omega
  have c3:IntKind.u64.wrap ((m:Int)+4503599627370496)=((4503599627370496+m:Nat):Int):=by rw[IntKind.wrap_u64];omega
  have t1:(E == -1075)= false:=by rw[beq_eq_false_iff_ne];omega
  have t2:(((4503599627370496+m:Nat):Int) ==0)= false:=by rw[beq_eq_false_iff_ne];omega
  generalize 4503599627370496+m= M at*
  generalize zX r= t at*
  clear hp hk2 hm hl hk hfin hk3 hE
  go_enter Tryz.func167,Tryz.ntmps167
  go_wp2
  go_loopg [5,6] (M) (fun q x y u=>∃ e:Int,x= .int .u64 (q:Nat)/\y= .int .i64 e/\RedAt t (E) q e/\u= w)
  case atStart=>exact⟨E,rfl,congrArg (Value.int .i64) c2,HRS.out,rfl⟩
  case round=>
   clear c1 c2 c3 t1 t2 a1 a2 b1 b2
   obtain⟨e,rfl,rfl,hrd,rfl⟩:=hrel
   have HRD:=I hrd
   have hpw:=hrd.pow
   have heb:=HEB.out
   have HW3:Hid (wrap64 (e+1)= e+1):=I (by unfold wrap64;omega)
   by_cases hodd:gk % 2= 0
   ·have t4:(gk:Int) % 2= 0:=by omega
    have HM:Hid (gk / 2 < gk):=I (by omega)
    have HM2:Hid (IntKind.u64.wrap ((gk:Int) / 2)=((gk / 2:Nat):Int)):=I (by rw[IntKind.wrap_u64];omega)
    have HNX:=I (HRD.out.next hodd)
    clear hrd HRD hodd hpw heb
    go_wp2
    go_roundg (gk / 2)
    case measure=>exact HM.out
    case rel=>exact⟨e+1,congrArg (Value.int .u64) HM2.out,congrArg (Value.int .i64) HW3.out,HNX.out,rfl⟩
   ·have t4: ¬ (gk:Int) % 2= 0:=by omega
    have HV:Hid (t=(gk,e)):=I (HRD.out.stop hodd)
    clear hrd HRD hodd hpw heb
    go_wp2
    go_ret2
    have hv:=HV.out
    subst hv
    exact⟨rfl,rfl⟩
theorem zdo (f:Nat) (hf:f < 2 ^ 64) (w:World):Calls Tryz.prog 139 #[.float .f64 f] w fun e w'=>e= .returned (.string ⟨(textF f).toArray⟩)/\Below w.heap.size w w':=by
 have e1:∀ W:World,(callFunc 166 #[.float .f64 f]).run Tryz.prog W= .ok (.value (.int .u64 f)) W:=fun W=>by
  rw[run_callFunc_extern Tryz.func166 (by kernel_rfl) (by kernel_rfl) (by kernel_rfl) (e:=Extern.MathFloatBits.float64bits) (by kernel_rfl)]
  rfl
 have HS:=I (fun w=>zbf f w)
 have HN:=I (fun w=>z3j f hf w)
 rw[z5R hf] at HN
 have hsg:=fun b=>z7A f b
 unfold textF
 by_cases hn:9218868437227405312 < f % 9223372036854775808
 ·rw[if_pos hn]
  rw[decide_eq_true hn] at HN
  clear hf hsg hn
  cases hb:decide (9223372036854775808<=f)<;>rw[hb] at HS<;>clear hb<;>go_enter Tryz.func139,Tryz.ntmps139
  all_goals
   go_wp2_with (first|(go_at_call 168;refine(HS.out _).mono ?_;rintro e z ⟨rfl,rfl⟩)|(go_at_call 138;refine(HN.out _).mono ?_;rintro e z ⟨rfl,rfl⟩))
   go_ret
   exact⟨rfl,Below.refl _ _⟩
 ·rw[if_neg hn]
  rw[decide_eq_false hn] at HN
  by_cases hi:f % 9223372036854775808= 9218868437227405312
  ·rw[if_pos hi]
   have q1:IntKind.u64.wrap ((f:Int) *2)= 18437736874454810624:=by rw[IntKind.wrap_u64];omega
   cases hb:decide (9223372036854775808<=f)<;>rw[hsg _ hb]<;>rw[hb] at HS<;>clear hb hf hsg hn hi<;>go_enter Tryz.func139,Tryz.ntmps139
   all_goals
    go_wp2_with (first|(go_at_call 168;refine(HS.out _).mono ?_;rintro e z ⟨rfl,rfl⟩)|(go_at_call 138;refine(HN.out _).mono ?_;rintro e z ⟨rfl,rfl⟩))
    go_ret
    exact⟨rfl,Below.refl _ _⟩
  ·rw[if_neg hi]
   have q0: ¬ (IntKind.u64.wrap ((f:Int) *2)= 18437736874454810624):=by rw[IntKind.wrap_u64];omega
   have hfin:f % 9223372036854775808 < 9218868437227405312:=by omega
   have HP:=I (fun w=>zcx f hf hfin w)
   have hpl:=z4Q hfin
   obtain⟨m,hm⟩:∃ m,m=(zX (f % 9223372036854775808)).1:=⟨_,rfl⟩
   obtain⟨e,he⟩:∃ e,e=(zX (f % 9223372036854775808)).2:=⟨_,rfl⟩
   rw[← hm,← he] at HP hpl
   rw[← hm,← he]
   have q1:(IntKind.u64.wrap ((f:Int) *2) ==18437736874454810624)= false:=by rw[beq_eq_false_iff_ne];exact q0
   have hdm:=z27 (n:=m) (by omega)
   have HDM:=I (fun w=>z2X m (by omega) (by omega) w)
   clear hi hn hfin hm he q0
   rcases z5t e with ⟨h0,h1⟩|⟨h0,h1⟩
   ·have hde:=z27 (n:=e.toNat) (by omega)
    have HDE:=I (fun w=>z2X e.toNat (by omega) (by omega) w)
    rw[h1]
    have u1:IntKind.u64.wrap e=((e.toNat:Nat):Int):=by rw[IntKind.wrap_u64];omega
    have u2: ¬ e < 0:=by omega
    have u3:decide (e < 0)= false:=decide_eq_false u2
    cases hb:decide (9223372036854775808<=f) with
    |true=>
     rw[hsg _ hb]
     rw[hb] at HS
     have c1:=zZ [45] (Lib.decDigits m) (by simp;omega)
     have c2:=zZ ([45] ++ Lib.decDigits m) [112] (by simp;omega)
     have c4:=zZ ([45] ++ Lib.decDigits m ++ [112]) (Lib.decDigits e.toNat) (by simp;omega)
     have cE:Hid ((⟨([45] ++ Lib.decDigits m ++ [112] ++ Lib.decDigits e.toNat).toArray⟩:ByteArray)=⟨([45] ++ (Lib.decDigits m ++ (112::Lib.decDigits e.toNat))).toArray⟩):=I (by simp)
     generalize (⟨([45] ++ Lib.decDigits m).toArray⟩:ByteArray)= S1 at*
     generalize (⟨([45] ++ Lib.decDigits m ++ [112]).toArray⟩:ByteArray)= S2 at*
     generalize (⟨([45] ++ Lib.decDigits m ++ [112] ++ Lib.decDigits e.toNat).toArray⟩:ByteArray)= S4 at*
     clear hb hf hsg hpl hdm hde h0 h1
     generalize e.toNat= E at*
     go_enter Tryz.func139,Tryz.ntmps139
     go_wp2_with (first|(go_at_call 168;refine(HS.out _).mono ?_;rintro e z ⟨rfl,rfl⟩)|(go_at_call 138;refine(HN.out _).mono ?_;rintro e z ⟨rfl,rfl⟩)|(go_at_call 167;refine(HP.out _).mono ?_;rintro e z ⟨rfl,rfl⟩)|(go_at_call 169;with_reducible refine(HDM.out _).mono ?_;rintro e z ⟨rfl,hb⟩;have HB1:=I hb;clear hb HDM)|(go_at_call 169;with_reducible refine(HDE.out _).mono ?_;rintro e z ⟨rfl,hb⟩;have HB2:=I hb;clear hb))
     go_ret
     exact⟨congrArg (fun s=>Ending.returned (.string s)) cE.out,HB1.out.trans (HB2.out.mono HB1.out.size)⟩
    |false=>
     rw[hsg _ hb]
     rw[hb] at HS
     have c1:=zZ [] (Lib.decDigits m) (by simp;omega)
     have c2:=zZ ([] ++ Lib.decDigits m) [112] (by simp;omega)
     have c4:=zZ ([] ++ Lib.decDigits m ++ [112]) (Lib.decDigits e.toNat) (by simp;omega)
     have cE:Hid ((⟨([] ++ Lib.decDigits m ++ [112] ++ Lib.decDigits e.toNat).toArray⟩:ByteArray)=⟨([] ++ (Lib.decDigits m ++ (112::Lib.decDigits e.toNat))).toArray⟩):=I (by simp)
     generalize (⟨([] ++ Lib.decDigits m).toArray⟩:ByteArray)= S1 at*
     generalize (⟨([] ++ Lib.decDigits m ++ [112]).toArray⟩:ByteArray)= S2 at*
     generalize (⟨([] ++ Lib.decDigits m ++ [112] ++ Lib.decDigits e.toNat).toArray⟩:ByteArray)= S4 at*
     clear hb hf hsg hpl hdm hde h0 h1
     generalize e.toNat= E at*
     go_enter Tryz.func139,Tryz.ntmps139
     go_wp2_with (first|(go_at_call 168;refine(HS.out _).mono ?_;rintro e z ⟨rfl,rfl⟩)|(go_at_call 138;refine(HN.out _).mono ?_;rintro e z ⟨rfl,rfl⟩)|(go_at_call 167;refine(HP.out _).mono ?_;rintro e z ⟨rfl,rfl⟩)|(go_at_call 169;with_reducible refine(HDM.out _).mono ?_;rintro e z ⟨rfl,hb⟩;have HB1:=I hb;clear hb HDM)|(go_at_call 169;with_reducible refine(HDE.out _).mono ?_;rintro e z ⟨rfl,hb⟩;have HB2:=I hb;clear hb))
     go_ret
     exact⟨congrArg (fun s=>Ending.returned (.string s)) cE.out,HB1.out.trans (HB2.out.mono HB1.out.size)⟩
   ·have hde:=z27 (n:=e.natAbs) (by omega)
    have HDE:=I (fun w=>z2X e.natAbs (by omega) (by omega) w)
    rw[h1]
    have u1:IntKind.u64.wrap (wrap64 (-e))=((e.natAbs:Nat):Int):=by rw[IntKind.wrap_u64];unfold wrap64;omega
    have u1':IntKind.u64.wrap (-e)=((e.natAbs:Nat):Int):=by rw[IntKind.wrap_u64];omega
    have u2:e < 0:=h0
    have u3:decide (e < 0)= true:=decide_eq_true u2
    cases hb:decide (9223372036854775808<=f) with
    |true=>
     rw[hsg _ hb]
     rw[hb] at HS
     have c1:=zZ [45] (Lib.decDigits m) (by simp;omega)
     have c2:=zZ ([45] ++ Lib.decDigits m) [112] (by simp;omega)
     have c3:=zZ ([45] ++ Lib.decDigits m ++ [112]) [45] (by simp;omega)
     have c4:=zZ ([45] ++ Lib.decDigits m ++ [112] ++ [45]) (Lib.decDigits e.natAbs) (by simp;omega)
     have cE:Hid ((⟨([45] ++ Lib.decDigits m ++ [112] ++ [45] ++ Lib.decDigits e.natAbs).toArray⟩:ByteArray)=⟨([45] ++ (Lib.decDigits m ++ (112::45::Lib.decDigits e.natAbs))).toArray⟩):=I (by simp)
     generalize (⟨([45] ++ Lib.decDigits m).toArray⟩:ByteArray)= S1 at*
     generalize (⟨([45] ++ Lib.decDigits m ++ [112]).toArray⟩:ByteArray)= S2 at*
     generalize (⟨([45] ++ Lib.decDigits m ++ [112] ++ [45]).toArray⟩:ByteArray)= S3 at*
     generalize (⟨([45] ++ Lib.decDigits m ++ [112] ++ [45] ++ Lib.decDigits e.natAbs).toArray⟩:ByteArray)= S4 at*
     clear hb hf hsg hpl hdm hde h0 h1
     generalize e.natAbs= E at*
     go_enter Tryz.func139,Tryz.ntmps139
     go_wp2_with (first|(go_at_call 168;refine(HS.out _).mono ?_;rintro e z ⟨rfl,rfl⟩)|(go_at_call 138;refine(HN.out _).mono ?_;rintro e z ⟨rfl,rfl⟩)|(go_at_call 167;refine(HP.out _).mono ?_;rintro e z ⟨rfl,rfl⟩)|(go_at_call 169;with_reducible refine(HDM.out _).mono ?_;rintro e z ⟨rfl,hb⟩;have HB1:=I hb;clear hb HDM)|(go_at_call 169;with_reducible refine(HDE.out _).mono ?_;rintro e z ⟨rfl,hb⟩;have HB2:=I hb;clear hb))
     go_ret
     exact⟨congrArg (fun s=>Ending.returned (.string s)) cE.out,HB1.out.trans (HB2.out.mono HB1.out.size)⟩
    |false=>
     rw[hsg _ hb]
     rw[hb] at HS
     have c1:=zZ [] (Lib.decDigits m) (by simp;omega)
     have c2:=zZ ([] ++ Lib.decDigits m) [112] (by simp;omega)
     have c3:=zZ ([] ++ Lib.decDigits m ++ [112]) [45] (by simp;omega)
     have c4:=zZ ([] ++ Lib.decDigits m ++ [112] ++ [45]) (Lib.decDigits e.natAbs) (by simp;omega)
     have cE:Hid ((⟨([] ++ Lib.decDigits m ++ [112] ++ [45] ++ Lib.decDigits e.natAbs).toArray⟩:ByteArray)=⟨([] ++ (Lib.decDigits m ++ (112::45::Lib.decDigits e.natAbs))).toArray⟩):=I (by simp)
     generalize (⟨([] ++ Lib.decDigits m).toArray⟩:ByteArray)= S1 at*
     generalize (⟨([] ++ Lib.decDigits m ++ [112]).toArray⟩:ByteArray)= S2 at*
     generalize (⟨([] ++ Lib.decDigits m ++ [112] ++ [45]).toArray⟩:ByteArray)= S3 at*
     generalize (⟨([] ++ Lib.decDigits m ++ [112] ++ [45] ++ Lib.decDigits e.natAbs).toArray⟩:ByteArray)= S4 at*
     clear hb hf hsg hpl hdm hde h0 h1
     generalize e.natAbs= E at*
     go_enter Tryz.func139,Tryz.ntmps139
     go_wp2_with (first|(go_at_call 168;refine(HS.out _).mono ?_;rintro e z ⟨rfl,rfl⟩)|(go_at_call 138;refine(HN.out _).mono ?_;rintro e z ⟨rfl,rfl⟩)|(go_at_call 167;refine(HP.out _).mono ?_;rintro e z ⟨rfl,rfl⟩)|(go_at_call 169;with_reducible refine(HDM.out _).mono ?_;rintro e z ⟨rfl,hb⟩;have HB1:=I hb;clear hb HDM)|(go_at_call 169;with_reducible refine(HDE.out _).mono ?_;rintro e z ⟨rfl,hb⟩;have HB2:=I hb;clear hb))
     go_ret
     exact⟨congrArg (fun s=>Ending.returned (.string s)) cE.out,HB1.out.trans (HB2.out.mono HB1.out.size)⟩
end
section
open Go Go.RowKit
theorem z7F {f:Nat} (hf:f < 2 ^ 64):cmpF f 0 < 0↔¬ 9218868437227405312 < f % 9223372036854775808/\9223372036854775808<=f:=by
 have nf:=z10 hf
 have bf:=z2r (dat f)
 have n0:nanD (dat 0)= 0:=by decide +kernel
 have c0:clsD (dat 0)= 0:=by decide +kernel
 have v0:valD (dat 0)= 0:=by decide +kernel
 have r0:rankZ 0= 0:=rfl
 have rf:=z4I hf
 rw[z5O]
 unfold cmpF' cmpD
 rw[n0,c0,v0,r0]
 have e1:=z00 (nanD (dat f)) 0
 have e2:=z00 (clsD (dat f)) 0
 have e3:=z00 (valD (dat f)) 0
 have e4:=z00 (rankZ f) 0
 rcases Nat.lt_trichotomy (f % 9223372036854775808) 9218868437227405312 with h|h|h
 ·obtain⟨hv,hc⟩:=z95 hf h
  have hz:=z4D (r:=f % 9223372036854775808)
  have hn:nanD (dat f)= 0:=by
   rcases bf with h2|h2
   ·exact h2
   ·have:=nf.1 (by omega);omega
  have hrk:(f= 9223372036854775808/\rankZ f= -1)\/(f≠9223372036854775808/\rankZ f= 0):=by
   by_cases h2:f= 9223372036854775808
   ·rw[if_pos h2] at rf;exact Or.inl ⟨h2,rf⟩
   ·rw[if_neg h2] at rf;exact Or.inr ⟨h2,rf⟩
  have hvv:(9223372036854775808<=f/\valD (dat f)= -((valF (f % 9223372036854775808):Nat):Int))\/(¬ 9223372036854775808<=f/\valD (dat f)=(valF (f % 9223372036854775808):Nat)):=by
   by_cases hs:9223372036854775808<=f
   ·rw[if_pos hs] at hv;exact Or.inl ⟨hs,hv⟩
   ·rw[if_neg hs] at hv;exact Or.inr ⟨hs,hv⟩
  clear rf hv nf bf
  have hz1:=hz.1
  have hz2:=hz.2
  clear hz
  generalize valF (f % 9223372036854775808)= q at*
  generalize cmpI (nanD (dat f)) 0= a at*
  generalize cmpI (clsD (dat f)) 0= b at*
  generalize cmpI (valD (dat f)) 0= c at*
  generalize cmpI (rankZ f) 0= d at*
  (repeat' split)<;>omega
 ·have hd:f= 9218868437227405312\/f= 18442240474082181120:=by omega
  clear rf nf bf
  rcases hd with rfl|rfl
  ·have hc:clsD (dat 9218868437227405312)= 1:=by decide +kernel
   have hn:nanD (dat 9218868437227405312)= 0:=by decide +kernel
   rw[hn] at e1 ⊢
   rw[hc] at e2 ⊢
   generalize cmpI 0 0= a at*
   generalize cmpI 1 0= b at*
   generalize cmpI (valD (dat 9218868437227405312)) 0= c at*
   generalize cmpI (rankZ 9218868437227405312) 0= d at*
   (repeat' split)<;>omega
  ·have hc:clsD (dat 18442240474082181120)= -1:=by decide +kernel
   have hn:nanD (dat 18442240474082181120)= 0:=by decide +kernel
   rw[hn] at e1 ⊢
   rw[hc] at e2 ⊢
   generalize cmpI 0 0= a at*
   generalize cmpI (-1) 0= b at*
   generalize cmpI (valD (dat 18442240474082181120)) 0= c at*
   generalize cmpI (rankZ 18442240474082181120) 0= d at*
   (repeat' split)<;>omega
 ·have hn:nanD (dat f)≠0:=nf.2 h
  clear nf rf
  generalize cmpI (nanD (dat f)) 0= a at*
  generalize cmpI (clsD (dat f)) 0= b at*
  generalize cmpI (valD (dat f)) 0= c at*
  generalize cmpI (rankZ f) 0= d at*
  (repeat' split)<;>omega
theorem zei {f:Nat} (hf:f < 2 ^ 64) (h:(fOrd f 0 ==some .lt)= true):cmpF f 0 < 0:=by
 have hn0:nanB 0= false:=by decide +kernel
 have hn:nanB f= false:=by
  rw[beq_iff_eq] at h
  cases hb:nanB f with
  |false=>rfl
  |true=>
   have hd:=z0P f
   rw[hb] at hd
   have h1:nanD (dat f)≠0:=by simpa using hd.symm
   rw[z2K,z1M _ _ (Or.inl h1)] at h
   cases h
 unfold cmpF
 rw[hn,hn0,if_neg (by simp),if_neg (by simp),if_pos (Or.inl h)]
 decide
def negB (f:Nat):Bool:=decide (cmpF f 0 < 0)
theorem z9p {f:Nat} (hf:f < 2 ^ 64):∃ c t,textF f= c::t/\(negB f= true->c= 45)/\(negB f= false->nanR f= false->c≠45):=by
 have hn:=z7F hf
 have hnan:=z5R hf
 unfold negB textF
 by_cases h1:9218868437227405312 < f % 9223372036854775808
 ·rw[if_pos h1]
  refine⟨_,_,rfl,fun h=> ?_,fun _ h=> ?_⟩
  ·have:=(hn.1 (of_decide_eq_true h)).1;omega
  ·rw[hnan,decide_eq_true h1] at h;cases h
 ·rw[if_neg h1]
  by_cases h2:f < 9223372036854775808
  ·rw[if_pos h2,List.nil_append]
   have hf0: ¬ cmpF f 0 < 0:=fun h=>by have:=(hn.1 h).2;omega
   by_cases h3:f % 9223372036854775808= 9218868437227405312
   ·rw[if_pos h3]
    exact⟨_,_,rfl,fun h=>absurd (of_decide_eq_true h) hf0,fun _ _=>by decide⟩
   ·rw[if_neg h3]
    obtain⟨c,t,he,hd⟩:=z7c (zX (f % 9223372036854775808)).1 (112::Lib.itoa (zX (f % 9223372036854775808)).2)
    exact⟨c,t,he,fun h=>absurd (of_decide_eq_true h) hf0,fun _ _ h=>by subst h;revert hd;decide⟩
  ·rw[if_neg h2]
   refine⟨45,_,rfl,fun _=>rfl,fun h=> ?_⟩
   exact absurd (hn.2 ⟨h1,by omega⟩) (of_decide_eq_false h)
def zj (t:VT):Bool:=decide (cntV t 0<=200) && zo t 1
def zN (t:VT):Bool:=match t with
 | .mk k n f s ns its=>((k ==1) ||((k ==4) ||(((k ==2) && decide (0<=n)) ||((k ==3) && !(negB f))))) && zj t
end
section
open Go Go.RowKit
def leafV:VT->Bool
 | .mk k n f s ns its=>((k ==1 && n ==1) ||(k ==2 ||(k ==3 && n ==0))) && (f ==0 && (s.toList.isEmpty && (ns.isEmpty && its.isEmpty)))
theorem z6X (t:VT) (cs:List Value) (w:World) (hl:leafV t= true) (hv:ValAt w w.heap.size cs t):Calls Tryz.prog 21 #[.agg ⟨cs⟩] w fun e w'=>e= .returned (.bool (zj t))/\Below w.heap.size w w':=z22 t cs w hv
end
end Go.Proofs.YtmpbepjjbaeebaaGreatDoor
