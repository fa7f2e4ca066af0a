/- Parts of a proof: FText, RDig, EConst, EConst2, ERight. -/
import Derived.Test.YtpmjcbjdcjjplaaGreatDoorPackS20
import Derived.Test.YtpmjcbjdcjjplaaGreatDoorPackS21
import Derived.Test.YtpmjcbjdcjjplaaGreatDoorPackS22
import Derived.Test.YtpmjcbjdcjjplaaGreatDoorPackS23
set_option maxHeartbeats 8000000
set_option maxRecDepth 100000
set_option linter.unusedVariables false
set_option linter.unusedSimpArgs false
namespace Go.Proofs.YtpmjcbjdcjjplaaGreatDoor
section
open Go Go.RowKit Go.Sort Go.Lib
def TabP (w:World):Prop:=Lib.TabIs Tryz.prog w "internal/strconv.uint64pow10" .u64 Lib.pow10Tab
theorem z3J (w:World) (k:Nat) (os:Array Obj):Below w.heap.size w (Sort.grow (w.drewN k) os):=by
 have h1:Below w.heap.size w (w.drewN k):=⟨rfl,rfl,rfl,Nat.le_refl _,fun _ _=>rfl⟩;refine h1.trans ?_;refine⟨rfl,rfl,rfl,?_,fun i hi=> ?_⟩
 ·show(w.drewN k).heap.size<=((w.drewN k).heap ++ os).size
  rw[Array.size_append];exact Nat.le_add_right _ _
 ·show((w.drewN k).heap ++ os)[i]?=(w.drewN k).heap[i]?
  exact Array.getElem?_append_left hi
theorem zea (w:World) (T:TypeId) (nd:Nat) (hs:nd<=24):Holds (fun(b:UInt8)=>Value.int .u8 (b.toNat:Int)) (w.alloc (.cells Lib.zeros24 T)) w.heap.size 0 (Array.replicate nd (0:UInt8)):=fun j hj=>by
 have hj':j < nd:=by simpa using hj
 refine⟨?_,World.frozen?_alloc_new _ _ _ _⟩
 rw[World.cell?_alloc_new,Lib.zeros24_at _ (by omega),getElem!_pos _ j hj]
 simp
theorem zeN (w:World) (o:Obj) (dk:Array UInt8) (k:Nat):∃ os,(Sort.putRow (fun(b:UInt8)=>Value.int .u8 (b.toNat:Int)) (w.alloc o) w.heap.size 0 dk).drewN k= Sort.grow (w.drewN k) os:=by
 rw[alloc_eq_grow];obtain⟨os',_,e⟩:=Sort.putRow_grow_new (fun(b:UInt8)=>Value.int .u8 (b.toNat:Int)) w #[o] w.heap.size 0 dk (Nat.le_refl _);exact⟨os',by rw[e];rfl⟩
theorem z7X (u:Nat) (hu1:1<=u) (hu64:u < 18446744073709551616) (w:World) (ht:TabP w):Calls Tryz.prog 236 #[.int .u64 u,.int .i64 10] w fun e w'=>e= .returned (.string ⟨(Lib.decDigits u).toArray⟩)/\Below w.heap.size w w':=by
 by_cases hs:u < 100
 ·have HS:=I (fun w=>Tryz.internal_strconv_small u hs w)
  have t1:(u:Int) < 100:=by omega
  have t2:IntKind.i64.wrap (u:Int)= u:=by rw[IntKind.wrap_i64];omega
  clear hs hu64 hu1 ht;go_enter Tryz.func236,Tryz.ntmps236;go_wp2_with (go_at_call 228;refine(HS.o _).mono ?_;rintro e z ⟨rfl,rfl⟩);go_ret;exact⟨rfl,Below.refl _ _⟩
 ·have O:Lib.nDigits u<=20:=by have:=Lib.numDigits_eq u hu1 hu64;split at this<;>omega
  have G:Tryz.prog.arrayLen 273= 24:=by simp[Program.arrayLen,Tryz.underlying273]
  have X:∀ W,(Instr.sliceAt 273 (.pointer (some ⟨w.heap.size,0,none⟩)) none (some (.int .i64 (Lib.nDigits u:Int))) none).run Tryz.prog W= .ok (.slice (some ⟨w.heap.size,0,none⟩) (Lib.nDigits u) 24) W:=fun W=>by
   rw[run_sliceAt_array_h W 273 ⟨w.heap.size,0,none⟩ (by simp[Program.arrayLen,Program.elem,Tryz.underlying273]) .i64 (Lib.nDigits u:Int) (by omega) (by rw[G];omega)];go_simp
  have A:=zea w 273 (Lib.nDigits u) (by omega);have g:=Tryz.internal_strconv_formatBase10 w.heap.size 0 24 u (Array.replicate (Lib.nDigits u) 0) (w.alloc (.cells Lib.zeros24 273)) A (by rw[Array.size_replicate];exact Lib.lt_pow_nDigits u) hu64 (by rw[Array.size_replicate];omega);rw[Array.size_replicate] at g;have K:=I A;have HF:=I g;have Y:=I (Tryz.internal_strconv_numDigits u hu1 hu64 (w.alloc (.cells Lib.zeros24 273)) (Lib.tabIs_alloc ht _));have t1: ¬ (u:Int) < 100:=by omega
  clear A G g hs;go_enter Tryz.func236,Tryz.ntmps236;go_wp2_with (go_at_call 229;refine Y.o.mono ?_;rintro e w' ⟨rfl,rfl⟩);go_at_call 230;refine HF.o.mono ?_;rintro e w' ⟨rfl,k,v',C,rfl,N⟩;have a3:(convert 188 9 (.slice (some ⟨w.heap.size,0,none⟩) (Lib.nDigits u) 24)).run Tryz.prog ((putRow (fun(b:UInt8)=>Value.int .u8 (b.toNat:Int)) (w.alloc (.cells Lib.zeros24 273)) w.heap.size 0 C).drewN k)= .ok (.string ⟨(Lib.decDigits u).toArray⟩) ((putRow (fun(b:UInt8)=>Value.int .u8 (b.toNat:Int)) (w.alloc (.cells Lib.zeros24 273)) w.heap.size 0 C).drewN k):=by
   have h:=run_convert_bytes_back (P:=Tryz.prog) ((putRow (fun(b:UInt8)=>Value.int .u8 (b.toNat:Int)) (w.alloc (.cells Lib.zeros24 273)) w.heap.size 0 C).drewN k) 188 9 5 ⟨w.heap.size,0,none⟩ 24 (Lib.decDigits u) Tryz.underlying188 Tryz.underlying5 Tryz.underlying9 (fun j hj=>by
    rw[Lib.row_is_numeral N j hj,Lib.add_plain,World.cell?_drewN];exact cell?_putRow (fun(b:UInt8)=>Value.int .u8 (b.toNat:Int)) _ w.heap.size 0 _ C K.o (by rw[N.size,Array.size_replicate]) j (by rw[N.size];rw[Lib.decDigits_length] at hj;exact hj))
   rw[Lib.decDigits_length] at h;exact h
  go_wp2;go_ret;obtain⟨os,eo⟩:=zeN w (.cells Lib.zeros24 273) C k;rw[eo];exact⟨rfl,z3J w k os⟩
theorem z60 (u:Nat) (hu1:1<=u) (hu64:u < 18446744073709551616) (w:World) (ht:TabP w):Calls Tryz.prog 216 #[.int .u64 u,.int .i64 10] w fun e w'=>e= .returned (.string ⟨(Lib.decDigits u).toArray⟩)/\Below w.heap.size w w':=by
 have H:=I (z7X u hu1 hu64 w ht);clear hu1 hu64 ht;go_enter Tryz.func216,Tryz.ntmps216;go_wp2_with (go_at_call 236;refine zg H.o ?_;intro z HB);go_ret;exact⟨rfl,HB.o⟩
theorem z8B (n:Int) (h0: -9223372036854775808<=n) (h1:n<=9223372036854775807) (w:World) (ht:TabP w):Calls Tryz.prog 217 #[.int .i64 n] w fun e w'=>e= .returned (.string ⟨(Lib.itoa n).toArray⟩)/\Below w.heap.size w w':=by
 have H:=I (Tryz.internal_strconv_Itoa n h0 h1 w ht);clear h0 h1 ht;go_enter Tryz.func217,Tryz.ntmps217;go_wp2_with (go_at_call 237;refine H.o.mono ?_;rintro e z ⟨rfl,k,C,g⟩;have A:=I g;clear g);go_ret;rw[A.o];exact⟨rfl,z3J w k C⟩
theorem z7W (n:Int) (h0: -9223372036854775808<=n) (h1:n<=9223372036854775807) (w:World) (ht:TabP w):Calls Tryz.prog 188 #[.int .i64 n,.int .i64 10] w fun e w'=>e= .returned (.string ⟨(Lib.itoa n).toArray⟩)/\Below w.heap.size w w':=by
 have H:=I (Tryz.internal_strconv_FormatInt_10 n h0 h1 w ht);clear h0 h1 ht;go_enter Tryz.func188,Tryz.ntmps188;go_wp2_with (go_at_call 212;refine H.o.mono ?_;rintro e z ⟨rfl,k,C,g⟩;have A:=I g;clear g);go_ret;rw[A.o];exact⟨rfl,z3J w k C⟩
theorem TabP.next {w w':World} (h:TabP w) (hb:Below w.heap.size w w'):TabP w':=by
 unfold TabP Lib.TabIs World.var? at*;cases hg:Tryz.prog.globalNamed "internal/strconv.uint64pow10" with
 |none=>simp[hg] at h
 |some g=>
  simp only[hg,Option.bind_some] at h ⊢;have C:g < w.heap.size:=by
   rcases Nat.lt_or_ge g w.heap.size with A|A
   ·exact A
   ·rw[Array.getElem?_eq_none A] at h;simp at h
  rw[hb.block g C];exact h
theorem zc5 {m:Nat} (h0:4503599627370496<=m) (h:m < 9007199254740992):floatToIntVal .f64 (4836865999795912704+m) .u64= some ((m:Nat):Int):=by
 obtain⟨l,rfl⟩:∃ l,m= 4503599627370496+l:=⟨m - 4503599627370496,by omega⟩;rw[show 4836865999795912704+ (4503599627370496+l)= 4841369599423283200+l by omega];exact zgN (by omega)
theorem zfi (f:Nat) (b:Bool) (h:decide (9223372036854775808<=f)= b):(if f < 9223372036854775808 then([]:List UInt8) else[45])= if b= true then[45] else[]:=by
 subst h;by_cases h:9223372036854775808<=f
 ·rw[if_neg (by omega),if_pos (by simpa using h)]
 ·rw[if_pos (by omega),if_neg (by simpa using h)]
theorem z13 (op:BinOp) (ho:op= .add\/op= .sub\/op= .mul\/op= .quo) (t:TypeId) (x y:Nat) (h:floatBits op .f64 x y= none) (w:World):
  ∃ n,n < 2 ^ 64/\9218868437227405312 < n % 9223372036854775808/\(binOp op t (.float .f64 x) (.float .f64 y)).run Tryz.prog w= .ok (.float .f64 n) w.drew:=by
 refine⟨Question.cut (.nanBits .f64 x y) (w.tape w.drawn (.nanBits .f64 x y)),?_,?_,?_⟩
 ·show(w.tape w.drawn (.nanBits .f64 x y)) % 2*2 ^ 63+0x7ff0000000000000+1+ ((w.tape w.drawn (.nanBits .f64 x y)) / 2) % (2 ^ 52 - 1) < 2 ^ 64
  omega
 ·have h3:(w.tape w.drawn (.nanBits .f64 x y)) / 2 % (2 ^ 52 - 1) < 2 ^ 52 - 1:=Nat.mod_lt _ (by decide)
  have h4:(w.tape w.drawn (.nanBits .f64 x y)) % 2 < 2:=Nat.mod_lt _ (by decide);show 9218868437227405312 <((w.tape w.drawn (.nanBits .f64 x y)) % 2*2 ^ 63+0x7ff0000000000000+1+ ((w.tape w.drawn (.nanBits .f64 x y)) / 2) % (2 ^ 52 - 1)) % 9223372036854775808;generalize (w.tape w.drawn (.nanBits .f64 x y)) / 2 % (2 ^ 52 - 1)= c at*;generalize (w.tape w.drawn (.nanBits .f64 x y)) % 2= b at*;have h5:b= 0\/b= 1:=by omega
  rcases h5 with rfl|rfl<;>omega
 ·rcases ho with rfl|rfl|rfl|rfl<;>(unfold floatBits at h;simp only at h;simp[binOp,Op.floatArith,h,choose];rfl)
theorem z7z {n m:Nat} (hn:n < 2 ^ 64) (h:9218868437227405312 < n % 9223372036854775808):FloatKind.f64.format.order n m= none:=
 z2q _ _ (.inl ((z2U hn).2 h))
theorem zeO {f:Nat} (hf:f < 2 ^ 64) (h: ¬ 9218868437227405312 < f % 9223372036854775808):(FloatKind.f64.format.order f f !=some .eq)= false:=by
 have h1:nanB f= false:=by
  rw[z1c,decide_eq_false];exact fun e=>h ((z2U hf).1 e)
 exact h1
theorem zeP {f:Nat} (hf:f < 2 ^ 64) (h:f % 9223372036854775808≠0):(FloatKind.f64.format.order f 0 ==some .eq)= false:=by
 rw[Bool.eq_false_iff];intro e;rcases z9n hf e with h1|h1<;>omega
theorem z2K (a b:List UInt8) (h:a.length+b.length<=1000000) (W:World):(Op.stringOp .add ⟨a.toArray⟩ ⟨b.toArray⟩).run Tryz.prog W= .ok (.string ⟨(a ++ b).toArray⟩) W:=by
 have h1:(Op.stringOp .add ⟨a.toArray⟩ ⟨b.toArray⟩).run Tryz.prog W= .ok (.string (⟨a.toArray⟩ ++ ⟨b.toArray⟩)) W:=run_string_add_sum W _ _ (by simp[ByteArray.size];omega);have h2:(⟨a.toArray⟩:ByteArray) ++ ⟨b.toArray⟩=⟨(a ++ b).toArray⟩:=by apply ByteArray.ext;simp[ByteArray.data_append]
 rw[h2] at h1;exact h1
theorem zcj (f:Nat) (hf:f < 2 ^ 64) (w:World) (ht:TabP w):Calls Tryz.prog 189 #[.float .f64 f] w fun e w'=>e= .returned (.string ⟨(textF f).toArray⟩)/\Below w.heap.size w w':=by
 have N:=I (fun w=>zfj f hf w);have A:=fun b=>zfi f b;unfold textF;by_cases hn:9218868437227405312 < f % 9223372036854775808
 ·rw[if_pos hn]
  have t1:(FloatKind.f64.format.order f f !=some .eq)= true:=by rw[z7z hf hn];rfl
  clear ht hf A hn;cases g:decide (9223372036854775808<=f)<;>rw[g] at N<;>clear g<;>go_enter Tryz.func189,Tryz.ntmps189
  all_goals
   go_wp2_with (go_at_call 213;refine(N.o _).mono ?_;rintro e z ⟨rfl,rfl⟩);go_ret;exact⟨rfl,Below.refl _ _⟩
 ·rw[if_neg hn]
  have t1:=zeO hf hn;by_cases hi:f % 9223372036854775808= 9218868437227405312
  ·rw[if_pos hi]
   have X:floatBits .sub .f64 f f= none:=by
    have hd:f= 9218868437227405312\/f= 18442240474082181120:=by omega
    rcases hd with rfl|rfl<;>decide +kernel
   obtain⟨n,n1,n2,n3⟩:=z13 .sub (.inr (.inl rfl)) 37 f f X w;have t2:(FloatKind.f64.format.order n 0 !=some .eq)= true:=by rw[z7z n1 n2];rfl
   have HW:Hid (Below w.heap.size w w.drew):=I (Below.refl _ w).drew;cases g:decide (9223372036854775808<=f) with
   |true=>
    rw[A _ g];rw[g] at N;clear ht hf A hn g hi n1 n2 X;go_enter Tryz.func189,Tryz.ntmps189;go_wp2_with (go_at_call 213;refine(N.o _).mono ?_;rintro e z ⟨rfl,rfl⟩);go_ret;exact⟨rfl,HW.o⟩
   |false=>
    rw[A _ g];rw[g] at N;clear ht hf A hn g hi n1 n2 X;go_enter Tryz.func189,Tryz.ntmps189;go_wp2_with (go_at_call 213;refine(N.o _).mono ?_;rintro e z ⟨rfl,rfl⟩);go_ret;exact⟨rfl,HW.o⟩
  ·rw[if_neg hi]
   have K:f % 9223372036854775808 < 9218868437227405312:=by omega
   have hq:∀ (t:TypeId) (w:World),(binOp .sub t (.float .f64 f) (.float .f64 f)).run Tryz.prog w= .ok (.float .f64 0) w:=fun t w=>run_float_arith w .sub t .f64 _ _ _ (zbk hf K);have t2:(FloatKind.f64.format.order 0 0 !=some .eq)= false:=by decide +kernel
   by_cases h0:f % 9223372036854775808= 0
   ·have t3:(FloatKind.f64.format.order f 0 ==some .eq)= true:=by
     have:f= 0\/f= 9223372036854775808:=by omega
     rcases this with rfl|rfl<;>decide +kernel
    have hp:Lib.decDigits (z12 (f % 9223372036854775808)).1 ++ (112::Lib.itoa (z12 (f % 9223372036854775808)).2)=[48,112,48]:=by
     rw[h0];show Lib.decDigits 0 ++ (112::Lib.itoa 0)= _;rw[show Lib.itoa 0= Lib.decDigits 0 from Lib.itoa_nonneg 0,Lib.decDigits_one (by decide)];decide
    rw[hp];cases g:decide (9223372036854775808<=f)<;>rw[A _ g]<;>rw[g] at N<;>clear ht hf A hn g hi K h0 hp<;>go_enter Tryz.func189,Tryz.ntmps189
    all_goals
     go_wp2_with (go_at_call 213;refine(N.o _).mono ?_;rintro e z ⟨rfl,rfl⟩);go_ret;exact⟨rfl,Below.refl _ _⟩
   ·have t3:=zeP hf h0
    have HA:=I (fun w=>z6E f hf w);generalize hr:f % 9223372036854775808= r at*;have HX:=I (fun w=>zci r (by omega) K w);have hm:=z4R (r:=r) (by omega);have hp:=z8X (r:=r) (by omega) K;have HY:=I (fun w=>zct (mantF r) hm.1 hm.2 w);have c7:∀ W:World,(convert 37 181 (.float .f64 (4836865999795912704+mantF r))).run Tryz.prog W= .ok (.int .u64 ((mantF r:Nat):Int)) W:=fun W=>run_convert_float_int W 37 181 .f64 .u64 _ _ (by kernel_rfl) Tryz.underlying181 (zc5 hm.1 hm.2);have a3:=I (RedAt.start (m:=mantF r) (e:=powF r) (by omega) (by omega));rw[← z8V (r:=r) (by omega)] at a3;have c9:wrap64 (powF r+53)= powF r+53:=by unfold wrap64;omega
    have d0:wrap64 (powF r+53 - 53)= powF r:=by unfold wrap64;omega
    have a7:=z8W (r:=r) K;have b0:=I a7;generalize z12 r= t at*;generalize powF r= p at*;generalize mantF r= m at*;cases g:decide (9223372036854775808<=f) with
    |true=>
     rw[A _ g];rw[g] at N;have HT:=I ht;clear ht A hn g hi h0 hr hm a7 hf;go_enter Tryz.func189,Tryz.ntmps189;go_wp2_with (first|(go_at_call 213;refine(N.o _).mono ?_;rintro e z ⟨rfl,rfl⟩)|(go_at_call 208;refine(HA.o _).mono ?_;rintro e z ⟨rfl,rfl⟩)|(go_at_call 214;refine(HX.o _).mono ?_;rintro e z ⟨rfl,rfl⟩)|(go_at_call 215;refine(HY.o _).mono ?_;rintro e z ⟨rfl,rfl⟩));go_loopg [5,6] m (fun q x y u=>∃ e:Int,x= .int .i64 e/\y= .int .u64 (q:Nat)/\RedAt t p q e/\u= z);case atStart=>exact⟨p,rfl,rfl,a3.o,rfl⟩
     case round=>
      obtain⟨e,rfl,rfl,G,rfl⟩:=hrel;have C:=I G;have O:=G.pow;have a8:wrap64 (e+1)= e+1:=by unfold wrap64;omega
      by_cases hodd:gk % 2= 0
      ·have t4:(gk:Int) % 2= 0:=by omega
       have HM:Hid (gk / 2 < gk):=I (by omega);have a1:Hid (IntKind.u64.wrap ((gk:Int) / 2)=((gk / 2:Nat):Int)):=I (by rw[IntKind.wrap_u64];omega);have a2:=I (C.o.next hodd);clear G C hodd O;go_wp2;go_roundg (gk / 2);case measure=>exact HM.o
       case rel=>exact⟨e+1,congrArg (Value.int .i64) a8,congrArg (Value.int .u64) a1.o,a2.o,rfl⟩
      ·have t4: ¬ (gk:Int) % 2= 0:=by omega
       have HV:Hid (t=(gk,e)):=I (C.o.stop hodd);have a5:=z6I (n:=gk) (by have:=b0.o;rw[HV.o] at this;omega);have a6:=z2M (n:=e) (by omega) (by omega);have c1:=z2K [45] (Lib.decDigits gk) (by simp;omega);have c2:=z2K ([45] ++ Lib.decDigits gk) [112] (by simp;omega);have c3:=z2K ([45] ++ Lib.decDigits gk ++ [112]) (Lib.itoa e) (by simp;omega);have cE:Hid ((⟨([45] ++ Lib.decDigits gk ++ [112] ++ Lib.itoa e).toArray⟩:ByteArray)=⟨([45] ++ (Lib.decDigits gk ++ (112::Lib.itoa e))).toArray⟩):=I (by simp);generalize (⟨([45] ++ Lib.decDigits gk).toArray⟩:ByteArray)= S1 at*;generalize (⟨([45] ++ Lib.decDigits gk ++ [112]).toArray⟩:ByteArray)= S2 at*;generalize (⟨([45] ++ Lib.decDigits gk ++ [112] ++ Lib.itoa e).toArray⟩:ByteArray)= S3 at*;clear a5 a6;have HU:=I (z60 gk (by omega) (by omega) wr HT.o);have HI:=I (fun z h=>z8B e (by omega) (by omega) z h);clear G C hodd O;go_wp2_with (first|(go_at_call 216;refine HU.o.mono ?_;rintro e z ⟨rfl,g⟩;have Y:=I g;have a4:=I (HT.o.next g);clear g)|(go_at_call 217;refine zg (HI.o _ a4.o) ?_;intro z a0));go_ret;have hv:=HV.o;subst hv;exact⟨congrArg (fun s=>Ending.returned (.string s)) cE.o,(beT Y.o a0.o)⟩
    |false=>
     rw[A _ g];rw[g] at N;have HT:=I ht;clear ht A hn g hi h0 hr hm a7 hf;go_enter Tryz.func189,Tryz.ntmps189;go_wp2_with (first|(go_at_call 213;refine(N.o _).mono ?_;rintro e z ⟨rfl,rfl⟩)|(go_at_call 208;refine(HA.o _).mono ?_;rintro e z ⟨rfl,rfl⟩)|(go_at_call 214;refine(HX.o _).mono ?_;rintro e z ⟨rfl,rfl⟩)|(go_at_call 215;refine(HY.o _).mono ?_;rintro e z ⟨rfl,rfl⟩));go_loopg [5,6] m (fun q x y u=>∃ e:Int,x= .int .i64 e/\y= .int .u64 (q:Nat)/\RedAt t p q e/\u= z);case atStart=>exact⟨p,rfl,rfl,a3.o,rfl⟩
     case round=>
      obtain⟨e,rfl,rfl,G,rfl⟩:=hrel;have C:=I G;have O:=G.pow;have a8:wrap64 (e+1)= e+1:=by unfold wrap64;omega
      by_cases hodd:gk % 2= 0
      ·have t4:(gk:Int) % 2= 0:=by omega
       have HM:Hid (gk / 2 < gk):=I (by omega);have a1:Hid (IntKind.u64.wrap ((gk:Int) / 2)=((gk / 2:Nat):Int)):=I (by rw[IntKind.wrap_u64];omega);have a2:=I (C.o.next hodd);clear G C hodd O;go_wp2;go_roundg (gk / 2);case measure=>exact HM.o
       case rel=>exact⟨e+1,congrArg (Value.int .i64) a8,congrArg (Value.int .u64) a1.o,a2.o,rfl⟩
      ·have t4: ¬ (gk:Int) % 2= 0:=by omega
       have HV:Hid (t=(gk,e)):=I (C.o.stop hodd);have a5:=z6I (n:=gk) (by have:=b0.o;rw[HV.o] at this;omega);have a6:=z2M (n:=e) (by omega) (by omega);have c1:=z2K [] (Lib.decDigits gk) (by simp;omega);have c2:=z2K ([] ++ Lib.decDigits gk) [112] (by simp;omega);have c3:=z2K ([] ++ Lib.decDigits gk ++ [112]) (Lib.itoa e) (by simp;omega);have cE:Hid ((⟨([] ++ Lib.decDigits gk ++ [112] ++ Lib.itoa e).toArray⟩:ByteArray)=⟨([] ++ (Lib.decDigits gk ++ (112::Lib.itoa e))).toArray⟩):=I (by simp);generalize (⟨([] ++ Lib.decDigits gk).toArray⟩:ByteArray)= S1 at*;generalize (⟨([] ++ Lib.decDigits gk ++ [112]).toArray⟩:ByteArray)= S2 at*;generalize (⟨([] ++ Lib.decDigits gk ++ [112] ++ Lib.itoa e).toArray⟩:ByteArray)= S3 at*;clear a5 a6;have HU:=I (z60 gk (by omega) (by omega) wr HT.o);have HI:=I (fun z h=>z8B e (by omega) (by omega) z h);clear G C hodd O;go_wp2_with (first|(go_at_call 216;refine HU.o.mono ?_;rintro e z ⟨rfl,g⟩;have Y:=I g;have a4:=I (HT.o.next g);clear g)|(go_at_call 217;refine zg (HI.o _ a4.o) ?_;intro z a0));go_ret;have hv:=HV.o;subst hv;exact⟨congrArg (fun s=>Ending.returned (.string s)) cE.o,(beT Y.o a0.o)⟩
end
section
open Go Go.RowKit
def DigAt (R:List UInt8) (q:Nat) (T:List UInt8):Prop:=Lib.decDigits q ++ T= R
theorem DigAt.next {R:List UInt8} {q:Nat} {T:List UInt8} (h:DigAt R q T) (hq: ¬ q < 10):DigAt R (q / 10) (UInt8.ofNat (48+q % 10)::T):=by
 unfold DigAt at*;rw[zeq hq] at h;rw[← h];simp
theorem DigAt.stop {R:List UInt8} {q:Nat} {T:List UInt8} (h:DigAt R q T) (hq:q < 10):UInt8.ofNat (48+q % 10)::T= R:=by
 unfold DigAt at h;rw[Lib.decDigits_one hq] at h;rw[← h,Nat.mod_eq_of_lt hq];rfl
theorem DigAt.len {R:List UInt8} {q:Nat} {T:List UInt8} (h:DigAt R q T):T.length<=R.length:=by
 unfold DigAt at h;rw[← h,List.length_append];omega
end
section
open Go Go.RowKit
theorem zgZ {f:Nat} (hf:f < 2 ^ 64) (h:(fOrd f 0 ==some .lt)= true):cmpF f 0 < 0:=by
 have g:nanB 0= false:=by decide +kernel
 have C:nanB f= false:=by
  rw[beq_iff_eq] at h;cases hb:nanB f with
  |false=>rfl
  |true=>
   have A:=z1c f;rw[hb] at A;have h1:nanD (dat f)≠0:=by simpa using A.symm
   rw[z3s,z2q _ _ (Or.inl h1)] at h;cases h
 unfold cmpF;rw[C,g,if_neg (by simp),if_neg (by simp),if_pos (Or.inl h)];decide
def negB (f:Nat):Bool:=decide (cmpF f 0 < 0)
def zB (t:VT):Bool:=decide (cntV t 0<=200) && zr t 1
def z0l (t:VT):Bool:=match t with
 | .mk k n f s ns its=>((k ==1) ||((k ==4) ||(((k ==2) && decide (0<=n)) ||((k ==3) && !(negB f))))) && zB t
end
section
open Go Go.RowKit
theorem z7e (t:VT) (cs:List Value) (w:World) (hv:ValAt w w.heap.size cs t):Calls Tryz.prog 112 #[.agg ⟨cs⟩] w fun e w'=>e= .returned (.bool (z0l t))/\Below w.heap.size w w':=by
 cases t with
 |mk k n f s ns its=>
 obtain⟨G,C,rfl,_,_,a7,_,_,_,_⟩:=hv.inv;have hf:=wf64 a7;have A:=I (zc w (.cells ⟨[.int .i64 k,.int .i64 n,.float .f64 f,.string s,G,C]⟩ 39));have N:=I (zv w [.int .i64 k,.int .i64 n,.float .f64 f,.string s,G,C] 39);have O:Hid (Calls Tryz.prog 35 #[.agg ⟨[.int .i64 k,.int .i64 n,.float .f64 f,.string s,G,C]⟩] (w.alloc (.cells ⟨[.int .i64 k,.int .i64 n,.float .f64 f,.string s,G,C]⟩ 39)) fun e w'=>e= .returned (.bool (zB (.mk k n f s ns its)))/\Below (w.alloc (.cells ⟨[.int .i64 k,.int .i64 n,.float .f64 f,.string s,G,C]⟩ 39)).heap.size (w.alloc (.cells ⟨[.int .i64 k,.int .i64 n,.float .f64 f,.string s,G,C]⟩ 39)) w'):=I (z1T _ _ _ (hv.next A.o));have d0:=zI w ⟨[.int .i64 k,.int .i64 n,.float .f64 f,.string s,G,C]⟩ 39 0;have d1:=zI w ⟨[.int .i64 k,.int .i64 n,.float .f64 f,.string s,G,C]⟩ 39 1;have d2:=zI w ⟨[.int .i64 k,.int .i64 n,.float .f64 f,.string s,G,C]⟩ 39 2;simp only[List.getElem?_toArray,List.getElem?_cons_succ,List.getElem?_cons_zero] at d0 d1 d2;have D1:=I d1;have D2:=I d2;have a9:=I (zy w (.cells ⟨[.int .i64 k,.int .i64 n,.float .f64 f,.string s,G,C]⟩ 39));have K:Hid (z0l (.mk k n f s ns its)=(((k ==1) ||((k ==4) ||(((k ==2) && decide (0<=n)) ||((k ==3) && !(negB f))))) && zB (.mk k n f s ns its))):=I rfl;clear hv a7;generalize zB (.mk k n f s ns its)= rr at*;rcases Classical.em (k= 1) with a2|a2
 ·subst a2
  have Y:Hid (z0l (.mk 1 n f s ns its)= rr):=I (by rw[K.o];cases rr<;>rfl);go_enter Tryz.func112,Tryz.ntmps112;go_upto_region 1 with (fail);generalize w.alloc (.cells ⟨[.int .i64 1,.int .i64 n,.float .f64 f,.string s,G,C]⟩ 39)= W at*;go_wp2_with (first|((with_reducible refine za tyK39 _ rfl ?_ N.o rfl ?_ ?_);exact wA rfl;rfl)|(go_at_call 35;refine zg O.o ?_;intro z g));go_ret;exact⟨z8 Y.o.symm,(beT A.o g.o)⟩
 rcases Classical.em (k= 4) with a5|a5
 ·subst a5
  have Y:Hid (z0l (.mk 4 n f s ns its)= rr):=I (by rw[K.o];cases rr<;>rfl);go_enter Tryz.func112,Tryz.ntmps112;go_upto_region 1 with (fail);generalize w.alloc (.cells ⟨[.int .i64 4,.int .i64 n,.float .f64 f,.string s,G,C]⟩ 39)= W at*;go_wp2_with (first|((with_reducible refine za tyK39 _ rfl ?_ N.o rfl ?_ ?_);exact wA rfl;rfl)|(go_at_call 35;refine zg O.o ?_;intro z g));go_ret;exact⟨z8 Y.o.symm,(beT A.o g.o)⟩
 rcases Classical.em (k= 2) with a3|a3
 ·subst a3
  by_cases hn:n < 0
  ·have a6: ¬ 0<=n:=by omega
   have Y:Hid (z0l (.mk 2 n f s ns its)= false):=I (by rw[K.o];rw[decide_eq_false a6];rfl);go_enter Tryz.func112,Tryz.ntmps112;go_upto_region 1 with (fail);generalize w.alloc (.cells ⟨[.int .i64 2,.int .i64 n,.float .f64 f,.string s,G,C]⟩ 39)= W at*;go_wp2_with (first|((with_reducible refine za tyK39 _ rfl ?_ N.o rfl ?_ ?_);exact wA rfl;rfl)|(go_at_call 35;refine zg O.o ?_;intro z g));go_ret;exact⟨z8 Y.o.symm,A.o⟩
  ·have a6:0<=n:=by omega
   have Y:Hid (z0l (.mk 2 n f s ns its)= rr):=I (by rw[K.o];rw[decide_eq_true a6];cases rr<;>rfl);go_enter Tryz.func112,Tryz.ntmps112;go_upto_region 1 with (fail);generalize w.alloc (.cells ⟨[.int .i64 2,.int .i64 n,.float .f64 f,.string s,G,C]⟩ 39)= W at*;go_wp2_with (first|((with_reducible refine za tyK39 _ rfl ?_ N.o rfl ?_ ?_);exact wA rfl;rfl)|(go_at_call 35;refine zg O.o ?_;intro z g));go_ret;exact⟨z8 Y.o.symm,(beT A.o g.o)⟩
 rcases Classical.em (k= 3) with a4|a4
 ·subst a4
  have a0:=I (fun w=>z16 f 0 hf (by decide) w);cases hlt:(fOrd f 0 ==some .lt) with
  |true=>
   have X:negB f= true:=decide_eq_true (zgZ hf hlt);have t1:(FloatKind.f64.format.order f 0 ==some .lt)= true:=hlt;clear hlt;have Y:Hid (z0l (.mk 3 n f s ns its)= false):=I (by rw[K.o];rw[X];rfl);go_enter Tryz.func112,Tryz.ntmps112;go_upto_region 1 with (fail);generalize w.alloc (.cells ⟨[.int .i64 3,.int .i64 n,.float .f64 f,.string s,G,C]⟩ 39)= W at*;go_wp2_with (first|((with_reducible refine za tyK39 _ rfl ?_ N.o rfl ?_ ?_);exact wA rfl;rfl)|(go_at_call 35;refine zg O.o ?_;intro z g)|(go_at_call 144;refine(a0.o _).mono ?_;rintro e z ⟨rfl,rfl⟩));go_ret;exact⟨z8 Y.o.symm,A.o⟩
  |false=>
   have t1:(FloatKind.f64.format.order f 0 ==some .lt)= false:=hlt;clear hlt;by_cases hc:cmpF f 0 < 0
   ·have X:negB f= true:=decide_eq_true hc
    have a1:=I X;generalize cmpF f 0= cf at*;have Y:Hid (z0l (.mk 3 n f s ns its)= false):=I (by rw[K.o];rw[a1.o];rfl);go_enter Tryz.func112,Tryz.ntmps112;go_upto_region 1 with (fail);generalize w.alloc (.cells ⟨[.int .i64 3,.int .i64 n,.float .f64 f,.string s,G,C]⟩ 39)= W at*;go_wp2_with (first|((with_reducible refine za tyK39 _ rfl ?_ N.o rfl ?_ ?_);exact wA rfl;rfl)|(go_at_call 35;refine zg O.o ?_;intro z g)|(go_at_call 144;refine(a0.o _).mono ?_;rintro e z ⟨rfl,rfl⟩));go_ret;exact⟨z8 Y.o.symm,A.o⟩
   ·have X:negB f= false:=decide_eq_false hc
    have a1:=I X;generalize cmpF f 0= cf at*;have Y:Hid (z0l (.mk 3 n f s ns its)= rr):=I (by rw[K.o];rw[a1.o];cases rr<;>rfl);go_enter Tryz.func112,Tryz.ntmps112;go_upto_region 1 with (fail);generalize w.alloc (.cells ⟨[.int .i64 3,.int .i64 n,.float .f64 f,.string s,G,C]⟩ 39)= W at*;go_wp2_with (first|((with_reducible refine za tyK39 _ rfl ?_ N.o rfl ?_ ?_);exact wA rfl;rfl)|(go_at_call 35;refine zg O.o ?_;intro z g)|(go_at_call 144;refine(a0.o _).mono ?_;rintro e z ⟨rfl,rfl⟩));go_ret;exact⟨z8 Y.o.symm,(beT A.o g.o)⟩
 have e1:(k ==1)= false:=by rw[beq_eq_false_iff_ne];exact a2
 have e4:(k ==4)= false:=by rw[beq_eq_false_iff_ne];exact a5
 have e2:(k ==2)= false:=by rw[beq_eq_false_iff_ne];exact a3
 have e3:(k ==3)= false:=by rw[beq_eq_false_iff_ne];exact a4
 have Y:Hid (z0l (.mk k n f s ns its)= false):=I (by rw[K.o];rw[e1,e2,e3,e4];rfl);go_enter Tryz.func112,Tryz.ntmps112;go_upto_region 1 with (fail);generalize w.alloc (.cells ⟨[.int .i64 k,.int .i64 n,.float .f64 f,.string s,G,C]⟩ 39)= W at*;go_wp2_with (first|((with_reducible refine za tyK39 _ rfl ?_ N.o rfl ?_ ?_);exact wA rfl;rfl)|(go_at_call 35;refine zg O.o ?_;intro z g));go_ret;exact⟨z8 Y.o.symm,A.o⟩
end
section
open Go Go.RowKit
def kidsB (z:Int) (n:Nat):Bool:=!(z == -2) && (decide (z < 0) ||((n:Int) ==z))
def noneV:VT->Bool
 | .mk k n f s ns its=>noneB k n f s ns.length its.length
def valB (k:Int) (v:VT):Bool:=if k= 1 then z0l v else noneV v
mutual
def z0h:ET->Nat->Bool
 | .mk k s v ns its,d=>decide (d<=12) && (kidsB (z0V k) its.length && (zR k s ns its.length && (valB k v && z09 its (d+1))))
def z09:List ET->Nat->Bool
 |[],_=>true
 |a::l,d=>z0h a d && z09 l d
end
theorem z21 {l:List ET} {j d:Nat} {x:ET} (h:l[j]?= some x):z09 (l.drop j) d=(z0h x d && z09 (l.drop (j+1)) d):=by
 rw[z5r h,z09]
theorem z2f {l:List ET} {d:Nat}:z09 (l.drop l.length) d= true:=by
 rw[List.drop_eq_nil_of_le (Nat.le_refl _),z09]
theorem z9Y (k:Int): -2<=z0V k/\z0V k<=3:=by
 unfold z0V
 (repeat' split)<;>omega
theorem z5S {w:World} {p o i:Nat} {cs ds:List Value} (h:w.rangeAt p o cs) (hd:∀ j v,ds[j]?= some v->cs[i+j]?= some v):w.rangeAt p (o+i) ds:=fun j v hv=>by
 have:=h (i+j) v (hd j v hv)
 rw[show o+i+j= o+ (i+j) by omega];exact this
theorem z4D {w w':World} {p o:Nat} {cs:List Value} (h:w.rangeAt p o cs) (hb:Below w.heap.size w w') (hp:p < w.heap.size):w'.rangeAt p o cs:=zb h hb hp
theorem zb7:∀ (t:ET) (d:Nat) (cs:List Value) (p o:Nat) (w:World),d<=13->w.rangeAt p o cs->ExpAt w w.heap.size cs t->
  Calls Tryz.prog 70 #[.pointer (some ⟨p,o,none⟩),.int .i64 d] w fun e w'=>e= .returned (.bool (z0h t d))/\Below w.heap.size w w':=by
 intro t
 induction t using ET.ind with
 |h k s v ns its ih=>
  intro d cs p o w g0 hr hv;have IH:=I ih;obtain⟨v0,v1,v2,v3,v4,v5,g6,g5,rfl,_,_,d3,d2,f6,hi⟩:=hv.inv;obtain⟨_,A,c,rfl,hA⟩:=hi;obtain⟨_,NA,nc,rfl,_⟩:=id d2;cases v with
  |mk vk vn vf vs vns vits=>
  obtain⟨u0,u1,e4,_,_,e7,_,e8,_,f8⟩:=d3.inv;obtain⟨_,VA,vc,rfl,_⟩:=e8;obtain⟨_,VD,vd,rfl,_⟩:=f8;simp only[List.cons.injEq,and_true] at e4;obtain⟨rfl,rfl,rfl,rfl,rfl,rfl⟩:=e4;have c7:=wf64 e7;have HA:=I hA;have d0:w.cell? ⟨p,o,none⟩= some (.int .i64 k):=hr 0 _ rfl;have d9:w.cell? ⟨p,o+9,none⟩= some (.slice A its.length c):=hr 9 _ rfl;have K:Hid (p < w.heap.size):=I (z2L d0);have D0:=I d0;have D9:=I d9;have d8:Hid (w.rangeAt p (o+2) [.int .i64 vk,.int .i64 vn,.float .f64 vf,.string vs,.slice VA vns.length vc,.slice VD vits.length vd]):=I (z5S hr (fun j x h=>match j,h with|0,h=>h|1,h=>h|2,h=>h|3,h=>h|4,h=>h|5,h=>h|j+6,h=>by simp at h));have b6:=I (zcG k p o s (.int .i64 vk) (.int .i64 vn) (.float .f64 vf) (.string vs) (.slice VA vns.length vc) (.slice VD vits.length vd) NA A nc its.length c ns w hr d2);have b2:=I (fun w=>zeY k w);have e1:=I d3;have e0:=I c7;have N:Hid (z0h (.mk k s (.mk vk vn vf vs vns vits) ns its) d=(decide (d<=12) && (kidsB (z0V k) its.length && (zR k s ns its.length && (valB k (.mk vk vn vf vs vns vits) && z09 its (d+1)))))):=I (by rw[z0h]);have f4:=z9Y k;obtain⟨zz,hz⟩:∃ z,z0V k= z:=⟨_,rfl⟩;rw[hz] at b2 N f4;unfold maxLen at f6;clear hr hv ih hA d2 e7 c7 d3 hz;generalize z0h (.mk k s (.mk vk vn vf vs vns vits) ns its) d= res at*;by_cases hd:d<=12
  ·have f5: ¬ ((d:Int) > 12):=by omega
   have HD:=I hd;by_cases hz2:zz= -2
   ·have e2:(zz == -2)= true:=by simpa using hz2
    have HR:Hid (res= false):=I (by rw[N.o,(by unfold kidsB;rw[e2];rfl:kidsB zz its.length= false)];simp);go_enter Tryz.func70,Tryz.ntmps70;go_wp2_with (go_at_call 110;refine ze (b2.o _) ?_);go_ret;exact⟨z8 HR.o.symm,Below.refl _ _⟩
   have e2:(zz == -2)= false:=by simpa using hz2
   by_cases hko:kidsB zz its.length= false
   ·have b7:0<=zz/\¬ (its.length:Int)= zz:=by
     unfold kidsB at hko;rw[e2] at hko;simp at hko;omega
    obtain⟨b7,c5⟩:=b7;have HR:Hid (res= false):=I (by rw[N.o,hko];simp);go_enter Tryz.func70,Tryz.ntmps70;go_wp2_with (go_at_call 110;refine ze (b2.o _) ?_);go_ret;exact⟨z8 HR.o.symm,Below.refl _ _⟩
   have a8:kidsB zz its.length= true:=by simpa using hko
   have f3:=I a8;have e9:zz < 0\/(its.length:Int)= zz:=by
    unfold kidsB at a8;rw[e2] at a8;simp at a8;exact a8
   clear hko a8;rw[f3.o,decide_eq_true HD.o,Bool.true_and,Bool.true_and] at N;cases hnm:zR k s ns its.length with
   |false=>
    rw[hnm] at b6 N;clear hnm;rcases e9 with b7|c5
    ·have c4: ¬ (0<=zz):=by omega
     clear b7;have HR:Hid (res= false):=I (N.o.trans (Bool.false_and _));go_enter Tryz.func70,Tryz.ntmps70;go_wp2_with (first|(go_at_call 110;refine ze (b2.o _) ?_)|(go_at_call 111;refine b6.o.mono ?_;rintro e w1 ⟨rfl,X⟩;have g:=I X;have x0:=(X.cell (p:=⟨p,o,none⟩) K.o).trans D0.o;have x9:=(X.cell (p:=⟨p,o+9,none⟩) K.o).trans D9.o;clear X));go_ret;exact⟨z8 HR.o.symm,g.o⟩
    ·subst c5
     have c4:0<=(its.length:Int):=by omega
     have HR:Hid (res= false):=I (N.o.trans (Bool.false_and _));go_enter Tryz.func70,Tryz.ntmps70;go_wp2_with (first|(go_at_call 110;refine ze (b2.o _) ?_)|(go_at_call 111;refine b6.o.mono ?_;rintro e w1 ⟨rfl,X⟩;have g:=I X;have x0:=(X.cell (p:=⟨p,o,none⟩) K.o).trans D0.o;have x9:=(X.cell (p:=⟨p,o+9,none⟩) K.o).trans D9.o;clear X));go_ret;exact⟨z8 HR.o.symm,g.o⟩
   |true=>
    rw[hnm,Bool.true_and] at N;rw[hnm] at b6;clear hnm;rcases e9 with b7|c5
    ·have c4: ¬ (0<=zz):=by omega
     clear b7;go_enter Tryz.func70,Tryz.ntmps70;go_upto_region 4 with (first|(go_at_call 110;refine ze (b2.o _) ?_)|(go_at_call 111;refine b6.o.mono ?_;rintro e w1 ⟨rfl,X⟩;have g:=I X;have x0:=(X.cell (p:=⟨p,o,none⟩) K.o).trans D0.o;have x9:=(X.cell (p:=⟨p,o+9,none⟩) K.o).trans D9.o;clear X));have X9:=I x9;have X0:=I x0;have a4:=I (z4D d8.o g.o K.o);clear x9;by_cases hk1:k= 1
     ·subst hk1
      have O:=I (z7e (.mk vk vn vf vs vns vits) [.int .i64 vk,.int .i64 vn,.float .f64 vf,.string vs,.slice VA vns.length vc,.slice VD vits.length vd] w1 ((e1.o.under g.o).more g.o.size));have G:valB 1 (.mk vk vn vf vs vns vits)= z0l (.mk vk vn vf vs vns vits):=by unfold valB;rw[if_pos rfl]
      rw[G] at N;cases hvb:z0l (.mk vk vn vf vs vns vits) with
      |false=>
       have HR:Hid (res= false):=I (N.o.trans (by rw[hvb];exact Bool.false_and _));rw[hvb] at O;clear hvb G;go_wp2_with (first|((with_reducible refine za tyK39 _ rfl ?_ a4.o rfl ?_ ?_);exact wA rfl;rfl)|(go_at_call 112;refine O.o.mono ?_;rintro e w2 ⟨rfl,X⟩;have b3:=I X;have y0:=(X.cell (p:=⟨p,o,none⟩) (Nat.lt_of_lt_of_le K.o g.o.size)).trans X0.o;have y9:=(X.cell (p:=⟨p,o+9,none⟩) (Nat.lt_of_lt_of_le K.o g.o.size)).trans X9.o;clear X));go_ret;exact⟨z8 HR.o.symm,(beT g.o b3.o)⟩
      |true=>
       have b4:Hid (res= z09 its (d+1)):=I (N.o.trans (by rw[hvb,Bool.true_and]));rw[hvb] at O;clear hvb G;go_upto_region 7 with (first|((with_reducible refine za tyK39 _ rfl ?_ a4.o rfl ?_ ?_);exact wA rfl;rfl)|(go_at_call 112;refine O.o.mono ?_;rintro e w2 ⟨rfl,X⟩;have b3:=I X;have y0:=(X.cell (p:=⟨p,o,none⟩) (Nat.lt_of_lt_of_le K.o g.o.size)).trans X0.o;have y9:=(X.cell (p:=⟨p,o+9,none⟩) (Nat.lt_of_lt_of_le K.o g.o.size)).trans X9.o;clear X));clear y9;go_loopg [68] its.length (fun q x u=>∃ j:Nat,j+q= its.length/\x= .int .i64 j/\Below w.heap.size w u/\z09 (its.drop j) (d+1)= res);case atStart=>exact⟨0,by omega,rfl,(beT g.o b3.o),b4.o.symm⟩
       case round=>
        obtain⟨j,hj,rfl,a3,Y⟩:=hrel;have C:=I a3;have HR:=I Y;have u9:=(a3.cell (p:=⟨p,o+9,none⟩) K.o).trans D9.o;clear a3 Y;cases gk with
        |zero=>
         obtain rfl:j= its.length:=by omega
         have c9: ¬ ((its.length:Int) <(its.length:Int)):=by omega
         have HV:=I (HR.o.symm.trans z2f);go_wp2;go_ret;exact⟨z8 HV.o.symm,C.o⟩
        |succ q=>
         have d1:(j:Int) <(its.length:Int):=by omega
         obtain⟨y,hy⟩:∃ y,its[j]?= some y:=⟨_,List.getElem?_eq_getElem (by omega)⟩;obtain⟨b,ob,rfl,a5,hc⟩:=HA.o (by omega);obtain⟨ks,b5,a6,a7⟩:=hc j y hy;have HV:=I (HR.o.symm.trans (z21 hy));have HC:=I (IH.o y (List.mem_of_getElem? hy) (d+1) ks b (ob+j*10) wr (by omega) (zb a6 C.o a5) ((a7.under C.o).more C.o.size));clear hc a6 a7 hy HR b5 a5;cases hrc:z0h y (d+1) with
         |false=>
          have a2:Hid (res= false):=I (HV.o.trans (by rw[hrc];exact Bool.false_and _));rw[hrc] at HC;clear hrc;go_wp2_with (go_at_call 70;refine zg HC.o ?_;intro w4 a1);go_ret;exact⟨z8 a2.o.symm,(beT C.o a1.o)⟩
         |true=>
          have a2:=I (HV.o.trans (by rw[hrc,Bool.true_and]));rw[hrc] at HC;clear hrc;go_wp2_with (go_at_call 70;refine zg HC.o ?_;intro w4 a1);go_roundg q;case measure=>omega
          case rel=>exact⟨j+1,by omega,by go_num,(beT C.o a1.o),a2.o.symm⟩
     ·have e5:(k !=1)= true:=by simpa using hk1
      have O:=I (z5f p (o+2) vk vn vf vs VA VD vns.length vits.length vc vd w1 e0.o a4.o);have G:valB k (.mk vk vn vf vs vns vits)= noneB vk vn vf vs vns.length vits.length:=by unfold valB;rw[if_neg hk1];rfl
      rw[G] at N;have x9:=X9.o;cases hvb:noneB vk vn vf vs vns.length vits.length with
      |false=>
       have HR:Hid (res= false):=I (N.o.trans (by rw[hvb];exact Bool.false_and _));rw[hvb] at O;clear hvb G;go_wp2_with (go_at_call 113;refine ze O.o ?_);go_ret;exact⟨z8 HR.o.symm,g.o⟩
      |true=>
       have b4:Hid (res= z09 its (d+1)):=I (N.o.trans (by rw[hvb,Bool.true_and]));rw[hvb] at O;clear hvb G;go_upto_region 7 with (go_at_call 113;refine ze O.o ?_);clear x9;go_loopg [68] its.length (fun q x u=>∃ j:Nat,j+q= its.length/\x= .int .i64 j/\Below w.heap.size w u/\z09 (its.drop j) (d+1)= res);case atStart=>exact⟨0,by omega,rfl,g.o,b4.o.symm⟩
       case round=>
        obtain⟨j,hj,rfl,a3,Y⟩:=hrel;have C:=I a3;have HR:=I Y;have u9:=(a3.cell (p:=⟨p,o+9,none⟩) K.o).trans D9.o;clear a3 Y;cases gk with
        |zero=>
         obtain rfl:j= its.length:=by omega
         have c9: ¬ ((its.length:Int) <(its.length:Int)):=by omega
         have HV:=I (HR.o.symm.trans z2f);go_wp2;go_ret;exact⟨z8 HV.o.symm,C.o⟩
        |succ q=>
         have d1:(j:Int) <(its.length:Int):=by omega
         obtain⟨y,hy⟩:∃ y,its[j]?= some y:=⟨_,List.getElem?_eq_getElem (by omega)⟩;obtain⟨b,ob,rfl,a5,hc⟩:=HA.o (by omega);obtain⟨ks,b5,a6,a7⟩:=hc j y hy;have HV:=I (HR.o.symm.trans (z21 hy));have HC:=I (IH.o y (List.mem_of_getElem? hy) (d+1) ks b (ob+j*10) wr (by omega) (zb a6 C.o a5) ((a7.under C.o).more C.o.size));clear hc a6 a7 hy HR b5 a5;cases hrc:z0h y (d+1) with
         |false=>
          have a2:Hid (res= false):=I (HV.o.trans (by rw[hrc];exact Bool.false_and _));rw[hrc] at HC;clear hrc;go_wp2_with (go_at_call 70;refine zg HC.o ?_;intro w4 a1);go_ret;exact⟨z8 a2.o.symm,(beT C.o a1.o)⟩
         |true=>
          have a2:=I (HV.o.trans (by rw[hrc,Bool.true_and]));rw[hrc] at HC;clear hrc;go_wp2_with (go_at_call 70;refine zg HC.o ?_;intro w4 a1);go_roundg q;case measure=>omega
          case rel=>exact⟨j+1,by omega,by go_num,(beT C.o a1.o),a2.o.symm⟩
    ·subst c5
     have c4:0<=(its.length:Int):=by omega
     go_enter Tryz.func70,Tryz.ntmps70;go_upto_region 4 with (first|(go_at_call 110;refine ze (b2.o _) ?_)|(go_at_call 111;refine b6.o.mono ?_;rintro e w1 ⟨rfl,X⟩;have g:=I X;have x0:=(X.cell (p:=⟨p,o,none⟩) K.o).trans D0.o;have x9:=(X.cell (p:=⟨p,o+9,none⟩) K.o).trans D9.o;clear X));have X9:=I x9;have X0:=I x0;have a4:=I (z4D d8.o g.o K.o);clear x9;by_cases hk1:k= 1
     ·subst hk1
      have O:=I (z7e (.mk vk vn vf vs vns vits) [.int .i64 vk,.int .i64 vn,.float .f64 vf,.string vs,.slice VA vns.length vc,.slice VD vits.length vd] w1 ((e1.o.under g.o).more g.o.size));have G:valB 1 (.mk vk vn vf vs vns vits)= z0l (.mk vk vn vf vs vns vits):=by unfold valB;rw[if_pos rfl]
      rw[G] at N;cases hvb:z0l (.mk vk vn vf vs vns vits) with
      |false=>
       have HR:Hid (res= false):=I (N.o.trans (by rw[hvb];exact Bool.false_and _));rw[hvb] at O;clear hvb G;go_wp2_with (first|((with_reducible refine za tyK39 _ rfl ?_ a4.o rfl ?_ ?_);exact wA rfl;rfl)|(go_at_call 112;refine O.o.mono ?_;rintro e w2 ⟨rfl,X⟩;have b3:=I X;have y0:=(X.cell (p:=⟨p,o,none⟩) (Nat.lt_of_lt_of_le K.o g.o.size)).trans X0.o;have y9:=(X.cell (p:=⟨p,o+9,none⟩) (Nat.lt_of_lt_of_le K.o g.o.size)).trans X9.o;clear X));go_ret;exact⟨z8 HR.o.symm,(beT g.o b3.o)⟩
      |true=>
       have b4:Hid (res= z09 its (d+1)):=I (N.o.trans (by rw[hvb,Bool.true_and]));rw[hvb] at O;clear hvb G;go_upto_region 7 with (first|((with_reducible refine za tyK39 _ rfl ?_ a4.o rfl ?_ ?_);exact wA rfl;rfl)|(go_at_call 112;refine O.o.mono ?_;rintro e w2 ⟨rfl,X⟩;have b3:=I X;have y0:=(X.cell (p:=⟨p,o,none⟩) (Nat.lt_of_lt_of_le K.o g.o.size)).trans X0.o;have y9:=(X.cell (p:=⟨p,o+9,none⟩) (Nat.lt_of_lt_of_le K.o g.o.size)).trans X9.o;clear X));clear y9;go_loopg [68] its.length (fun q x u=>∃ j:Nat,j+q= its.length/\x= .int .i64 j/\Below w.heap.size w u/\z09 (its.drop j) (d+1)= res);case atStart=>exact⟨0,by omega,rfl,(beT g.o b3.o),b4.o.symm⟩
       case round=>
        obtain⟨j,hj,rfl,a3,Y⟩:=hrel;have C:=I a3;have HR:=I Y;have u9:=(a3.cell (p:=⟨p,o+9,none⟩) K.o).trans D9.o;clear a3 Y;cases gk with
        |zero=>
         obtain rfl:j= its.length:=by omega
         have c9: ¬ ((its.length:Int) <(its.length:Int)):=by omega
         have HV:=I (HR.o.symm.trans z2f);go_wp2;go_ret;exact⟨z8 HV.o.symm,C.o⟩
        |succ q=>
         have d1:(j:Int) <(its.length:Int):=by omega
         obtain⟨y,hy⟩:∃ y,its[j]?= some y:=⟨_,List.getElem?_eq_getElem (by omega)⟩;obtain⟨b,ob,rfl,a5,hc⟩:=HA.o (by omega);obtain⟨ks,b5,a6,a7⟩:=hc j y hy;have HV:=I (HR.o.symm.trans (z21 hy));have HC:=I (IH.o y (List.mem_of_getElem? hy) (d+1) ks b (ob+j*10) wr (by omega) (zb a6 C.o a5) ((a7.under C.o).more C.o.size));clear hc a6 a7 hy HR b5 a5;cases hrc:z0h y (d+1) with
         |false=>
          have a2:Hid (res= false):=I (HV.o.trans (by rw[hrc];exact Bool.false_and _));rw[hrc] at HC;clear hrc;go_wp2_with (go_at_call 70;refine zg HC.o ?_;intro w4 a1);go_ret;exact⟨z8 a2.o.symm,(beT C.o a1.o)⟩
         |true=>
          have a2:=I (HV.o.trans (by rw[hrc,Bool.true_and]));rw[hrc] at HC;clear hrc;go_wp2_with (go_at_call 70;refine zg HC.o ?_;intro w4 a1);go_roundg q;case measure=>omega
          case rel=>exact⟨j+1,by omega,by go_num,(beT C.o a1.o),a2.o.symm⟩
     ·have e5:(k !=1)= true:=by simpa using hk1
      have O:=I (z5f p (o+2) vk vn vf vs VA VD vns.length vits.length vc vd w1 e0.o a4.o);have G:valB k (.mk vk vn vf vs vns vits)= noneB vk vn vf vs vns.length vits.length:=by unfold valB;rw[if_neg hk1];rfl
      rw[G] at N;have x9:=X9.o;cases hvb:noneB vk vn vf vs vns.length vits.length with
      |false=>
       have HR:Hid (res= false):=I (N.o.trans (by rw[hvb];exact Bool.false_and _));rw[hvb] at O;clear hvb G;go_wp2_with (go_at_call 113;refine ze O.o ?_);go_ret;exact⟨z8 HR.o.symm,g.o⟩
      |true=>
       have b4:Hid (res= z09 its (d+1)):=I (N.o.trans (by rw[hvb,Bool.true_and]));rw[hvb] at O;clear hvb G;go_upto_region 7 with (go_at_call 113;refine ze O.o ?_);clear x9;go_loopg [68] its.length (fun q x u=>∃ j:Nat,j+q= its.length/\x= .int .i64 j/\Below w.heap.size w u/\z09 (its.drop j) (d+1)= res);case atStart=>exact⟨0,by omega,rfl,g.o,b4.o.symm⟩
       case round=>
        obtain⟨j,hj,rfl,a3,Y⟩:=hrel;have C:=I a3;have HR:=I Y;have u9:=(a3.cell (p:=⟨p,o+9,none⟩) K.o).trans D9.o;clear a3 Y;cases gk with
        |zero=>
         obtain rfl:j= its.length:=by omega
         have c9: ¬ ((its.length:Int) <(its.length:Int)):=by omega
         have HV:=I (HR.o.symm.trans z2f);go_wp2;go_ret;exact⟨z8 HV.o.symm,C.o⟩
        |succ q=>
         have d1:(j:Int) <(its.length:Int):=by omega
         obtain⟨y,hy⟩:∃ y,its[j]?= some y:=⟨_,List.getElem?_eq_getElem (by omega)⟩;obtain⟨b,ob,rfl,a5,hc⟩:=HA.o (by omega);obtain⟨ks,b5,a6,a7⟩:=hc j y hy;have HV:=I (HR.o.symm.trans (z21 hy));have HC:=I (IH.o y (List.mem_of_getElem? hy) (d+1) ks b (ob+j*10) wr (by omega) (zb a6 C.o a5) ((a7.under C.o).more C.o.size));clear hc a6 a7 hy HR b5 a5;cases hrc:z0h y (d+1) with
         |false=>
          have a2:Hid (res= false):=I (HV.o.trans (by rw[hrc];exact Bool.false_and _));rw[hrc] at HC;clear hrc;go_wp2_with (go_at_call 70;refine zg HC.o ?_;intro w4 a1);go_ret;exact⟨z8 a2.o.symm,(beT C.o a1.o)⟩
         |true=>
          have a2:=I (HV.o.trans (by rw[hrc,Bool.true_and]));rw[hrc] at HC;clear hrc;go_wp2_with (go_at_call 70;refine zg HC.o ?_;intro w4 a1);go_roundg q;case measure=>omega
          case rel=>exact⟨j+1,by omega,by go_num,(beT C.o a1.o),a2.o.symm⟩
  ·have f5:(d:Int) > 12:=by omega
   have HR:Hid (res= false):=I (by rw[N.o,decide_eq_false hd];simp);go_enter Tryz.func70,Tryz.ntmps70;go_wp2_with (go_at_call 110;refine ze (b2.o _) ?_);go_ret;exact⟨z8 HR.o.symm,Below.refl _ _⟩
def zZ (t:ET):Bool:=decide (cntE t 0<=200) && z0h t 1
theorem z6S (t:ET) (cs:List Value) (w:World) (hv:ExpAt w w.heap.size cs t):Calls Tryz.prog 36 #[.agg ⟨cs⟩] w fun e w'=>e= .returned (.bool (zZ t))/\Below w.heap.size w w':=by
 have C:=I (eslen hv);have A:=I (zc w (.cells ⟨cs⟩ 47));have K:=I (zv w cs 47);have X:=I ((hv.under A.o).more A.o.size);have Y:=I (zy w (.cells ⟨cs⟩ 47));clear hv;go_enter Tryz.func36,Tryz.ntmps36;go_upto_region 1 with (fail);generalize w.alloc (.cells ⟨cs⟩ 47)= W at*;have O:=I (zaL t cs W X.o);by_cases h:cntE t 0<=200
 ·have h2:(cntE t 0:Int)<=200:=by omega
  have N:Hid (zZ t= z0h t 1):=I (by unfold zZ;rw[decide_eq_true h,Bool.true_and]);clear h;go_wp2_with (first|((with_reducible refine za tyK47 _ rfl ?_ K.o rfl C.o ?_);exact wA rfl)|(go_at_call 69;refine zg O.o ?_;intro z g)|(go_at_call 70;refine zg (zb7 t 1 cs w.heap.size 0 z (by omega) (zb K.o g.o Y.o) ((X.o.under g.o).more g.o.size)) ?_;intro z2 G));go_ret;exact⟨z8 N.o.symm,(beT A.o g.o).trans (G.o.mono (Nat.le_trans A.o.size g.o.size))⟩
 ·have h2: ¬ (cntE t 0:Int)<=200:=by omega
  have N:Hid (zZ t= false):=I (by unfold zZ;rw[decide_eq_false h];rfl);clear h;go_wp2_with (first|((with_reducible refine za tyK47 _ rfl ?_ K.o rfl C.o ?_);exact wA rfl)|(go_at_call 69;refine zg O.o ?_;intro z g));go_ret;exact⟨z8 N.o.symm,(beT A.o g.o)⟩
end
end Go.Proofs.YtpmjcbjdcjjplaaGreatDoor
