/- Parts of a proof: FText, RDig, EConst, EConst2, ERight. -/
import Derived.Lib.ItoaMem
import Derived.Laws.BytesString
import Derived.Test.YtdjfpcmlffekkaaGreatDoorPackG11
import Derived.Test.YtdjfpcmlffekkaaGreatDoorPackG12
import Derived.Test.YtdjfpcmlffekkaaGreatDoorPackG20
import Derived.Test.YtdjfpcmlffekkaaGreatDoorPackG21
import Derived.Test.YtdjfpcmlffekkaaGreatDoorPackG22
import Derived.Test.YtdjfpcmlffekkaaGreatDoorPackG23
set_option maxHeartbeats 8000000
set_option maxRecDepth 100000
set_option linter.unusedVariables false
set_option linter.unusedSimpArgs false
namespace Go.Proofs.YtdjfpcmlffekkaaGreatDoor
section
open Go Go.RowKit Go.Sort Go.Lib
def TabP (w:World):Prop:=Lib.TabIs Tryz.prog w "internal/strconv.uint64pow10" .u64 Lib.pow10Tab
theorem z33 (w:World) (k:Nat) (os:Array Obj):Below w.heap.size w (Sort.grow (w.drewN k) os):=by
 have h1:Below w.heap.size w (w.drewN k):=⟨rfl,rfl,rfl,Nat.le_refl _,fun _ _=>rfl⟩;refine h1.trans ?_;refine⟨rfl,rfl,rfl,?_,fun i hi=> ?_⟩
 ·show(w.drewN k).heap.size<=((w.drewN k).heap ++ os).size
  rw[Array.size_append];exact Nat.le_add_right _ _
 ·show((w.drewN k).heap ++ os)[i]?=(w.drewN k).heap[i]?
  exact Array.getElem?_append_left hi
theorem zcd (w:World) (T:TypeId) (nd:Nat) (hs:nd<=24):Holds (fun(b:UInt8)=>Value.int .u8 (b.toNat:Int)) (w.alloc (.cells Lib.zeros24 T)) w.heap.size 0 (Array.replicate nd (0:UInt8)):=fun j hj=>by
 have hj':j < nd:=by simpa using hj
 refine⟨?_,World.frozen?_alloc_new _ _ _ _⟩
 rw[World.cell?_alloc_new,Lib.zeros24_at _ (by omega),getElem!_pos _ j hj]
 simp
theorem zcS (w:World) (o:Obj) (dk:Array UInt8) (k:Nat):∃ os,(Sort.putRow (fun(b:UInt8)=>Value.int .u8 (b.toNat:Int)) (w.alloc o) w.heap.size 0 dk).drewN k= Sort.grow (w.drewN k) os:=by
 rw[alloc_eq_grow];obtain⟨os',_,e⟩:=Sort.putRow_grow_new (fun(b:UInt8)=>Value.int .u8 (b.toNat:Int)) w #[o] w.heap.size 0 dk (Nat.le_refl _);exact⟨os',by rw[e];rfl⟩
theorem z6L (u:Nat) (hu1:1<=u) (hu64:u < 18446744073709551616) (w:World) (ht:TabP w):Calls Tryz.prog 221 #[.int .u64 u,.int .i64 10] w fun e w'=>e= .returned (.string ⟨(Lib.decDigits u).toArray⟩)/\Below w.heap.size w w':=by
 by_cases hs:u < 100
 ·have HS:=I (fun w=>Tryz.internal_strconv_small u hs w)
  have t1:(u:Int) < 100:=by omega
  have t2:IntKind.i64.wrap (u:Int)= u:=by rw[IntKind.wrap_i64];omega
  clear hs hu64 hu1 ht;go_enter Tryz.func221,Tryz.ntmps221;go_wp2_with (go_at_call 213;refine(HS.o _).mono ?_;rintro e z ⟨rfl,rfl⟩);go_ret;exact⟨rfl,Below.refl _ _⟩
 ·have N:Lib.nDigits u<=20:=by have:=Lib.numDigits_eq u hu1 hu64;split at this<;>omega
  have F:Tryz.prog.arrayLen 261= 24:=by simp[Program.arrayLen,Tryz.underlying261]
  have O:∀ W,(Instr.sliceAt 261 (.pointer (some ⟨w.heap.size,0,none⟩)) none (some (.int .i64 (Lib.nDigits u:Int))) none).run Tryz.prog W= .ok (.slice (some ⟨w.heap.size,0,none⟩) (Lib.nDigits u) 24) W:=fun W=>by
   rw[run_sliceAt_array_h W 261 ⟨w.heap.size,0,none⟩ (by simp[Program.arrayLen,Program.elem,Tryz.underlying261]) .i64 (Lib.nDigits u:Int) (by omega) (by rw[F];omega)];go_simp
  have A:=zcd w 261 (Lib.nDigits u) (by omega);have g:=Tryz.internal_strconv_formatBase10 w.heap.size 0 24 u (Array.replicate (Lib.nDigits u) 0) (w.alloc (.cells Lib.zeros24 261)) A (by rw[Array.size_replicate];exact Lib.lt_pow_nDigits u) hu64 (by rw[Array.size_replicate];omega);rw[Array.size_replicate] at g;have G:=I A;have Y:=I g;have X:=I (Tryz.internal_strconv_numDigits u hu1 hu64 (w.alloc (.cells Lib.zeros24 261)) (Lib.tabIs_alloc ht _));have t1: ¬ (u:Int) < 100:=by omega
  clear A F g hs;go_enter Tryz.func221,Tryz.ntmps221;go_wp2_with (go_at_call 214;refine X.o.mono ?_;rintro e w' ⟨rfl,rfl⟩);go_at_call 215;refine Y.o.mono ?_;rintro e w' ⟨rfl,k,v',C,rfl,K⟩;have a2:(convert 131 9 (.slice (some ⟨w.heap.size,0,none⟩) (Lib.nDigits u) 24)).run Tryz.prog ((putRow (fun(b:UInt8)=>Value.int .u8 (b.toNat:Int)) (w.alloc (.cells Lib.zeros24 261)) w.heap.size 0 C).drewN k)= .ok (.string ⟨(Lib.decDigits u).toArray⟩) ((putRow (fun(b:UInt8)=>Value.int .u8 (b.toNat:Int)) (w.alloc (.cells Lib.zeros24 261)) w.heap.size 0 C).drewN k):=by
   have h:=run_convert_bytes_back (P:=Tryz.prog) ((putRow (fun(b:UInt8)=>Value.int .u8 (b.toNat:Int)) (w.alloc (.cells Lib.zeros24 261)) w.heap.size 0 C).drewN k) 131 9 5 ⟨w.heap.size,0,none⟩ 24 (Lib.decDigits u) Tryz.underlying131 Tryz.underlying5 Tryz.underlying9 (fun j hj=>by
    rw[Lib.row_is_numeral K j hj,Lib.add_plain,World.cell?_drewN];exact cell?_putRow (fun(b:UInt8)=>Value.int .u8 (b.toNat:Int)) _ w.heap.size 0 _ C G.o (by rw[K.size,Array.size_replicate]) j (by rw[K.size];rw[Lib.decDigits_length] at hj;exact hj))
   rw[Lib.decDigits_length] at h;exact h
  go_wp2;go_ret;obtain⟨os,eo⟩:=zcS w (.cells Lib.zeros24 261) C k;rw[eo];exact⟨rfl,z33 w k os⟩
theorem z52 (u:Nat) (hu1:1<=u) (hu64:u < 18446744073709551616) (w:World) (ht:TabP w):Calls Tryz.prog 210 #[.int .u64 u,.int .i64 10] w fun e w'=>e= .returned (.string ⟨(Lib.decDigits u).toArray⟩)/\Below w.heap.size w w':=by
 have H:=I (z6L u hu1 hu64 w ht);clear hu1 hu64 ht;go_enter Tryz.func210,Tryz.ntmps210;go_wp2_with (go_at_call 221;refine zi H.o ?_;intro z HB);go_ret;exact⟨rfl,HB.o⟩
theorem z7l (n:Int) (h0: -9223372036854775808<=n) (h1:n<=9223372036854775807) (w:World) (ht:TabP w):Calls Tryz.prog 211 #[.int .i64 n] w fun e w'=>e= .returned (.string ⟨(Lib.itoa n).toArray⟩)/\Below w.heap.size w w':=by
 have H:=I (Tryz.internal_strconv_Itoa n h0 h1 w ht);clear h0 h1 ht;go_enter Tryz.func211,Tryz.ntmps211;go_wp2_with (go_at_call 222;refine H.o.mono ?_;rintro e z ⟨rfl,k,C,g⟩;have A:=I g;clear g);go_ret;rw[A.o];exact⟨rfl,z33 w k C⟩
theorem z6K (n:Int) (h0: -9223372036854775808<=n) (h1:n<=9223372036854775807) (w:World) (ht:TabP w):Calls Tryz.prog 193 #[.int .i64 n,.int .i64 10] w fun e w'=>e= .returned (.string ⟨(Lib.itoa n).toArray⟩)/\Below w.heap.size w w':=by
 have H:=I (Tryz.internal_strconv_FormatInt_10 n h0 h1 w ht);clear h0 h1 ht;go_enter Tryz.func193,Tryz.ntmps193;go_wp2_with (go_at_call 206;refine H.o.mono ?_;rintro e z ⟨rfl,k,C,g⟩;have A:=I g;clear g);go_ret;rw[A.o];exact⟨rfl,z33 w k C⟩
theorem TabP.next {w w':World} (h:TabP w) (hb:Below w.heap.size w w'):TabP w':=by
 unfold TabP Lib.TabIs World.var? at*;cases hg:Tryz.prog.globalNamed "internal/strconv.uint64pow10" with
 |none=>simp[hg] at h
 |some g=>
  simp only[hg,Option.bind_some] at h ⊢;have C:g < w.heap.size:=by
   rcases Nat.lt_or_ge g w.heap.size with A|A
   ·exact A
   ·rw[Array.getElem?_eq_none A] at h;simp at h
  rw[hb.block g C];exact h
theorem zar {m:Nat} (h0:4503599627370496<=m) (h:m < 9007199254740992):floatToIntVal .f64 (4836865999795912704+m) .u64= some ((m:Nat):Int):=by
 obtain⟨l,rfl⟩:∃ l,m= 4503599627370496+l:=⟨m - 4503599627370496,by omega⟩;rw[show 4836865999795912704+ (4503599627370496+l)= 4841369599423283200+l by omega];exact zeH (by omega)
theorem zdj (f:Nat) (b:Bool) (h:decide (9223372036854775808<=f)= b):(if f < 9223372036854775808 then([]:List UInt8) else[45])= if b= true then[45] else[]:=by
 subst h;by_cases h:9223372036854775808<=f
 ·rw[if_neg (by omega),if_pos (by simpa using h)]
 ·rw[if_pos (by omega),if_neg (by simpa using h)]
theorem z0N (op:BinOp) (ho:op= .add\/op= .sub\/op= .mul\/op= .quo) (t:TypeId) (x y:Nat) (h:floatBits op .f64 x y= none) (w:World):
  ∃ n,n < 2 ^ 64/\9218868437227405312 < n % 9223372036854775808/\(binOp op t (.float .f64 x) (.float .f64 y)).run Tryz.prog w= .ok (.float .f64 n) w.drew:=by
 refine⟨Question.cut (.nanBits .f64 x y) (w.tape w.drawn (.nanBits .f64 x y)),?_,?_,?_⟩
 ·show(w.tape w.drawn (.nanBits .f64 x y)) % 2*2 ^ 63+0x7ff0000000000000+1+ ((w.tape w.drawn (.nanBits .f64 x y)) / 2) % (2 ^ 52 - 1) < 2 ^ 64
  omega
 ·have h3:(w.tape w.drawn (.nanBits .f64 x y)) / 2 % (2 ^ 52 - 1) < 2 ^ 52 - 1:=Nat.mod_lt _ (by decide)
  have h4:(w.tape w.drawn (.nanBits .f64 x y)) % 2 < 2:=Nat.mod_lt _ (by decide);show 9218868437227405312 <((w.tape w.drawn (.nanBits .f64 x y)) % 2*2 ^ 63+0x7ff0000000000000+1+ ((w.tape w.drawn (.nanBits .f64 x y)) / 2) % (2 ^ 52 - 1)) % 9223372036854775808;generalize (w.tape w.drawn (.nanBits .f64 x y)) / 2 % (2 ^ 52 - 1)= c at*;generalize (w.tape w.drawn (.nanBits .f64 x y)) % 2= b at*;have h5:b= 0\/b= 1:=by omega
  rcases h5 with rfl|rfl<;>omega
 ·rcases ho with rfl|rfl|rfl|rfl<;>(unfold floatBits at h;simp only at h;simp[binOp,Op.floatArith,h,choose];rfl)
theorem z6n {n m:Nat} (hn:n < 2 ^ 64) (h:9218868437227405312 < n % 9223372036854775808):FloatKind.f64.format.order n m= none:=
 z2A _ _ (.inl ((z2l hn).2 h))
theorem zcT {f:Nat} (hf:f < 2 ^ 64) (h: ¬ 9218868437227405312 < f % 9223372036854775808):(FloatKind.f64.format.order f f !=some .eq)= false:=by
 have h1:nanB f= false:=by
  rw[z1q,decide_eq_false];exact fun e=>h ((z2l hf).1 e)
 exact h1
theorem zcU {f:Nat} (hf:f < 2 ^ 64) (h:f % 9223372036854775808≠0):(FloatKind.f64.format.order f 0 ==some .eq)= false:=by
 rw[Bool.eq_false_iff];intro e;rcases z85 hf e with h1|h1<;>omega
theorem z2a (a b:List UInt8) (h:a.length+b.length<=1000000) (W:World):(Op.stringOp .add ⟨a.toArray⟩ ⟨b.toArray⟩).run Tryz.prog W= .ok (.string ⟨(a ++ b).toArray⟩) W:=by
 have h1:(Op.stringOp .add ⟨a.toArray⟩ ⟨b.toArray⟩).run Tryz.prog W= .ok (.string (⟨a.toArray⟩ ++ ⟨b.toArray⟩)) W:=run_string_add_sum W _ _ (by simp[ByteArray.size];omega);have h2:(⟨a.toArray⟩:ByteArray) ++ ⟨b.toArray⟩=⟨(a ++ b).toArray⟩:=by apply ByteArray.ext;simp[ByteArray.data_append]
 rw[h2] at h1;exact h1
theorem zaE (f:Nat) (hf:f < 2 ^ 64) (w:World) (ht:TabP w):Calls Tryz.prog 194 #[.float .f64 f] w fun e w'=>e= .returned (.string ⟨(textF f).toArray⟩)/\Below w.heap.size w w':=by
 have K:=I (fun w=>zdk f hf w);have A:=fun b=>zdj f b;unfold textF;by_cases hn:9218868437227405312 < f % 9223372036854775808
 ·rw[if_pos hn]
  have t1:(FloatKind.f64.format.order f f !=some .eq)= true:=by rw[z6n hf hn];rfl
  clear ht hf A hn;cases g:decide (9223372036854775808<=f)<;>rw[g] at K<;>clear g<;>go_enter Tryz.func194,Tryz.ntmps194
  all_goals
   go_wp2_with (go_at_call 207;refine(K.o _).mono ?_;rintro e z ⟨rfl,rfl⟩);go_ret;exact⟨rfl,Below.refl _ _⟩
 ·rw[if_neg hn]
  have t1:=zcT hf hn;by_cases hi:f % 9223372036854775808= 9218868437227405312
  ·rw[if_pos hi]
   have O:floatBits .sub .f64 f f= none:=by
    have hd:f= 9218868437227405312\/f= 18442240474082181120:=by omega
    rcases hd with rfl|rfl<;>decide +kernel
   obtain⟨n,n1,n2,n3⟩:=z0N .sub (.inr (.inl rfl)) 49 f f O w;have t2:(FloatKind.f64.format.order n 0 !=some .eq)= true:=by rw[z6n n1 n2];rfl
   have HW:Hid (Below w.heap.size w w.drew):=I (Below.refl _ w).drew;cases g:decide (9223372036854775808<=f) with
   |true=>
    rw[A _ g];rw[g] at K;clear ht hf A hn g hi n1 n2 O;go_enter Tryz.func194,Tryz.ntmps194;go_wp2_with (go_at_call 207;refine(K.o _).mono ?_;rintro e z ⟨rfl,rfl⟩);go_ret;exact⟨rfl,HW.o⟩
   |false=>
    rw[A _ g];rw[g] at K;clear ht hf A hn g hi n1 n2 O;go_enter Tryz.func194,Tryz.ntmps194;go_wp2_with (go_at_call 207;refine(K.o _).mono ?_;rintro e z ⟨rfl,rfl⟩);go_ret;exact⟨rfl,HW.o⟩
  ·rw[if_neg hi]
   have G:f % 9223372036854775808 < 9218868437227405312:=by omega
   have hq:∀ (t:TypeId) (w:World),(binOp .sub t (.float .f64 f) (.float .f64 f)).run Tryz.prog w= .ok (.float .f64 0) w:=fun t w=>run_float_arith w .sub t .f64 _ _ _ (z9H hf G);have t2:(FloatKind.f64.format.order 0 0 !=some .eq)= false:=by decide +kernel
   by_cases h0:f % 9223372036854775808= 0
   ·have t3:(FloatKind.f64.format.order f 0 ==some .eq)= true:=by
     have:f= 0\/f= 9223372036854775808:=by omega
     rcases this with rfl|rfl<;>decide +kernel
    have hp:Lib.decDigits (z0M (f % 9223372036854775808)).1 ++ (112::Lib.itoa (z0M (f % 9223372036854775808)).2)=[48,112,48]:=by
     rw[h0];show Lib.decDigits 0 ++ (112::Lib.itoa 0)= _;rw[show Lib.itoa 0= Lib.decDigits 0 from Lib.itoa_nonneg 0,Lib.decDigits_one (by decide)];decide
    rw[hp];cases g:decide (9223372036854775808<=f)<;>rw[A _ g]<;>rw[g] at K<;>clear ht hf A hn g hi G h0 hp<;>go_enter Tryz.func194,Tryz.ntmps194
    all_goals
     go_wp2_with (go_at_call 207;refine(K.o _).mono ?_;rintro e z ⟨rfl,rfl⟩);go_ret;exact⟨rfl,Below.refl _ _⟩
   ·have t3:=zcU hf h0
    have HA:=I (fun w=>z5E f hf w);generalize hr:f % 9223372036854775808= r at*;have HX:=I (fun w=>zaD r (by omega) G w);have hm:=z3Y (r:=r) (by omega);have hp:=z7H (r:=r) (by omega) G;have HY:=I (fun w=>zaN (mantF r) hm.1 hm.2 w);have c6:∀ W:World,(convert 49 152 (.float .f64 (4836865999795912704+mantF r))).run Tryz.prog W= .ok (.int .u64 ((mantF r:Nat):Int)) W:=fun W=>run_convert_float_int W 49 152 .f64 .u64 _ _ (by kernel_rfl) Tryz.underlying152 (zar hm.1 hm.2);have a2:=I (RedAt.start (m:=mantF r) (e:=powF r) (by omega) (by omega));rw[← z7F (r:=r) (by omega)] at a2;have c8:wrap64 (powF r+53)= powF r+53:=by unfold wrap64;omega
    have c9:wrap64 (powF r+53 - 53)= powF r:=by unfold wrap64;omega
    have a6:=z7G (r:=r) G;have a9:=I a6;generalize z0M r= t at*;generalize powF r= p at*;generalize mantF r= m at*;cases g:decide (9223372036854775808<=f) with
    |true=>
     rw[A _ g];rw[g] at K;have HT:=I ht;clear ht A hn g hi h0 hr hm a6 hf;go_enter Tryz.func194,Tryz.ntmps194;go_wp2_with (first|(go_at_call 207;refine(K.o _).mono ?_;rintro e z ⟨rfl,rfl⟩)|(go_at_call 201;refine(HA.o _).mono ?_;rintro e z ⟨rfl,rfl⟩)|(go_at_call 208;refine(HX.o _).mono ?_;rintro e z ⟨rfl,rfl⟩)|(go_at_call 209;refine(HY.o _).mono ?_;rintro e z ⟨rfl,rfl⟩));go_loopg [5,6] m (fun q x y u=>∃ e:Int,x= .int .i64 e/\y= .int .u64 (q:Nat)/\RedAt t p q e/\u= z);case atStart=>exact⟨p,rfl,rfl,a2.o,rfl⟩
     case round=>
      obtain⟨e,rfl,rfl,F,rfl⟩:=hrel;have C:=I F;have N:=F.pow;have a7:wrap64 (e+1)= e+1:=by unfold wrap64;omega
      by_cases hodd:gk % 2= 0
      ·have t4:(gk:Int) % 2= 0:=by omega
       have HM:Hid (gk / 2 < gk):=I (by omega);have a0:Hid (IntKind.u64.wrap ((gk:Int) / 2)=((gk / 2:Nat):Int)):=I (by rw[IntKind.wrap_u64];omega);have a1:=I (C.o.next hodd);clear F C hodd N;go_wp2;go_roundg (gk / 2);case measure=>exact HM.o
       case rel=>exact⟨e+1,congrArg (Value.int .i64) a7,congrArg (Value.int .u64) a0.o,a1.o,rfl⟩
      ·have t4: ¬ (gk:Int) % 2= 0:=by omega
       have HV:Hid (t=(gk,e)):=I (C.o.stop hodd);have a4:=z5H (n:=gk) (by have:=a9.o;rw[HV.o] at this;omega);have a5:=z2c (n:=e) (by omega) (by omega);have c1:=z2a [45] (Lib.decDigits gk) (by simp;omega);have c2:=z2a ([45] ++ Lib.decDigits gk) [112] (by simp;omega);have c3:=z2a ([45] ++ Lib.decDigits gk ++ [112]) (Lib.itoa e) (by simp;omega);have cE:Hid ((⟨([45] ++ Lib.decDigits gk ++ [112] ++ Lib.itoa e).toArray⟩:ByteArray)=⟨([45] ++ (Lib.decDigits gk ++ (112::Lib.itoa e))).toArray⟩):=I (by simp);generalize (⟨([45] ++ Lib.decDigits gk).toArray⟩:ByteArray)= S1 at*;generalize (⟨([45] ++ Lib.decDigits gk ++ [112]).toArray⟩:ByteArray)= S2 at*;generalize (⟨([45] ++ Lib.decDigits gk ++ [112] ++ Lib.itoa e).toArray⟩:ByteArray)= S3 at*;clear a4 a5;have HU:=I (z52 gk (by omega) (by omega) wr HT.o);have HI:=I (fun z h=>z7l e (by omega) (by omega) z h);clear F C hodd N;go_wp2_with (first|(go_at_call 210;refine HU.o.mono ?_;rintro e z ⟨rfl,g⟩;have X:=I g;have a3:=I (HT.o.next g);clear g)|(go_at_call 211;refine zi (HI.o _ a3.o) ?_;intro z Y));go_ret;have hv:=HV.o;subst hv;exact⟨congrArg (fun s=>Ending.returned (.string s)) cE.o,(beT X.o Y.o)⟩
    |false=>
     rw[A _ g];rw[g] at K;have HT:=I ht;clear ht A hn g hi h0 hr hm a6 hf;go_enter Tryz.func194,Tryz.ntmps194;go_wp2_with (first|(go_at_call 207;refine(K.o _).mono ?_;rintro e z ⟨rfl,rfl⟩)|(go_at_call 201;refine(HA.o _).mono ?_;rintro e z ⟨rfl,rfl⟩)|(go_at_call 208;refine(HX.o _).mono ?_;rintro e z ⟨rfl,rfl⟩)|(go_at_call 209;refine(HY.o _).mono ?_;rintro e z ⟨rfl,rfl⟩));go_loopg [5,6] m (fun q x y u=>∃ e:Int,x= .int .i64 e/\y= .int .u64 (q:Nat)/\RedAt t p q e/\u= z);case atStart=>exact⟨p,rfl,rfl,a2.o,rfl⟩
     case round=>
      obtain⟨e,rfl,rfl,F,rfl⟩:=hrel;have C:=I F;have N:=F.pow;have a7:wrap64 (e+1)= e+1:=by unfold wrap64;omega
      by_cases hodd:gk % 2= 0
      ·have t4:(gk:Int) % 2= 0:=by omega
       have HM:Hid (gk / 2 < gk):=I (by omega);have a0:Hid (IntKind.u64.wrap ((gk:Int) / 2)=((gk / 2:Nat):Int)):=I (by rw[IntKind.wrap_u64];omega);have a1:=I (C.o.next hodd);clear F C hodd N;go_wp2;go_roundg (gk / 2);case measure=>exact HM.o
       case rel=>exact⟨e+1,congrArg (Value.int .i64) a7,congrArg (Value.int .u64) a0.o,a1.o,rfl⟩
      ·have t4: ¬ (gk:Int) % 2= 0:=by omega
       have HV:Hid (t=(gk,e)):=I (C.o.stop hodd);have a4:=z5H (n:=gk) (by have:=a9.o;rw[HV.o] at this;omega);have a5:=z2c (n:=e) (by omega) (by omega);have c1:=z2a [] (Lib.decDigits gk) (by simp;omega);have c2:=z2a ([] ++ Lib.decDigits gk) [112] (by simp;omega);have c3:=z2a ([] ++ Lib.decDigits gk ++ [112]) (Lib.itoa e) (by simp;omega);have cE:Hid ((⟨([] ++ Lib.decDigits gk ++ [112] ++ Lib.itoa e).toArray⟩:ByteArray)=⟨([] ++ (Lib.decDigits gk ++ (112::Lib.itoa e))).toArray⟩):=I (by simp);generalize (⟨([] ++ Lib.decDigits gk).toArray⟩:ByteArray)= S1 at*;generalize (⟨([] ++ Lib.decDigits gk ++ [112]).toArray⟩:ByteArray)= S2 at*;generalize (⟨([] ++ Lib.decDigits gk ++ [112] ++ Lib.itoa e).toArray⟩:ByteArray)= S3 at*;clear a4 a5;have HU:=I (z52 gk (by omega) (by omega) wr HT.o);have HI:=I (fun z h=>z7l e (by omega) (by omega) z h);clear F C hodd N;go_wp2_with (first|(go_at_call 210;refine HU.o.mono ?_;rintro e z ⟨rfl,g⟩;have X:=I g;have a3:=I (HT.o.next g);clear g)|(go_at_call 211;refine zi (HI.o _ a3.o) ?_;intro z Y));go_ret;have hv:=HV.o;subst hv;exact⟨congrArg (fun s=>Ending.returned (.string s)) cE.o,(beT X.o Y.o)⟩
end
section
open Go Go.RowKit
def DigAt (R:List UInt8) (q:Nat) (T:List UInt8):Prop:=Lib.decDigits q ++ T= R
theorem DigAt.next {R:List UInt8} {q:Nat} {T:List UInt8} (h:DigAt R q T) (hq: ¬ q < 10):DigAt R (q / 10) (UInt8.ofNat (48+q % 10)::T):=by
 unfold DigAt at*;rw[zcv hq] at h;rw[← h];simp
theorem DigAt.stop {R:List UInt8} {q:Nat} {T:List UInt8} (h:DigAt R q T) (hq:q < 10):UInt8.ofNat (48+q % 10)::T= R:=by
 unfold DigAt at h;rw[Lib.decDigits_one hq] at h;rw[← h,Nat.mod_eq_of_lt hq];rfl
theorem DigAt.len {R:List UInt8} {q:Nat} {T:List UInt8} (h:DigAt R q T):T.length<=R.length:=by
 unfold DigAt at h;rw[← h,List.length_append];omega
end
section
open Go Go.RowKit
theorem zeP {f:Nat} (hf:f < 2 ^ 64) (h:(fOrd f 0 ==some .lt)= true):cmpF f 0 < 0:=by
 have g:nanB 0= false:=by decide +kernel
 have C:nanB f= false:=by
  rw[beq_iff_eq] at h;cases hb:nanB f with
  |false=>rfl
  |true=>
   have A:=z1q f;rw[hb] at A;have h1:nanD (dat f)≠0:=by simpa using A.symm
   rw[z43,z2A _ _ (Or.inl h1)] at h;cases h
 unfold cmpF;rw[C,g,if_neg (by simp),if_neg (by simp),if_pos (Or.inl h)];decide
def negB (f:Nat):Bool:=decide (cmpF f 0 < 0)
def zx (t:VT):Bool:=decide (cntV t 0<=200) && zw t 1
def z0u (t:VT):Bool:=match t with
 | .mk k n f s ns its=>((k ==1) ||((k ==4) ||(((k ==2) && decide (0<=n)) ||((k ==3) && !(negB f))))) && zx t
end
section
open Go Go.RowKit
theorem z67 (t:VT) (cs:List Value) (w:World) (hv:ValAt w w.heap.size cs t):Calls Tryz.prog 128 #[.agg ⟨cs⟩] w fun e w'=>e= .returned (.bool (z0u t))/\Below w.heap.size w w':=by
 cases t with
 |mk k n f s ns its=>
 obtain⟨F,C,rfl,_,_,a6,_,_,_,_⟩:=hv.inv;have hf:=wf64 a6;have A:=I (zc w (.cells ⟨[.int .i64 k,.int .i64 n,.float .f64 f,.string s,F,C]⟩ 52));have K:=I (zL w [.int .i64 k,.int .i64 n,.float .f64 f,.string s,F,C] 52);have N:Hid (Calls Tryz.prog 61 #[.agg ⟨[.int .i64 k,.int .i64 n,.float .f64 f,.string s,F,C]⟩] (w.alloc (.cells ⟨[.int .i64 k,.int .i64 n,.float .f64 f,.string s,F,C]⟩ 52)) fun e w'=>e= .returned (.bool (zx (.mk k n f s ns its)))/\Below (w.alloc (.cells ⟨[.int .i64 k,.int .i64 n,.float .f64 f,.string s,F,C]⟩ 52)).heap.size (w.alloc (.cells ⟨[.int .i64 k,.int .i64 n,.float .f64 f,.string s,F,C]⟩ 52)) w'):=I (z1s _ _ _ (hv.next A.o));have d0:=zH w ⟨[.int .i64 k,.int .i64 n,.float .f64 f,.string s,F,C]⟩ 52 0;have d1:=zH w ⟨[.int .i64 k,.int .i64 n,.float .f64 f,.string s,F,C]⟩ 52 1;have d2:=zH w ⟨[.int .i64 k,.int .i64 n,.float .f64 f,.string s,F,C]⟩ 52 2;simp only[List.getElem?_toArray,List.getElem?_cons_succ,List.getElem?_cons_zero] at d0 d1 d2;have D1:=I d1;have D2:=I d2;have a8:=I (zV w (.cells ⟨[.int .i64 k,.int .i64 n,.float .f64 f,.string s,F,C]⟩ 52));have G:Hid (z0u (.mk k n f s ns its)=(((k ==1) ||((k ==4) ||(((k ==2) && decide (0<=n)) ||((k ==3) && !(negB f))))) && zx (.mk k n f s ns its))):=I rfl;clear hv a6;generalize zx (.mk k n f s ns its)= rr at*;rcases Classical.em (k= 1) with a1|a1
 ·subst a1
  have X:Hid (z0u (.mk 1 n f s ns its)= rr):=I (by rw[G.o];cases rr<;>rfl);go_enter Tryz.func128,Tryz.ntmps128;go_upto_region 1 with (fail);generalize w.alloc (.cells ⟨[.int .i64 1,.int .i64 n,.float .f64 f,.string s,F,C]⟩ 52)= W at*;go_wp2_with (first|((with_reducible refine za tyK52 _ rfl ?_ K.o rfl ?_ ?_);exact wA rfl;rfl)|(go_at_call 61;refine zi N.o ?_;intro z g));go_ret;exact⟨z8 X.o.symm,(beT A.o g.o)⟩
 rcases Classical.em (k= 4) with a4|a4
 ·subst a4
  have X:Hid (z0u (.mk 4 n f s ns its)= rr):=I (by rw[G.o];cases rr<;>rfl);go_enter Tryz.func128,Tryz.ntmps128;go_upto_region 1 with (fail);generalize w.alloc (.cells ⟨[.int .i64 4,.int .i64 n,.float .f64 f,.string s,F,C]⟩ 52)= W at*;go_wp2_with (first|((with_reducible refine za tyK52 _ rfl ?_ K.o rfl ?_ ?_);exact wA rfl;rfl)|(go_at_call 61;refine zi N.o ?_;intro z g));go_ret;exact⟨z8 X.o.symm,(beT A.o g.o)⟩
 rcases Classical.em (k= 2) with a2|a2
 ·subst a2
  by_cases hn:n < 0
  ·have a5: ¬ 0<=n:=by omega
   have X:Hid (z0u (.mk 2 n f s ns its)= false):=I (by rw[G.o];rw[decide_eq_false a5];rfl);go_enter Tryz.func128,Tryz.ntmps128;go_upto_region 1 with (fail);generalize w.alloc (.cells ⟨[.int .i64 2,.int .i64 n,.float .f64 f,.string s,F,C]⟩ 52)= W at*;go_wp2_with (first|((with_reducible refine za tyK52 _ rfl ?_ K.o rfl ?_ ?_);exact wA rfl;rfl)|(go_at_call 61;refine zi N.o ?_;intro z g));go_ret;exact⟨z8 X.o.symm,A.o⟩
  ·have a5:0<=n:=by omega
   have X:Hid (z0u (.mk 2 n f s ns its)= rr):=I (by rw[G.o];rw[decide_eq_true a5];cases rr<;>rfl);go_enter Tryz.func128,Tryz.ntmps128;go_upto_region 1 with (fail);generalize w.alloc (.cells ⟨[.int .i64 2,.int .i64 n,.float .f64 f,.string s,F,C]⟩ 52)= W at*;go_wp2_with (first|((with_reducible refine za tyK52 _ rfl ?_ K.o rfl ?_ ?_);exact wA rfl;rfl)|(go_at_call 61;refine zi N.o ?_;intro z g));go_ret;exact⟨z8 X.o.symm,(beT A.o g.o)⟩
 rcases Classical.em (k= 3) with a3|a3
 ·subst a3
  have Y:=I (fun w=>z0U f 0 hf (by decide) w);cases hlt:(fOrd f 0 ==some .lt) with
  |true=>
   have O:negB f= true:=decide_eq_true (zeP hf hlt);have t1:(FloatKind.f64.format.order f 0 ==some .lt)= true:=hlt;clear hlt;have X:Hid (z0u (.mk 3 n f s ns its)= false):=I (by rw[G.o];rw[O];rfl);go_enter Tryz.func128,Tryz.ntmps128;go_upto_region 1 with (fail);generalize w.alloc (.cells ⟨[.int .i64 3,.int .i64 n,.float .f64 f,.string s,F,C]⟩ 52)= W at*;go_wp2_with (first|((with_reducible refine za tyK52 _ rfl ?_ K.o rfl ?_ ?_);exact wA rfl;rfl)|(go_at_call 61;refine zi N.o ?_;intro z g)|(go_at_call 123;refine(Y.o _).mono ?_;rintro e z ⟨rfl,rfl⟩));go_ret;exact⟨z8 X.o.symm,A.o⟩
  |false=>
   have t1:(FloatKind.f64.format.order f 0 ==some .lt)= false:=hlt;clear hlt;by_cases hc:cmpF f 0 < 0
   ·have O:negB f= true:=decide_eq_true hc
    have a0:=I O;generalize cmpF f 0= cf at*;have X:Hid (z0u (.mk 3 n f s ns its)= false):=I (by rw[G.o];rw[a0.o];rfl);go_enter Tryz.func128,Tryz.ntmps128;go_upto_region 1 with (fail);generalize w.alloc (.cells ⟨[.int .i64 3,.int .i64 n,.float .f64 f,.string s,F,C]⟩ 52)= W at*;go_wp2_with (first|((with_reducible refine za tyK52 _ rfl ?_ K.o rfl ?_ ?_);exact wA rfl;rfl)|(go_at_call 61;refine zi N.o ?_;intro z g)|(go_at_call 123;refine(Y.o _).mono ?_;rintro e z ⟨rfl,rfl⟩));go_ret;exact⟨z8 X.o.symm,A.o⟩
   ·have O:negB f= false:=decide_eq_false hc
    have a0:=I O;generalize cmpF f 0= cf at*;have X:Hid (z0u (.mk 3 n f s ns its)= rr):=I (by rw[G.o];rw[a0.o];cases rr<;>rfl);go_enter Tryz.func128,Tryz.ntmps128;go_upto_region 1 with (fail);generalize w.alloc (.cells ⟨[.int .i64 3,.int .i64 n,.float .f64 f,.string s,F,C]⟩ 52)= W at*;go_wp2_with (first|((with_reducible refine za tyK52 _ rfl ?_ K.o rfl ?_ ?_);exact wA rfl;rfl)|(go_at_call 61;refine zi N.o ?_;intro z g)|(go_at_call 123;refine(Y.o _).mono ?_;rintro e z ⟨rfl,rfl⟩));go_ret;exact⟨z8 X.o.symm,(beT A.o g.o)⟩
 have e1:(k ==1)= false:=by rw[beq_eq_false_iff_ne];exact a1
 have e4:(k ==4)= false:=by rw[beq_eq_false_iff_ne];exact a4
 have e2:(k ==2)= false:=by rw[beq_eq_false_iff_ne];exact a2
 have e3:(k ==3)= false:=by rw[beq_eq_false_iff_ne];exact a3
 have X:Hid (z0u (.mk k n f s ns its)= false):=I (by rw[G.o];rw[e1,e2,e3,e4];rfl);go_enter Tryz.func128,Tryz.ntmps128;go_upto_region 1 with (fail);generalize w.alloc (.cells ⟨[.int .i64 k,.int .i64 n,.float .f64 f,.string s,F,C]⟩ 52)= W at*;go_wp2_with (first|((with_reducible refine za tyK52 _ rfl ?_ K.o rfl ?_ ?_);exact wA rfl;rfl)|(go_at_call 61;refine zi N.o ?_;intro z g));go_ret;exact⟨z8 X.o.symm,A.o⟩
end
section
open Go Go.RowKit
def kidsB (z:Int) (n:Nat):Bool:=!(z == -2) && (decide (z < 0) ||((n:Int) ==z))
def noneV:VT->Bool
 | .mk k n f s ns its=>noneB k n f s ns.length its.length
def valB (k:Int) (v:VT):Bool:=if k= 1 then z0u v else noneV v
mutual
def z0r:ET->Nat->Bool
 | .mk k s v ns its,d=>decide (d<=12) && (kidsB (z0H k) its.length && (zM k s ns its.length && (valB k v && z09 its (d+1))))
def z09:List ET->Nat->Bool
 |[],_=>true
 |a::l,d=>z0r a d && z09 l d
end
theorem z1z {l:List ET} {j d:Nat} {x:ET} (h:l[j]?= some x):z09 (l.drop j) d=(z0r x d && z09 (l.drop (j+1)) d):=by
 rw[z4z h,z09]
theorem z1O {l:List ET} {d:Nat}:z09 (l.drop l.length) d= true:=by
 rw[List.drop_eq_nil_of_le (Nat.le_refl _),z09]
theorem z8v (k:Int): -2<=z0H k/\z0H k<=3:=by
 unfold z0H
 (repeat' split)<;>omega
theorem z4W {w:World} {p o i:Nat} {cs ds:List Value} (h:w.rangeAt p o cs) (hd:∀ j v,ds[j]?= some v->cs[i+j]?= some v):w.rangeAt p (o+i) ds:=fun j v hv=>by
 have:=h (i+j) v (hd j v hv)
 rw[show o+i+j= o+ (i+j) by omega];exact this
theorem z3M {w w':World} {p o:Nat} {cs:List Value} (h:w.rangeAt p o cs) (hb:Below w.heap.size w w') (hp:p < w.heap.size):w'.rangeAt p o cs:=zb h hb hp
theorem z9y:∀ (t:ET) (d:Nat) (cs:List Value) (p o:Nat) (w:World),d<=13->w.rangeAt p o cs->ExpAt w w.heap.size cs t->
  Calls Tryz.prog 107 #[.pointer (some ⟨p,o,none⟩),.int .i64 d] w fun e w'=>e= .returned (.bool (z0r t d))/\Below w.heap.size w w':=by
 intro t
 induction t using ET.ind with
 |h k s v ns its ih=>
  intro d cs p o w f9 hr hv;have IH:=I ih;obtain⟨v0,v1,v2,v3,v4,v5,g5,g4,rfl,_,_,d2,d1,f5,hi⟩:=hv.inv;obtain⟨_,A,c,rfl,hA⟩:=hi;obtain⟨_,NA,nc,rfl,_⟩:=id d1;cases v with
  |mk vk vn vf vs vns vits=>
  obtain⟨u0,u1,e3,_,_,e6,_,e7,_,f7⟩:=d2.inv;obtain⟨_,VA,vc,rfl,_⟩:=e7;obtain⟨_,VD,vd,rfl,_⟩:=f7;simp only[List.cons.injEq,and_true] at e3;obtain⟨rfl,rfl,rfl,rfl,rfl,rfl⟩:=e3;have c6:=wf64 e6;have HA:=I hA;have d0:w.cell? ⟨p,o,none⟩= some (.int .i64 k):=hr 0 _ rfl;have d9:w.cell? ⟨p,o+9,none⟩= some (.slice A its.length c):=hr 9 _ rfl;have G:Hid (p < w.heap.size):=I (z2b d0);have D0:=I d0;have D9:=I d9;have d7:Hid (w.rangeAt p (o+2) [.int .i64 vk,.int .i64 vn,.float .f64 vf,.string vs,.slice VA vns.length vc,.slice VD vits.length vd]):=I (z4W hr (fun j x h=>match j,h with|0,h=>h|1,h=>h|2,h=>h|3,h=>h|4,h=>h|5,h=>h|j+6,h=>by simp at h));have b5:=I (zaZ k p o s (.int .i64 vk) (.int .i64 vn) (.float .f64 vf) (.string vs) (.slice VA vns.length vc) (.slice VD vits.length vd) NA A nc its.length c ns w hr d1);have b1:=I (fun w=>zd2 k w);have e0:=I d2;have d8:=I c6;have K:Hid (z0r (.mk k s (.mk vk vn vf vs vns vits) ns its) d=(decide (d<=12) && (kidsB (z0H k) its.length && (zM k s ns its.length && (valB k (.mk vk vn vf vs vns vits) && z09 its (d+1)))))):=I (by rw[z0r]);have f3:=z8v k;obtain⟨zz,hz⟩:∃ z,z0H k= z:=⟨_,rfl⟩;rw[hz] at b1 K f3;unfold maxLen at f5;clear hr hv ih hA d1 e6 c6 d2 hz;generalize z0r (.mk k s (.mk vk vn vf vs vns vits) ns its) d= res at*;by_cases hd:d<=12
  ·have f4: ¬ ((d:Int) > 12):=by omega
   have HD:=I hd;by_cases hz2:zz= -2
   ·have e2:(zz == -2)= true:=by simpa using hz2
    have Y:Hid (res= false):=I (by rw[K.o,(by unfold kidsB;rw[e2];rfl:kidsB zz its.length= false)];simp);go_enter Tryz.func107,Tryz.ntmps107;go_wp2_with (go_at_call 126;refine zd (b1.o _) ?_);go_ret;exact⟨z8 Y.o.symm,Below.refl _ _⟩
   have e2:(zz == -2)= false:=by simpa using hz2
   by_cases hko:kidsB zz its.length= false
   ·have b6:0<=zz/\¬ (its.length:Int)= zz:=by
     unfold kidsB at hko;rw[e2] at hko;simp at hko;omega
    obtain⟨b6,c4⟩:=b6;have Y:Hid (res= false):=I (by rw[K.o,hko];simp);go_enter Tryz.func107,Tryz.ntmps107;go_wp2_with (go_at_call 126;refine zd (b1.o _) ?_);go_ret;exact⟨z8 Y.o.symm,Below.refl _ _⟩
   have a7:kidsB zz its.length= true:=by simpa using hko
   have f2:=I a7;have e8:zz < 0\/(its.length:Int)= zz:=by
    unfold kidsB at a7;rw[e2] at a7;simp at a7;exact a7
   clear hko a7;rw[f2.o,decide_eq_true HD.o,Bool.true_and,Bool.true_and] at K;cases hnm:zM k s ns its.length with
   |false=>
    rw[hnm] at b5 K;clear hnm;rcases e8 with b6|c4
    ·have b9: ¬ (0<=zz):=by omega
     clear b6;have Y:Hid (res= false):=I (K.o.trans (Bool.false_and _));go_enter Tryz.func107,Tryz.ntmps107;go_wp2_with (first|(go_at_call 126;refine zd (b1.o _) ?_)|(go_at_call 127;refine b5.o.mono ?_;rintro e w1 ⟨rfl,O⟩;have g:=I O;have x0:=(O.cell (p:=⟨p,o,none⟩) G.o).trans D0.o;have x9:=(O.cell (p:=⟨p,o+9,none⟩) G.o).trans D9.o;clear O));go_ret;exact⟨z8 Y.o.symm,g.o⟩
    ·subst c4
     have b9:0<=(its.length:Int):=by omega
     have Y:Hid (res= false):=I (K.o.trans (Bool.false_and _));go_enter Tryz.func107,Tryz.ntmps107;go_wp2_with (first|(go_at_call 126;refine zd (b1.o _) ?_)|(go_at_call 127;refine b5.o.mono ?_;rintro e w1 ⟨rfl,O⟩;have g:=I O;have x0:=(O.cell (p:=⟨p,o,none⟩) G.o).trans D0.o;have x9:=(O.cell (p:=⟨p,o+9,none⟩) G.o).trans D9.o;clear O));go_ret;exact⟨z8 Y.o.symm,g.o⟩
   |true=>
    rw[hnm,Bool.true_and] at K;rw[hnm] at b5;clear hnm;rcases e8 with b6|c4
    ·have b9: ¬ (0<=zz):=by omega
     clear b6;go_enter Tryz.func107,Tryz.ntmps107;go_upto_region 4 with (first|(go_at_call 126;refine zd (b1.o _) ?_)|(go_at_call 127;refine b5.o.mono ?_;rintro e w1 ⟨rfl,O⟩;have g:=I O;have x0:=(O.cell (p:=⟨p,o,none⟩) G.o).trans D0.o;have x9:=(O.cell (p:=⟨p,o+9,none⟩) G.o).trans D9.o;clear O));have X9:=I x9;have X0:=I x0;have a3:=I (z3M d7.o g.o G.o);clear x9;by_cases hk1:k= 1
     ·subst hk1
      have N:=I (z67 (.mk vk vn vf vs vns vits) [.int .i64 vk,.int .i64 vn,.float .f64 vf,.string vs,.slice VA vns.length vc,.slice VD vits.length vd] w1 ((e0.o.under g.o).more g.o.size));have F:valB 1 (.mk vk vn vf vs vns vits)= z0u (.mk vk vn vf vs vns vits):=by unfold valB;rw[if_pos rfl]
      rw[F] at K;cases hvb:z0u (.mk vk vn vf vs vns vits) with
      |false=>
       have Y:Hid (res= false):=I (K.o.trans (by rw[hvb];exact Bool.false_and _));rw[hvb] at N;clear hvb F;go_wp2_with (first|((with_reducible refine za tyK52 _ rfl ?_ a3.o rfl ?_ ?_);exact wA rfl;rfl)|(go_at_call 128;refine N.o.mono ?_;rintro e w2 ⟨rfl,O⟩;have b2:=I O;have y0:=(O.cell (p:=⟨p,o,none⟩) (Nat.lt_of_lt_of_le G.o g.o.size)).trans X0.o;have y9:=(O.cell (p:=⟨p,o+9,none⟩) (Nat.lt_of_lt_of_le G.o g.o.size)).trans X9.o;clear O));go_ret;exact⟨z8 Y.o.symm,(beT g.o b2.o)⟩
      |true=>
       have b3:Hid (res= z09 its (d+1)):=I (K.o.trans (by rw[hvb,Bool.true_and]));rw[hvb] at N;clear hvb F;go_upto_region 7 with (first|((with_reducible refine za tyK52 _ rfl ?_ a3.o rfl ?_ ?_);exact wA rfl;rfl)|(go_at_call 128;refine N.o.mono ?_;rintro e w2 ⟨rfl,O⟩;have b2:=I O;have y0:=(O.cell (p:=⟨p,o,none⟩) (Nat.lt_of_lt_of_le G.o g.o.size)).trans X0.o;have y9:=(O.cell (p:=⟨p,o+9,none⟩) (Nat.lt_of_lt_of_le G.o g.o.size)).trans X9.o;clear O));clear y9;go_loopg [68] its.length (fun q x u=>∃ j:Nat,j+q= its.length/\x= .int .i64 j/\Below w.heap.size w u/\z09 (its.drop j) (d+1)= res);case atStart=>exact⟨0,by omega,rfl,(beT g.o b2.o),b3.o.symm⟩
       case round=>
        obtain⟨j,hj,rfl,a2,X⟩:=hrel;have C:=I a2;have Y:=I X;have u9:=(a2.cell (p:=⟨p,o+9,none⟩) G.o).trans D9.o;clear a2 X;cases gk with
        |zero=>
         obtain rfl:j= its.length:=by omega
         have c8: ¬ ((its.length:Int) <(its.length:Int)):=by omega
         have HV:=I (Y.o.symm.trans z1O);go_wp2;go_ret;exact⟨z8 HV.o.symm,C.o⟩
        |succ q=>
         have c9:(j:Int) <(its.length:Int):=by omega
         obtain⟨y,hy⟩:∃ y,its[j]?= some y:=⟨_,List.getElem?_eq_getElem (by omega)⟩;obtain⟨b,ob,rfl,a4,hc⟩:=HA.o (by omega);obtain⟨ks,b4,a5,a6⟩:=hc j y hy;have HV:=I (Y.o.symm.trans (z1z hy));have HC:=I (IH.o y (List.mem_of_getElem? hy) (d+1) ks b (ob+j*10) wr (by omega) (zb a5 C.o a4) ((a6.under C.o).more C.o.size));clear hc a5 a6 hy Y b4 a4;cases hrc:z0r y (d+1) with
         |false=>
          have a1:Hid (res= false):=I (HV.o.trans (by rw[hrc];exact Bool.false_and _));rw[hrc] at HC;clear hrc;go_wp2_with (go_at_call 107;refine zi HC.o ?_;intro w4 a0);go_ret;exact⟨z8 a1.o.symm,(beT C.o a0.o)⟩
         |true=>
          have a1:=I (HV.o.trans (by rw[hrc,Bool.true_and]));rw[hrc] at HC;clear hrc;go_wp2_with (go_at_call 107;refine zi HC.o ?_;intro w4 a0);go_roundg q;case measure=>omega
          case rel=>exact⟨j+1,by omega,by go_num,(beT C.o a0.o),a1.o.symm⟩
     ·have e4:(k !=1)= true:=by simpa using hk1
      have N:=I (z4o p (o+2) vk vn vf vs VA VD vns.length vits.length vc vd w1 d8.o a3.o);have F:valB k (.mk vk vn vf vs vns vits)= noneB vk vn vf vs vns.length vits.length:=by unfold valB;rw[if_neg hk1];rfl
      rw[F] at K;have x9:=X9.o;cases hvb:noneB vk vn vf vs vns.length vits.length with
      |false=>
       have Y:Hid (res= false):=I (K.o.trans (by rw[hvb];exact Bool.false_and _));rw[hvb] at N;clear hvb F;go_wp2_with (go_at_call 129;refine zd N.o ?_);go_ret;exact⟨z8 Y.o.symm,g.o⟩
      |true=>
       have b3:Hid (res= z09 its (d+1)):=I (K.o.trans (by rw[hvb,Bool.true_and]));rw[hvb] at N;clear hvb F;go_upto_region 7 with (go_at_call 129;refine zd N.o ?_);clear x9;go_loopg [68] its.length (fun q x u=>∃ j:Nat,j+q= its.length/\x= .int .i64 j/\Below w.heap.size w u/\z09 (its.drop j) (d+1)= res);case atStart=>exact⟨0,by omega,rfl,g.o,b3.o.symm⟩
       case round=>
        obtain⟨j,hj,rfl,a2,X⟩:=hrel;have C:=I a2;have Y:=I X;have u9:=(a2.cell (p:=⟨p,o+9,none⟩) G.o).trans D9.o;clear a2 X;cases gk with
        |zero=>
         obtain rfl:j= its.length:=by omega
         have c8: ¬ ((its.length:Int) <(its.length:Int)):=by omega
         have HV:=I (Y.o.symm.trans z1O);go_wp2;go_ret;exact⟨z8 HV.o.symm,C.o⟩
        |succ q=>
         have c9:(j:Int) <(its.length:Int):=by omega
         obtain⟨y,hy⟩:∃ y,its[j]?= some y:=⟨_,List.getElem?_eq_getElem (by omega)⟩;obtain⟨b,ob,rfl,a4,hc⟩:=HA.o (by omega);obtain⟨ks,b4,a5,a6⟩:=hc j y hy;have HV:=I (Y.o.symm.trans (z1z hy));have HC:=I (IH.o y (List.mem_of_getElem? hy) (d+1) ks b (ob+j*10) wr (by omega) (zb a5 C.o a4) ((a6.under C.o).more C.o.size));clear hc a5 a6 hy Y b4 a4;cases hrc:z0r y (d+1) with
         |false=>
          have a1:Hid (res= false):=I (HV.o.trans (by rw[hrc];exact Bool.false_and _));rw[hrc] at HC;clear hrc;go_wp2_with (go_at_call 107;refine zi HC.o ?_;intro w4 a0);go_ret;exact⟨z8 a1.o.symm,(beT C.o a0.o)⟩
         |true=>
          have a1:=I (HV.o.trans (by rw[hrc,Bool.true_and]));rw[hrc] at HC;clear hrc;go_wp2_with (go_at_call 107;refine zi HC.o ?_;intro w4 a0);go_roundg q;case measure=>omega
          case rel=>exact⟨j+1,by omega,by go_num,(beT C.o a0.o),a1.o.symm⟩
    ·subst c4
     have b9:0<=(its.length:Int):=by omega
     go_enter Tryz.func107,Tryz.ntmps107;go_upto_region 4 with (first|(go_at_call 126;refine zd (b1.o _) ?_)|(go_at_call 127;refine b5.o.mono ?_;rintro e w1 ⟨rfl,O⟩;have g:=I O;have x0:=(O.cell (p:=⟨p,o,none⟩) G.o).trans D0.o;have x9:=(O.cell (p:=⟨p,o+9,none⟩) G.o).trans D9.o;clear O));have X9:=I x9;have X0:=I x0;have a3:=I (z3M d7.o g.o G.o);clear x9;by_cases hk1:k= 1
     ·subst hk1
      have N:=I (z67 (.mk vk vn vf vs vns vits) [.int .i64 vk,.int .i64 vn,.float .f64 vf,.string vs,.slice VA vns.length vc,.slice VD vits.length vd] w1 ((e0.o.under g.o).more g.o.size));have F:valB 1 (.mk vk vn vf vs vns vits)= z0u (.mk vk vn vf vs vns vits):=by unfold valB;rw[if_pos rfl]
      rw[F] at K;cases hvb:z0u (.mk vk vn vf vs vns vits) with
      |false=>
       have Y:Hid (res= false):=I (K.o.trans (by rw[hvb];exact Bool.false_and _));rw[hvb] at N;clear hvb F;go_wp2_with (first|((with_reducible refine za tyK52 _ rfl ?_ a3.o rfl ?_ ?_);exact wA rfl;rfl)|(go_at_call 128;refine N.o.mono ?_;rintro e w2 ⟨rfl,O⟩;have b2:=I O;have y0:=(O.cell (p:=⟨p,o,none⟩) (Nat.lt_of_lt_of_le G.o g.o.size)).trans X0.o;have y9:=(O.cell (p:=⟨p,o+9,none⟩) (Nat.lt_of_lt_of_le G.o g.o.size)).trans X9.o;clear O));go_ret;exact⟨z8 Y.o.symm,(beT g.o b2.o)⟩
      |true=>
       have b3:Hid (res= z09 its (d+1)):=I (K.o.trans (by rw[hvb,Bool.true_and]));rw[hvb] at N;clear hvb F;go_upto_region 7 with (first|((with_reducible refine za tyK52 _ rfl ?_ a3.o rfl ?_ ?_);exact wA rfl;rfl)|(go_at_call 128;refine N.o.mono ?_;rintro e w2 ⟨rfl,O⟩;have b2:=I O;have y0:=(O.cell (p:=⟨p,o,none⟩) (Nat.lt_of_lt_of_le G.o g.o.size)).trans X0.o;have y9:=(O.cell (p:=⟨p,o+9,none⟩) (Nat.lt_of_lt_of_le G.o g.o.size)).trans X9.o;clear O));clear y9;go_loopg [68] its.length (fun q x u=>∃ j:Nat,j+q= its.length/\x= .int .i64 j/\Below w.heap.size w u/\z09 (its.drop j) (d+1)= res);case atStart=>exact⟨0,by omega,rfl,(beT g.o b2.o),b3.o.symm⟩
       case round=>
        obtain⟨j,hj,rfl,a2,X⟩:=hrel;have C:=I a2;have Y:=I X;have u9:=(a2.cell (p:=⟨p,o+9,none⟩) G.o).trans D9.o;clear a2 X;cases gk with
        |zero=>
         obtain rfl:j= its.length:=by omega
         have c8: ¬ ((its.length:Int) <(its.length:Int)):=by omega
         have HV:=I (Y.o.symm.trans z1O);go_wp2;go_ret;exact⟨z8 HV.o.symm,C.o⟩
        |succ q=>
         have c9:(j:Int) <(its.length:Int):=by omega
         obtain⟨y,hy⟩:∃ y,its[j]?= some y:=⟨_,List.getElem?_eq_getElem (by omega)⟩;obtain⟨b,ob,rfl,a4,hc⟩:=HA.o (by omega);obtain⟨ks,b4,a5,a6⟩:=hc j y hy;have HV:=I (Y.o.symm.trans (z1z hy));have HC:=I (IH.o y (List.mem_of_getElem? hy) (d+1) ks b (ob+j*10) wr (by omega) (zb a5 C.o a4) ((a6.under C.o).more C.o.size));clear hc a5 a6 hy Y b4 a4;cases hrc:z0r y (d+1) with
         |false=>
          have a1:Hid (res= false):=I (HV.o.trans (by rw[hrc];exact Bool.false_and _));rw[hrc] at HC;clear hrc;go_wp2_with (go_at_call 107;refine zi HC.o ?_;intro w4 a0);go_ret;exact⟨z8 a1.o.symm,(beT C.o a0.o)⟩
         |true=>
          have a1:=I (HV.o.trans (by rw[hrc,Bool.true_and]));rw[hrc] at HC;clear hrc;go_wp2_with (go_at_call 107;refine zi HC.o ?_;intro w4 a0);go_roundg q;case measure=>omega
          case rel=>exact⟨j+1,by omega,by go_num,(beT C.o a0.o),a1.o.symm⟩
     ·have e4:(k !=1)= true:=by simpa using hk1
      have N:=I (z4o p (o+2) vk vn vf vs VA VD vns.length vits.length vc vd w1 d8.o a3.o);have F:valB k (.mk vk vn vf vs vns vits)= noneB vk vn vf vs vns.length vits.length:=by unfold valB;rw[if_neg hk1];rfl
      rw[F] at K;have x9:=X9.o;cases hvb:noneB vk vn vf vs vns.length vits.length with
      |false=>
       have Y:Hid (res= false):=I (K.o.trans (by rw[hvb];exact Bool.false_and _));rw[hvb] at N;clear hvb F;go_wp2_with (go_at_call 129;refine zd N.o ?_);go_ret;exact⟨z8 Y.o.symm,g.o⟩
      |true=>
       have b3:Hid (res= z09 its (d+1)):=I (K.o.trans (by rw[hvb,Bool.true_and]));rw[hvb] at N;clear hvb F;go_upto_region 7 with (go_at_call 129;refine zd N.o ?_);clear x9;go_loopg [68] its.length (fun q x u=>∃ j:Nat,j+q= its.length/\x= .int .i64 j/\Below w.heap.size w u/\z09 (its.drop j) (d+1)= res);case atStart=>exact⟨0,by omega,rfl,g.o,b3.o.symm⟩
       case round=>
        obtain⟨j,hj,rfl,a2,X⟩:=hrel;have C:=I a2;have Y:=I X;have u9:=(a2.cell (p:=⟨p,o+9,none⟩) G.o).trans D9.o;clear a2 X;cases gk with
        |zero=>
         obtain rfl:j= its.length:=by omega
         have c8: ¬ ((its.length:Int) <(its.length:Int)):=by omega
         have HV:=I (Y.o.symm.trans z1O);go_wp2;go_ret;exact⟨z8 HV.o.symm,C.o⟩
        |succ q=>
         have c9:(j:Int) <(its.length:Int):=by omega
         obtain⟨y,hy⟩:∃ y,its[j]?= some y:=⟨_,List.getElem?_eq_getElem (by omega)⟩;obtain⟨b,ob,rfl,a4,hc⟩:=HA.o (by omega);obtain⟨ks,b4,a5,a6⟩:=hc j y hy;have HV:=I (Y.o.symm.trans (z1z hy));have HC:=I (IH.o y (List.mem_of_getElem? hy) (d+1) ks b (ob+j*10) wr (by omega) (zb a5 C.o a4) ((a6.under C.o).more C.o.size));clear hc a5 a6 hy Y b4 a4;cases hrc:z0r y (d+1) with
         |false=>
          have a1:Hid (res= false):=I (HV.o.trans (by rw[hrc];exact Bool.false_and _));rw[hrc] at HC;clear hrc;go_wp2_with (go_at_call 107;refine zi HC.o ?_;intro w4 a0);go_ret;exact⟨z8 a1.o.symm,(beT C.o a0.o)⟩
         |true=>
          have a1:=I (HV.o.trans (by rw[hrc,Bool.true_and]));rw[hrc] at HC;clear hrc;go_wp2_with (go_at_call 107;refine zi HC.o ?_;intro w4 a0);go_roundg q;case measure=>omega
          case rel=>exact⟨j+1,by omega,by go_num,(beT C.o a0.o),a1.o.symm⟩
  ·have f4:(d:Int) > 12:=by omega
   have Y:Hid (res= false):=I (by rw[K.o,decide_eq_false hd];simp);go_enter Tryz.func107,Tryz.ntmps107;go_wp2_with (go_at_call 126;refine zd (b1.o _) ?_);go_ret;exact⟨z8 Y.o.symm,Below.refl _ _⟩
def z0n (t:ET):Bool:=decide (cntE t 0<=200) && z0r t 1
theorem z5R (t:ET) (cs:List Value) (w:World) (hv:ExpAt w w.heap.size cs t):Calls Tryz.prog 84 #[.agg ⟨cs⟩] w fun e w'=>e= .returned (.bool (z0n t))/\Below w.heap.size w w':=by
 have C:=I (eslen hv);have A:=I (zc w (.cells ⟨cs⟩ 54));have G:=I (zL w cs 54);have O:=I ((hv.under A.o).more A.o.size);have X:=I (zV w (.cells ⟨cs⟩ 54));clear hv;go_enter Tryz.func84,Tryz.ntmps84;go_upto_region 1 with (fail);generalize w.alloc (.cells ⟨cs⟩ 54)= W at*;have N:=I (z9c t cs W O.o);by_cases h:cntE t 0<=200
 ·have h2:(cntE t 0:Int)<=200:=by omega
  have K:Hid (z0n t= z0r t 1):=I (by unfold z0n;rw[decide_eq_true h,Bool.true_and]);clear h;go_wp2_with (first|((with_reducible refine za tyK54 _ rfl ?_ G.o rfl C.o ?_);exact wA rfl)|(go_at_call 106;refine zi N.o ?_;intro z g)|(go_at_call 107;refine zi (z9y t 1 cs w.heap.size 0 z (by omega) (zb G.o g.o X.o) ((O.o.under g.o).more g.o.size)) ?_;intro z2 F));go_ret;exact⟨z8 K.o.symm,(beT A.o g.o).trans (F.o.mono (Nat.le_trans A.o.size g.o.size))⟩
 ·have h2: ¬ (cntE t 0:Int)<=200:=by omega
  have K:Hid (z0n t= false):=I (by unfold z0n;rw[decide_eq_false h];rfl);clear h;go_wp2_with (first|((with_reducible refine za tyK54 _ rfl ?_ G.o rfl C.o ?_);exact wA rfl)|(go_at_call 106;refine zi N.o ?_;intro z g));go_ret;exact⟨z8 K.o.symm,(beT A.o g.o)⟩
end
end Go.Proofs.YtdjfpcmlffekkaaGreatDoor
