/- Parts of a proof: Lex3, Lex4, Lex5, Lex6, Parse. -/
import Derived.Test.YtmpbepjjbaeebaaGreatDoorPackC16
import Derived.Test.YtmpbepjjbaeebaaGreatDoorPackC29
import Derived.Test.YtmpbepjjbaeebaaGreatDoorPackC31
set_option maxHeartbeats 8000000
set_option maxRecDepth 100000
set_option linter.unusedVariables false
set_option linter.unusedSimpArgs false
namespace Go.Proofs.YtmpbepjjbaeebaaGreatDoor
section
open Go Go.RowKit
def dvalN (L:List UInt8) (i:Nat):Nat->Nat
 |0=>0
 |n+1=>10*dvalN L i n+ ((L[i+n]?.getD 48).toNat - 48)
theorem z2P {c:UInt8} (h:zG c= true):48<=c.toNat/\c.toNat<=57:=by
 unfold zG at h
 simp only[Bool.and_eq_true,decide_eq_true_eq] at h
 omega
theorem z7O {L:List UInt8} {i e:Nat} (h:z0e zG L i e):∀ n,i+n<=e->dvalN L i n < 10 ^ n
 |0,_=>by simp[dvalN]
 |n+1,hn=>by
  have ih:=z7O h n (by omega)
  obtain⟨c,hc,hd⟩:=h (i+n) (by omega) (by omega)
  have h2:=z2P hd
  unfold dvalN
  rw[hc,Nat.pow_succ]
  show 10*_+ (c.toNat - 48) < _
  omega
theorem z2H {L:List UInt8} {i e:Nat} (h:z0e zG L i e) {n:Nat} (hn:i+n<=e) (h18:n<=18):dvalN L i n < 1000000000000000000:=
 Nat.lt_of_lt_of_le (z7O h n hn) (by rw[show(1000000000000000000:Nat)= 10 ^ 18 from rfl];exact Nat.pow_le_pow_right (by omega) h18)
theorem z6r (s:ByteArray) (i e:Nat) (hie:i < e) (h18:e<=i+19) (hv63:dvalN s.data.toList i (e - i) < 9223372036854775808) (he:e<=s.size) (hsz:(s.size:Int)<=2000) (hc:z0e zG s.data.toList i e) (hs:z0W (fun c=>zG c ||(c.toNat:Int) ==112) s.data.toList e) (w:World):
  Calls Tryz.prog 176 #[.string s,.agg #[.int .i64 1,.int .i64 (i:Nat),.int .i64 (i:Nat),.int .i64 0,.float .f64 0,.string ⟨#[]⟩]] w fun r w'=>
   r= .returned (.tuple #[.agg #[.int .i64 2,.int .i64 (i:Nat),.int .i64 (e:Nat),.int .i64 (dvalN s.data.toList i (e - i):Nat),.float .f64 0,.string ⟨#[]⟩],.int .i64 0])/\Below w.heap.size w w':=by
 have HC:=I hc
 have HS:Hid (z0W zG s.data.toList e):=I fun c h=>by have:=hs c h;cases hd:zG c<;>simp_all
 have HL:Hid (s.data.toList.length= s.size):=I (by cases s;rfl)
 have HE:=I he
 have HR:=I (fun w=>z3I s i e (by omega) he hsz hc HS.out w)
 have HIE:=I hie
 have H18:=I h18
 have HP:Hid (∀ c,s.data.toList[e]?= some c->((c.toNat:Int) ==112)= false):=I fun c h=>by have:=hs c h;cases hd:((c.toNat:Int) ==112)<;>simp_all
 have hsf:∀ (W:World) (a:Addr),(store a (.float .f64 0)).run Tryz.prog W= stored Tryz.prog W a (.float .f64 0) .plain:=fun W a=>run_store _ _ _ _ _ rfl
 have hwr:wrap64 ((e:Int) - (i:Int))=(e:Int) - (i:Int):=by unfold wrap64;omega
 have h19: ¬ ((e:Int) - (i:Int) > 19):=by omega
 have HV:=I hv63
 clear hc hs he hie hv63
 have key:∃ b:Bool,True:=⟨true,trivial⟩
 by_cases hend:e < s.size
 ·obtain⟨c,hc⟩:∃ c,s.data.toList[e]?= some c:=⟨_,List.getElem?_eq_getElem (by rw[HL.out];exact hend)⟩
  have dk:=fun h=>z07 (k:=e) (c:=c) hc h
  have hp:=HP.out c hc
  have hlt:(e:Int) <(s.size:Int):=by omega
  clear hc key
  go_enter Tryz.func176,Tryz.ntmps176
  go_upto_region 2 with (go_at_call 202;refine(HR.out _).mono ?_;rintro r z ⟨rfl,rfl⟩)
  go_upto_region 19 with (fail)
  go_loopg [10,11] (e - i) (fun q x y u=>∃ k:Nat,k<=e/\k+q= e/\i<=k/\x= .int .u64 (dvalN s.data.toList i (k - i):Nat)/\y= .int .i64 (k:Nat)/\u=(w.alloc (.cells #[.int .i64 2,.int .i64 (i:Nat),.int .i64 (e:Nat),.int .i64 0,.float .f64 0,.string ⟨#[]⟩] 156)).alloc (.cells #[.int .i64 0,.int .i64 0,.int .i64 0,.int .i64 0,.float .f64 0,.string ⟨#[]⟩] 156))
  case atStart=>exact⟨i,(by have:=HIE.out;omega),(by have:=HIE.out;omega),Nat.le_refl _,(by rw[Nat.sub_self];rfl),rfl,rfl⟩
  case round=>
   obtain⟨k,hke,hkq,hik,rfl,rfl,rfl⟩:=hrel
   cases gk with
   |zero=>
    obtain rfl:k= e:=by omega
    have hv:=HV.out
    obtain⟨v,hve⟩:∃ v,dvalN s.data.toList i (k - i)= v:=⟨_,rfl⟩
    have HVE:=I hve
    rw[hve] at hv
    rw[hve]
    clear hve
    have hge: ¬ ((v:Int)>=9223372036854775808):=by omega
    have hvw:wrap64 (v:Int)=(v:Int):=by unfold wrap64;omega
    clear hv HV
    clear hke hkq hik
    go_wp2
    (try simp only[Exit.inBlock,Exit.then])
    refine bodyPost_ret (z03 rfl _ _ (w.heap.size+1) #[.int .i64 2,.int .i64 (i:Nat),.int .i64 (k:Nat),.int .i64 (v:Nat),.float .f64 0,.string ⟨#[]⟩] rfl (.int .i64 0) rfl (heap_alloc2_new w _ _) rfl) rfl ?_
    exact⟨by rw[HVE.out],z0l w _ _⟩
   |succ q=>
    have he:=HE.out
    have h18:=H18.out
    obtain⟨c2,hc2,hd2⟩:=HC.out k hik (by omega)
    have dk2:=fun h=>z07 (k:=k) (c:=c2) hc2 h
    have hdig:=z2P hd2
    have hv:=z2H HC.out (n:=k - i) (by omega) (by omega)
    have hnext:Hid (((dvalN s.data.toList i (k+1 - i):Nat):Int)=(dvalN s.data.toList i (k - i):Nat) *10+ ((c2.toNat:Int) - 48)):=I (by
     rw[show k+1 - i=(k - i)+1 by omega]
     show((10*dvalN s.data.toList i (k - i)+ ((s.data.toList[i+ (k - i)]?.getD 48).toNat - 48):Nat):Int)= _
     rw[show i+ (k - i)= k by omega,hc2]
     show((10*dvalN s.data.toList i (k - i)+ (c2.toNat - 48):Nat):Int)= _
     omega)
    generalize dvalN s.data.toList i (k - i)= v at*
    have hlt2:(k:Int) <(e:Int):=by omega
    have hlt3:(k:Int) <(s.size:Int):=by omega
    clear hc2 hd2
    go_wp2
    go_roundg q
    case measure=>omega
    case rel=>exact⟨k+1,by omega,by omega,by omega,(by rw[hnext.out]),by go_num,rfl⟩
 ·have hlt: ¬ ((e:Int) <(s.size:Int)):=by omega
  clear key
  go_enter Tryz.func176,Tryz.ntmps176
  go_upto_region 2 with (go_at_call 202;refine(HR.out _).mono ?_;rintro r z ⟨rfl,rfl⟩)
  go_upto_region 19 with (fail)
  go_loopg [10,11] (e - i) (fun q x y u=>∃ k:Nat,k<=e/\k+q= e/\i<=k/\x= .int .u64 (dvalN s.data.toList i (k - i):Nat)/\y= .int .i64 (k:Nat)/\u=(w.alloc (.cells #[.int .i64 2,.int .i64 (i:Nat),.int .i64 (e:Nat),.int .i64 0,.float .f64 0,.string ⟨#[]⟩] 156)).alloc (.cells #[.int .i64 0,.int .i64 0,.int .i64 0,.int .i64 0,.float .f64 0,.string ⟨#[]⟩] 156))
  case atStart=>exact⟨i,(by have:=HIE.out;omega),(by have:=HIE.out;omega),Nat.le_refl _,(by rw[Nat.sub_self];rfl),rfl,rfl⟩
  case round=>
   obtain⟨k,hke,hkq,hik,rfl,rfl,rfl⟩:=hrel
   cases gk with
   |zero=>
    obtain rfl:k= e:=by omega
    have hv:=HV.out
    obtain⟨v,hve⟩:∃ v,dvalN s.data.toList i (k - i)= v:=⟨_,rfl⟩
    have HVE:=I hve
    rw[hve] at hv
    rw[hve]
    clear hve
    have hge: ¬ ((v:Int)>=9223372036854775808):=by omega
    have hvw:wrap64 (v:Int)=(v:Int):=by unfold wrap64;omega
    clear hv HV
    clear hke hkq hik
    go_wp2
    (try simp only[Exit.inBlock,Exit.then])
    refine bodyPost_ret (z03 rfl _ _ (w.heap.size+1) #[.int .i64 2,.int .i64 (i:Nat),.int .i64 (k:Nat),.int .i64 (v:Nat),.float .f64 0,.string ⟨#[]⟩] rfl (.int .i64 0) rfl (heap_alloc2_new w _ _) rfl) rfl ?_
    exact⟨by rw[HVE.out],z0l w _ _⟩
   |succ q=>
    have he:=HE.out
    have h18:=H18.out
    obtain⟨c2,hc2,hd2⟩:=HC.out k hik (by omega)
    have dk2:=fun h=>z07 (k:=k) (c:=c2) hc2 h
    have hdig:=z2P hd2
    have hv:=z2H HC.out (n:=k - i) (by omega) (by omega)
    have hnext:Hid (((dvalN s.data.toList i (k+1 - i):Nat):Int)=(dvalN s.data.toList i (k - i):Nat) *10+ ((c2.toNat:Int) - 48)):=I (by
     rw[show k+1 - i=(k - i)+1 by omega]
     show((10*dvalN s.data.toList i (k - i)+ ((s.data.toList[i+ (k - i)]?.getD 48).toNat - 48):Nat):Int)= _
     rw[show i+ (k - i)= k by omega,hc2]
     show((10*dvalN s.data.toList i (k - i)+ (c2.toNat - 48):Nat):Int)= _
     omega)
    generalize dvalN s.data.toList i (k - i)= v at*
    have hlt2:(k:Int) <(e:Int):=by omega
    have hlt3:(k:Int) <(s.size:Int):=by omega
    clear hc2 hd2
    go_wp2
    go_roundg q
    case measure=>omega
    case rel=>exact⟨k+1,by omega,by omega,by omega,(by rw[hnext.out]),by go_num,rfl⟩
theorem zbx (s:ByteArray) (i e:Nat) (hie:i < e) (h18:e<=i+18) (he:e<=s.size) (hsz:(s.size:Int)<=2000) (hc:z0e zG s.data.toList i e) (hs:z0W (fun c=>zG c ||(c.toNat:Int) ==112) s.data.toList e) (w:World):
  Calls Tryz.prog 176 #[.string s,.agg #[.int .i64 1,.int .i64 (i:Nat),.int .i64 (i:Nat),.int .i64 0,.float .f64 0,.string ⟨#[]⟩]] w fun r w'=>
   r= .returned (.tuple #[.agg #[.int .i64 2,.int .i64 (i:Nat),.int .i64 (e:Nat),.int .i64 (dvalN s.data.toList i (e - i):Nat),.float .f64 0,.string ⟨#[]⟩],.int .i64 0])/\Below w.heap.size w w':=
 z6r s i e hie (by omega) (by have:=z2H hc (n:=e - i) (by omega) (by omega);omega) he hsz hc hs w
end
section
open Go Go.RowKit
def sigs:ByteArray:=⟨#[40,41,91,93,123,125,44,58,46,63,43,45,42,47,37,33,60]⟩
def pk (k:Nat):ByteArray:=sigs.extract k (k+1)
theorem zcg (k:Nat) (hk:k < 17) (W:World):
  (Instr.sliceAt 9 (.string ⟨#[40,41,91,93,123,125,44,58,46,63,43,45,42,47,37,33,60]⟩) (some (.int .i64 (k:Nat))) (some (.int .i64 ((k:Int)+1))) none).run Tryz.prog W= .ok (.string (pk k)) W:=
 z0I sigs (pk k) k (k+1) (by omega) (by show k+1<=17;omega) rfl W
theorem zab (s one t2:ByteArray) (i j:Nat) (hi:i < s.size) (hsz:(s.size:Int)<=2000) (h1:s.extract i (i+1)= one) (h2:s.extract i (min (i+2) s.size)= t2)
  (n1:(t2.toList ==[61,61])= false) (n2:(t2.toList ==[60,61])= false) (n3:(t2.toList ==[38,38])= false) (n4:(t2.toList ==[124,124])= false)
  (hj:j < 17) (hno:∀ k,k < j->((pk k).toList ==one.toList)= false) (hyes:((pk j).toList ==one.toList)= true) (w:World):
  Calls Tryz.prog 180 #[.string s,.agg #[.int .i64 1,.int .i64 (i:Nat),.int .i64 (i:Nat),.int .i64 0,.float .f64 0,.string ⟨#[]⟩]] w fun r w'=>
   r= .returned (.tuple #[.agg #[.int .i64 6,.int .i64 (i:Nat),.int .i64 ((i:Int)+1),.int .i64 0,.float .f64 0,.string one],.int .i64 0])/\Below w.heap.size w w':=by
 have HN:=I hno
 have HY:=I hyes
 have HJ:=I hj
 have HPK:=I (fun k hk W=>zcg k hk W)
 have hsl1:∀ W,(Instr.sliceAt 9 (.string s) (some (.int .i64 (i:Nat))) (some (.int .i64 ((i:Int)+1))) none).run Tryz.prog W= .ok (.string one) W:=fun W=>z0I s one i (i+1) (by omega) (by omega) h1 W
 have hsf:∀ (W:World) (a:Addr),(store a (.float .f64 0)).run Tryz.prog W= stored Tryz.prog W a (.float .f64 0) .plain:=fun W a=>run_store _ _ _ _ _ rfl
 by_cases h3:i+2<=s.size
 ·have hsl2:∀ W,(Instr.sliceAt 9 (.string s) (some (.int .i64 (i:Nat))) (some (.int .i64 ((i:Int)+2))) none).run Tryz.prog W= .ok (.string t2) W:=fun W=>z0I s t2 i (i+2) (by omega) (by omega) (by rw[← h2,Nat.min_eq_left h3]) W
  have hm:((i:Int)+2)<=(s.size:Int):=by omega
  clear hno hyes hj h1 h2
  go_enter Tryz.func180,Tryz.ntmps180
  go_upto_region 10 with (fail)
  go_loopg [9] j (fun q x u=>∃ k:Nat,k+q= j/\x= .int .i64 (k:Nat)/\u=(w.alloc (.cells #[.int .i64 6,.int .i64 (i:Nat),.int .i64 (i:Nat),.int .i64 0,.float .f64 0,.string ⟨#[]⟩] 156)).alloc (.cells #[.int .i64 0,.int .i64 0,.int .i64 0,.int .i64 0,.float .f64 0,.string ⟨#[]⟩] 156))
  case atStart=>exact⟨0,by omega,rfl,rfl⟩
  case round=>
   obtain⟨k,hkq,rfl,rfl⟩:=hrel
   have hj:=HJ.out
   have hpk:=fun W=>HPK.out k (by omega) W
   have hlt:(k:Int) < 17:=by omega
   cases gk with
   |zero=>
    obtain rfl:k= j:=by omega
    have hy:=HY.out
    clear hkq hj
    go_wp2
    (try simp only[Exit.inBlock,Exit.then])
    refine bodyPost_ret (z03 rfl _ _ (w.heap.size+1) #[.int .i64 6,.int .i64 (i:Nat),.int .i64 ((i:Int)+1),.int .i64 0,.float .f64 0,.string one] rfl (.int .i64 0) rfl (heap_alloc2_new w _ _) rfl) rfl ?_
    exact⟨rfl,z0l w _ _⟩
   |succ q=>
    have hn:=HN.out k (by omega)
    go_wp2
    go_roundg q
    case measure=>omega
    case rel=>exact⟨k+1,by omega,by go_num,rfl⟩
 ·have hsl2:∀ W,(Instr.sliceAt 9 (.string s) (some (.int .i64 (i:Nat))) (some (.int .i64 (s.size:Nat))) none).run Tryz.prog W= .ok (.string t2) W:=fun W=>z0I s t2 i s.size (by omega) (by omega) (by rw[← h2,Nat.min_eq_right (by omega)]) W
  have hm: ¬ (((i:Int)+2)<=(s.size:Int)):=by omega
  clear hno hyes hj h1 h2
  go_enter Tryz.func180,Tryz.ntmps180
  go_upto_region 10 with (fail)
  go_loopg [9] j (fun q x u=>∃ k:Nat,k+q= j/\x= .int .i64 (k:Nat)/\u=(w.alloc (.cells #[.int .i64 6,.int .i64 (i:Nat),.int .i64 (i:Nat),.int .i64 0,.float .f64 0,.string ⟨#[]⟩] 156)).alloc (.cells #[.int .i64 0,.int .i64 0,.int .i64 0,.int .i64 0,.float .f64 0,.string ⟨#[]⟩] 156))
  case atStart=>exact⟨0,by omega,rfl,rfl⟩
  case round=>
   obtain⟨k,hkq,rfl,rfl⟩:=hrel
   have hj:=HJ.out
   have hpk:=fun W=>HPK.out k (by omega) W
   have hlt:(k:Int) < 17:=by omega
   cases gk with
   |zero=>
    obtain rfl:k= j:=by omega
    have hy:=HY.out
    clear hkq hj
    go_wp2
    (try simp only[Exit.inBlock,Exit.then])
    refine bodyPost_ret (z03 rfl _ _ (w.heap.size+1) #[.int .i64 6,.int .i64 (i:Nat),.int .i64 ((i:Int)+1),.int .i64 0,.float .f64 0,.string one] rfl (.int .i64 0) rfl (heap_alloc2_new w _ _) rfl) rfl ?_
    exact⟨rfl,z0l w _ _⟩
   |succ q=>
    have hn:=HN.out k (by omega)
    go_wp2
    go_roundg q
    case measure=>omega
    case rel=>exact⟨k+1,by omega,by go_num,rfl⟩
end
section
open Go Go.RowKit
theorem z13 {fn:Func} {p u v:Tmp} (h:fn.results= #[.cell p 156,.tmp u,.tmp v]) (tmps:Array Value) (w:World) (g:Nat) (cs:List Value) (hs:cs.length= 6) (x y:Value)
  (hp:tmps.getD p undef= .pointer (some ⟨g,0,none⟩)) (hg:Whole 156 w g cs) (hu:tmps.getD u undef= x) (hv:tmps.getD v undef= y):(results fn tmps).run Tryz.prog w= .ok (.tuple #[.agg ⟨cs⟩,x,y]) w:=by
 have hp':tmps[p]?.getD undef= .pointer (some ⟨g,0,none⟩):=by simpa using hp
 have hu':tmps[u]?.getD undef= x:=by simpa using hu
 have hv':tmps[v]?.getD undef= y:=by simpa using hv
 have hl:=run_loadVar_mid (P:=Tryz.prog) w g 0 156 cs _ hg.range Tryz.underlying156 rfl (by rw[hs];kernel_rfl)
 simp[results,h,hp',hu',hv',asAddr,hl]
@[reducible] def z2b (w:World) (i:Nat):World:=(w.alloc (.cells #[.int .i64 0,.int .i64 0,.int .i64 0,.int .i64 0,.float .f64 0,.string ⟨#[]⟩] 156)).alloc (.cells #[.int .i64 1,.int .i64 (i:Nat),.int .i64 (i:Nat),.int .i64 0,.float .f64 0,.string ⟨#[]⟩] 156)
def LexC (f:FuncId) (s:ByteArray) (b:Nat) (t:Tok):Prop:=∀ w,Calls Tryz.prog f #[.string s,.agg #[.int .i64 1,.int .i64 (b:Nat),.int .i64 (b:Nat),.int .i64 0,.float .f64 0,.string ⟨#[]⟩]] w fun r w'=>
 r= .returned (.tuple #[.agg ⟨tokC t⟩,.int .i64 0])/\Below w.heap.size w w'
def NextC (s:ByteArray) (p:Nat) (b:Nat) (t:Tok):Prop:=∀ w,Calls Tryz.prog 140 #[.string s,.int .i64 (p:Nat)] w fun r w'=>
 r= .returned (.tuple #[.agg ⟨tokC t⟩,.int .i64 (b:Nat),.int .i64 0])/\Below w.heap.size w w'
theorem z4W (s:ByteArray) (p b:Nat) (c:UInt8) (t:Tok) (hpb:p<=b) (hb:b < s.size) (hsz:(s.size:Int)<=2000) (hbl:z0e z01 s.data.toList p b) (hc:s.data.toList[b]?= some c)
  (hk0:z01 c= false) (hk1:zG c= true) (hcall:LexC 176 s b t):NextC s p b t:=fun w=>by
 have HC:=I hbl
 have HE:=I hb
 have HCC:=I hc
 have HK0:=I hk0
 have HK1:=I hk1
 have HCALL:=I hcall
 have HB:=I (fun c w=>z3d c w)
 have HD:=I (fun c w=>z2m c w)
 have hne: ¬ ((b:Int)=(s.size:Int)):=by omega
 have hp0: ¬ ((p:Int) < 0):=by omega
 have hp1: ¬ ((p:Int) >(s.size:Int)):=by omega
 have hs1: ¬ ((s.size:Int) > 2000):=by omega
 have dk:=fun h=>z07 (k:=b) (c:=c) hc h
 have hbs:(b:Int) <(s.size:Int):=by omega
 have hsf:∀ (W:World) (a:Addr),(store a (.float .f64 0)).run Tryz.prog W= stored Tryz.prog W a (.float .f64 0) .plain:=fun W a=>run_store _ _ _ _ _ rfl
 clear hbl hc hk0 hk1 hcall hb
 have HPB:=I hpb
 clear hpb
 go_enter Tryz.func140,Tryz.ntmps140
 go_upto_region 3 with (fail)
 go_loopg [1] (b - p) (fun q x u=>∃ k:Nat,k<=b/\k+q= b/\p<=k/\x= .int .i64 (k:Nat)/\u= w.alloc (.cells #[.int .i64 0,.int .i64 0,.int .i64 0,.int .i64 0,.float .f64 0,.string ⟨#[]⟩] 156))
 case atStart=>exact⟨p,(by have:=HPB.out;omega),(by have:=HPB.out;omega),Nat.le_refl _,rfl,rfl⟩
 case round=>
  obtain⟨k,hke,hkq,hik,rfl,rfl⟩:=hrel
  cases gk with
  |zero=>
   obtain rfl:k= b:=by omega
   go_upto_region 12 with (first
    |(go_at_call 174;refine(HB.out c _).mono ?_;rw[HK0.out];rintro e z ⟨rfl,rfl⟩)
    |(go_at_call 175;refine(HD.out c _).mono ?_;rw[HK1.out];rintro e z ⟨rfl,rfl⟩))
   have HR7:Hid (Whole 156 (z2b w k) (w.heap.size+1) (tokC ⟨1,k,k,0,0,⟨#[]⟩⟩)):=I (heap_alloc2_new w _ _)
   have HR4:Hid (Whole 156 (z2b w k) w.heap.size (tokC ⟨0,0,0,0,0,⟨#[]⟩⟩)):=I ((Lib.alloc_old _ _ _ (by simp)).trans (heap_alloc_new w _))
   go_wp2_with (first
    |(go_at_call 176;refine(HCALL.out _).mono ?_;rintro e z ⟨rfl,hb⟩;have HZ7:=I (HR7.out.keep (hb.block _ (by simp)));have HZ4:=I (HR4.out.keep (hb.block _ (by simp;omega)));have HZB:=I hb;clear hb)
    |((with_reducible refine zh 156 _ _ rfl rfl ?hwd (w.heap.size+1) (tokC ⟨1,k,k,0,0,⟨#[]⟩⟩) (tokC t) HZ7.out ?hs5 ?hs6 ?hs7 ?hs8 ?hs9 ?_);(case hwd=>exact wantA rfl);(case hs5=>rfl);(case hs6=>rfl);(case hs7=>rfl);(case hs8=>kernel_rfl);(case hs9=>exact z0s t);intro Z hz hb;have HS7:=I hz;have HSB:=I hb;have HS4:=I (HZ4.out.keep (hb.block2 HZ4.out.lt (by omega) (by omega)));clear hz hb)
    |((with_reducible refine zc 156 _ rfl ?hwl (w.heap.size+1) 0 (tokC t) _ ?hl6 HS7.out.range Tryz.underlying156 rfl ?hl8 ?_);(case hwl=>exact wantA rfl);(case hl6=>rfl);(case hl8=>kernel_rfl))
    |((with_reducible refine zh 156 _ _ rfl rfl ?hwe w.heap.size (tokC ⟨0,0,0,0,0,⟨#[]⟩⟩) (tokC t) HS4.out ?ht5 ?ht6 ?ht7 ?ht8 ?ht9 ?_);(case hwe=>exact wantA rfl);(case ht5=>rfl);(case ht6=>rfl);(case ht7=>rfl);(case ht8=>kernel_rfl);(case ht9=>exact z0s t);intro Z2 hz hb;have HT4:=I hz;have HTB:=I hb;clear hz hb))
   (try simp only[Exit.inBlock,Exit.then])
   refine bodyPost_ret (z13 rfl _ _ w.heap.size (tokC t) rfl (.int .i64 (k:Nat)) (.int .i64 0) rfl HT4.out rfl rfl) rfl ?_
   have h1:=z0l w (.cells (tokC ⟨0,0,0,0,0,⟨#[]⟩⟩).toArray 156) (.cells (tokC ⟨1,k,k,0,0,⟨#[]⟩⟩).toArray 156)
   have h2:Below w.heap.size _ z:=HZB.out.mono (by simp;omega)
   have h12:=h1.trans h2
   have h3:=HSB.out.below (B:=w.heap.size) h12.size (by omega) (by omega)
   have h4:=HTB.out.below (B:=w.heap.size) (Nat.le_trans h12.size h3.size) (Nat.le_refl _) (Nat.le_refl _)
   exact⟨rfl,(h12.trans h3).trans h4⟩
  |succ q=>
   have he:=HE.out
   obtain⟨c2,hc2,hd2⟩:=HC.out k hik (by omega)
   have dk2:=fun h=>z07 (k:=k) (c:=c2) hc2 h
   have HB2:=I hd2
   have hlt:(k:Int) <(s.size:Int):=by omega
   clear hc2 hd2
   go_wp2_with (go_at_call 174;refine(HB.out c2 _).mono ?_;rw[HB2.out];rintro e z ⟨rfl,rfl⟩)
   go_roundg q
   case measure=>omega
   case rel=>exact⟨k+1,by omega,by omega,by omega,by go_num,rfl⟩
theorem za5 (s:ByteArray) (p b:Nat) (c:UInt8) (t:Tok) (hpb:p<=b) (hb:b < s.size) (hsz:(s.size:Int)<=2000) (hbl:z0e z01 s.data.toList p b) (hc:s.data.toList[b]?= some c)
  (hk0:z01 c= false) (hk1:zG c= false) (hk2:z0S c= true) (hcall:LexC 178 s b t):NextC s p b t:=fun w=>by
 have HC:=I hbl
 have HE:=I hb
 have HCC:=I hc
 have HK0:=I hk0
 have HK1:=I hk1
 have HK2:=I hk2
 have HLE:=I (fun c w=>z4E c w)
 have HCALL:=I hcall
 have HB:=I (fun c w=>z3d c w)
 have HD:=I (fun c w=>z2m c w)
 have hne: ¬ ((b:Int)=(s.size:Int)):=by omega
 have hp0: ¬ ((p:Int) < 0):=by omega
 have hp1: ¬ ((p:Int) >(s.size:Int)):=by omega
 have hs1: ¬ ((s.size:Int) > 2000):=by omega
 have dk:=fun h=>z07 (k:=b) (c:=c) hc h
 have hbs:(b:Int) <(s.size:Int):=by omega
 have hsf:∀ (W:World) (a:Addr),(store a (.float .f64 0)).run Tryz.prog W= stored Tryz.prog W a (.float .f64 0) .plain:=fun W a=>run_store _ _ _ _ _ rfl
 clear hbl hc hk0 hk1 hk2 hcall hb
 have HPB:=I hpb
 clear hpb
 go_enter Tryz.func140,Tryz.ntmps140
 go_upto_region 3 with (fail)
 go_loopg [1] (b - p) (fun q x u=>∃ k:Nat,k<=b/\k+q= b/\p<=k/\x= .int .i64 (k:Nat)/\u= w.alloc (.cells #[.int .i64 0,.int .i64 0,.int .i64 0,.int .i64 0,.float .f64 0,.string ⟨#[]⟩] 156))
 case atStart=>exact⟨p,(by have:=HPB.out;omega),(by have:=HPB.out;omega),Nat.le_refl _,rfl,rfl⟩
 case round=>
  obtain⟨k,hke,hkq,hik,rfl,rfl⟩:=hrel
  cases gk with
  |zero=>
   obtain rfl:k= b:=by omega
   go_upto_region 14 with (first
    |(go_at_call 174;refine(HB.out c _).mono ?_;rw[HK0.out];rintro e z ⟨rfl,rfl⟩)
    |(go_at_call 175;refine(HD.out c _).mono ?_;rw[HK1.out];rintro e z ⟨rfl,rfl⟩)
    |(go_at_call 177;refine(HLE.out c _).mono ?_;rw[HK2.out];rintro e z ⟨rfl,rfl⟩))
   have HR7:Hid (Whole 156 (z2b w k) (w.heap.size+1) (tokC ⟨1,k,k,0,0,⟨#[]⟩⟩)):=I (heap_alloc2_new w _ _)
   have HR4:Hid (Whole 156 (z2b w k) w.heap.size (tokC ⟨0,0,0,0,0,⟨#[]⟩⟩)):=I ((Lib.alloc_old _ _ _ (by simp)).trans (heap_alloc_new w _))
   go_wp2_with (first
    |(go_at_call 178;refine(HCALL.out _).mono ?_;rintro e z ⟨rfl,hb⟩;have HZ7:=I (HR7.out.keep (hb.block _ (by simp)));have HZ4:=I (HR4.out.keep (hb.block _ (by simp;omega)));have HZB:=I hb;clear hb)
    |((with_reducible refine zh 156 _ _ rfl rfl ?hwd (w.heap.size+1) (tokC ⟨1,k,k,0,0,⟨#[]⟩⟩) (tokC t) HZ7.out ?hs5 ?hs6 ?hs7 ?hs8 ?hs9 ?_);(case hwd=>exact wantA rfl);(case hs5=>rfl);(case hs6=>rfl);(case hs7=>rfl);(case hs8=>kernel_rfl);(case hs9=>exact z0s t);intro Z hz hb;have HS7:=I hz;have HSB:=I hb;have HS4:=I (HZ4.out.keep (hb.block2 HZ4.out.lt (by omega) (by omega)));clear hz hb)
    |((with_reducible refine zc 156 _ rfl ?hwl (w.heap.size+1) 0 (tokC t) _ ?hl6 HS7.out.range Tryz.underlying156 rfl ?hl8 ?_);(case hwl=>exact wantA rfl);(case hl6=>rfl);(case hl8=>kernel_rfl))
    |((with_reducible refine zh 156 _ _ rfl rfl ?hwe w.heap.size (tokC ⟨0,0,0,0,0,⟨#[]⟩⟩) (tokC t) HS4.out ?ht5 ?ht6 ?ht7 ?ht8 ?ht9 ?_);(case hwe=>exact wantA rfl);(case ht5=>rfl);(case ht6=>rfl);(case ht7=>rfl);(case ht8=>kernel_rfl);(case ht9=>exact z0s t);intro Z2 hz hb;have HT4:=I hz;have HTB:=I hb;clear hz hb))
   (try simp only[Exit.inBlock,Exit.then])
   refine bodyPost_ret (z13 rfl _ _ w.heap.size (tokC t) rfl (.int .i64 (k:Nat)) (.int .i64 0) rfl HT4.out rfl rfl) rfl ?_
   have h1:=z0l w (.cells (tokC ⟨0,0,0,0,0,⟨#[]⟩⟩).toArray 156) (.cells (tokC ⟨1,k,k,0,0,⟨#[]⟩⟩).toArray 156)
   have h2:Below w.heap.size _ z:=HZB.out.mono (by simp;omega)
   have h12:=h1.trans h2
   have h3:=HSB.out.below (B:=w.heap.size) h12.size (by omega) (by omega)
   have h4:=HTB.out.below (B:=w.heap.size) (Nat.le_trans h12.size h3.size) (Nat.le_refl _) (Nat.le_refl _)
   exact⟨rfl,(h12.trans h3).trans h4⟩
  |succ q=>
   have he:=HE.out
   obtain⟨c2,hc2,hd2⟩:=HC.out k hik (by omega)
   have dk2:=fun h=>z07 (k:=k) (c:=c2) hc2 h
   have HB2:=I hd2
   have hlt:(k:Int) <(s.size:Int):=by omega
   clear hc2 hd2
   go_wp2_with (go_at_call 174;refine(HB.out c2 _).mono ?_;rw[HB2.out];rintro e z ⟨rfl,rfl⟩)
   go_roundg q
   case measure=>omega
   case rel=>exact⟨k+1,by omega,by omega,by omega,by go_num,rfl⟩
theorem z68 (s:ByteArray) (p b:Nat) (c:UInt8) (t:Tok) (hpb:p<=b) (hb:b < s.size) (hsz:(s.size:Int)<=2000) (hbl:z0e z01 s.data.toList p b) (hc:s.data.toList[b]?= some c)
  (hk0:z01 c= false) (hk1:zG c= false) (hk2:z0S c= false) (hk3:((c.toNat:Int) ==34)= false) (hcall:LexC 180 s b t):NextC s p b t:=fun w=>by
 have HC:=I hbl
 have HE:=I hb
 have HCC:=I hc
 have HK0:=I hk0
 have HK1:=I hk1
 have HK2:=I hk2
 have HLE:=I (fun c w=>z4E c w)
 have HCALL:=I hcall
 have HB:=I (fun c w=>z3d c w)
 have HD:=I (fun c w=>z2m c w)
 have hne: ¬ ((b:Int)=(s.size:Int)):=by omega
 have hp0: ¬ ((p:Int) < 0):=by omega
 have hp1: ¬ ((p:Int) >(s.size:Int)):=by omega
 have hs1: ¬ ((s.size:Int) > 2000):=by omega
 have dk:=fun h=>z07 (k:=b) (c:=c) hc h
 have hbs:(b:Int) <(s.size:Int):=by omega
 have hsf:∀ (W:World) (a:Addr),(store a (.float .f64 0)).run Tryz.prog W= stored Tryz.prog W a (.float .f64 0) .plain:=fun W a=>run_store _ _ _ _ _ rfl
 clear hbl hc hk0 hk1 hk2 hcall hb
 have HPB:=I hpb
 clear hpb
 go_enter Tryz.func140,Tryz.ntmps140
 go_upto_region 3 with (fail)
 go_loopg [1] (b - p) (fun q x u=>∃ k:Nat,k<=b/\k+q= b/\p<=k/\x= .int .i64 (k:Nat)/\u= w.alloc (.cells #[.int .i64 0,.int .i64 0,.int .i64 0,.int .i64 0,.float .f64 0,.string ⟨#[]⟩] 156))
 case atStart=>exact⟨p,(by have:=HPB.out;omega),(by have:=HPB.out;omega),Nat.le_refl _,rfl,rfl⟩
 case round=>
  obtain⟨k,hke,hkq,hik,rfl,rfl⟩:=hrel
  cases gk with
  |zero=>
   obtain rfl:k= b:=by omega
   go_upto_region 10 with (first
    |(go_at_call 174;refine(HB.out c _).mono ?_;rw[HK0.out];rintro e z ⟨rfl,rfl⟩)
    |(go_at_call 175;refine(HD.out c _).mono ?_;rw[HK1.out];rintro e z ⟨rfl,rfl⟩)
    |(go_at_call 177;refine(HLE.out c _).mono ?_;rw[HK2.out];rintro e z ⟨rfl,rfl⟩))
   have HR7:Hid (Whole 156 (z2b w k) (w.heap.size+1) (tokC ⟨1,k,k,0,0,⟨#[]⟩⟩)):=I (heap_alloc2_new w _ _)
   have HR4:Hid (Whole 156 (z2b w k) w.heap.size (tokC ⟨0,0,0,0,0,⟨#[]⟩⟩)):=I ((Lib.alloc_old _ _ _ (by simp)).trans (heap_alloc_new w _))
   go_wp2_with (first
    |(go_at_call 180;refine(HCALL.out _).mono ?_;rintro e z ⟨rfl,hb⟩;have HZ7:=I (HR7.out.keep (hb.block _ (by simp)));have HZ4:=I (HR4.out.keep (hb.block _ (by simp;omega)));have HZB:=I hb;clear hb)
    |((with_reducible refine zh 156 _ _ rfl rfl ?hwd (w.heap.size+1) (tokC ⟨1,k,k,0,0,⟨#[]⟩⟩) (tokC t) HZ7.out ?hs5 ?hs6 ?hs7 ?hs8 ?hs9 ?_);(case hwd=>exact wantA rfl);(case hs5=>rfl);(case hs6=>rfl);(case hs7=>rfl);(case hs8=>kernel_rfl);(case hs9=>exact z0s t);intro Z hz hb;have HS7:=I hz;have HSB:=I hb;have HS4:=I (HZ4.out.keep (hb.block2 HZ4.out.lt (by omega) (by omega)));clear hz hb)
    |((with_reducible refine zc 156 _ rfl ?hwl (w.heap.size+1) 0 (tokC t) _ ?hl6 HS7.out.range Tryz.underlying156 rfl ?hl8 ?_);(case hwl=>exact wantA rfl);(case hl6=>rfl);(case hl8=>kernel_rfl))
    |((with_reducible refine zh 156 _ _ rfl rfl ?hwe w.heap.size (tokC ⟨0,0,0,0,0,⟨#[]⟩⟩) (tokC t) HS4.out ?ht5 ?ht6 ?ht7 ?ht8 ?ht9 ?_);(case hwe=>exact wantA rfl);(case ht5=>rfl);(case ht6=>rfl);(case ht7=>rfl);(case ht8=>kernel_rfl);(case ht9=>exact z0s t);intro Z2 hz hb;have HT4:=I hz;have HTB:=I hb;clear hz hb))
   (try simp only[Exit.inBlock,Exit.then])
   refine bodyPost_ret (z13 rfl _ _ w.heap.size (tokC t) rfl (.int .i64 (k:Nat)) (.int .i64 0) rfl HT4.out rfl rfl) rfl ?_
   have h1:=z0l w (.cells (tokC ⟨0,0,0,0,0,⟨#[]⟩⟩).toArray 156) (.cells (tokC ⟨1,k,k,0,0,⟨#[]⟩⟩).toArray 156)
   have h2:Below w.heap.size _ z:=HZB.out.mono (by simp;omega)
   have h12:=h1.trans h2
   have h3:=HSB.out.below (B:=w.heap.size) h12.size (by omega) (by omega)
   have h4:=HTB.out.below (B:=w.heap.size) (Nat.le_trans h12.size h3.size) (Nat.le_refl _) (Nat.le_refl _)
   exact⟨rfl,(h12.trans h3).trans h4⟩
  |succ q=>
   have he:=HE.out
   obtain⟨c2,hc2,hd2⟩:=HC.out k hik (by omega)
   have dk2:=fun h=>z07 (k:=k) (c:=c2) hc2 h
   have HB2:=I hd2
   have hlt:(k:Int) <(s.size:Int):=by omega
   clear hc2 hd2
   go_wp2_with (go_at_call 174;refine(HB.out c2 _).mono ?_;rw[HB2.out];rintro e z ⟨rfl,rfl⟩)
   go_roundg q
   case measure=>omega
   case rel=>exact⟨k+1,by omega,by omega,by omega,by go_num,rfl⟩
theorem zcr (s:ByteArray) (p:Nat) (hpb:p<=s.size) (hsz:(s.size:Int)<=2000) (hbl:z0e z01 s.data.toList p s.size):NextC s p s.size ⟨1,s.size,s.size,0,0,⟨#[]⟩⟩:=fun w=>by
 obtain⟨b,hb⟩:∃ b,s.size= b:=⟨_,rfl⟩
 have HC:=I hbl
 have HE:=I hb
 have HB:=I (fun c w=>z3d c w)
 have hp0: ¬ ((p:Int) < 0):=by omega
 have hp1: ¬ ((p:Int) >(s.size:Int)):=by omega
 have hs1: ¬ ((s.size:Int) > 2000):=by omega
 have hsf:∀ (W:World) (a:Addr),(store a (.float .f64 0)).run Tryz.prog W= stored Tryz.prog W a (.float .f64 0) .plain:=fun W a=>run_store _ _ _ _ _ rfl
 have HPB:=I hpb
 clear hbl hb hpb
 go_enter Tryz.func140,Tryz.ntmps140
 go_upto_region 3 with (fail)
 go_loopg [1] (s.size - p) (fun q x u=>∃ k:Nat,k<=s.size/\k+q= s.size/\p<=k/\x= .int .i64 (k:Nat)/\u= w.alloc (.cells #[.int .i64 0,.int .i64 0,.int .i64 0,.int .i64 0,.float .f64 0,.string ⟨#[]⟩] 156))
 case atStart=>exact⟨p,(by have:=HPB.out;omega),(by have:=HPB.out;omega),Nat.le_refl _,rfl,rfl⟩
 case round=>
  obtain⟨k,hke,hkq,hik,rfl,rfl⟩:=hrel
  cases gk with
  |zero=>
   have hkk:Hid (k= s.size):=I (by omega)
   have hlt: ¬ ((k:Int) <(s.size:Int)):=by omega
   have heq:(k:Int)=(s.size:Int):=by omega
   go_wp2
   (try simp only[Exit.inBlock,Exit.then])
   refine bodyPost_ret (z13 rfl _ _ w.heap.size (tokC ⟨1,s.size,s.size,0,0,⟨#[]⟩⟩) rfl (.int .i64 (s.size:Nat)) (.int .i64 0) rfl ((Lib.alloc_old _ _ _ (by simp)).trans (heap_alloc_new w _)) rfl rfl) rfl ?_
   exact⟨rfl,z0l w _ _⟩
  |succ q=>
   obtain⟨c2,hc2,hd2⟩:=HC.out k hik (by omega)
   have dk2:=fun h=>z07 (k:=k) (c:=c2) hc2 h
   have HB2:=I hd2
   have hlt:(k:Int) <(s.size:Int):=by omega
   clear hc2 hd2
   go_wp2_with (go_at_call 174;refine(HB.out c2 _).mono ?_;rw[HB2.out];rintro e z ⟨rfl,rfl⟩)
   go_roundg q
   case measure=>omega
   case rel=>exact⟨k+1,by omega,by omega,by omega,by go_num,rfl⟩
end
section
open Go Go.RowKit
theorem z6C {α:Type} {T:TypeId} {k base:Nat} {enc:α->List Value} {w:World} {v:Value} {l:List α} (h:OwnSl T k enc w base v l) {g:Nat} (hv:v.ownBlock= some g):g < w.heap.size:=by
 rcases h.2 with ⟨rfl,_⟩|⟨g2,cap,cur,rfl,_,hg,_⟩
 ·cases hv
 ·have h2:g2= g:=by simpa [Value.ownBlock] using hv
  subst h2
  rcases Nat.lt_or_ge g2 w.heap.size with h2|h2
  ·exact h2
  ·rw[Array.getElem?_eq_none h2] at hg;cases hg
theorem z8m {α:Type} {T:TypeId} {k base:Nat} {enc:α->List Value} {w:World} {v:Value} {l:List α} (h:OwnSl T k enc w base v l):∃ A n c,v= .slice A n c:=by
 rcases h.2 with ⟨rfl,_⟩|⟨g,cap,cur,rfl,_⟩
 ·exact⟨_,_,_,rfl⟩
 ·exact⟨_,_,_,rfl⟩
theorem z8l {T:TypeId} {W2 W4:World} {zb:Nat} {cs:List Value} {v x:Value} {o:Obj} (h:Whole T W2 zb cs) (hne:∀ g,v.ownBlock= some g->g≠zb) (hg:(W2.alloc o).grownBy W4 v.ownBlock) (k:Nat) (hx:cs[k]?= some x):W4.cell? ⟨zb,k,none⟩= some x:=by
 have h1:=hg.block zb (by have:=h.lt;simp;omega) (fun he=>hne zb he.symm rfl)
 have h2:=(ze W2 o).block zb h.lt
 exact((h.keep h2).keep h1).cells k hx
inductive LexRun (s:ByteArray):Nat->List Tok->Prop
 |stop (p b:Nat) (t:Tok):NextC s p b t->t.kind= 1->LexRun s p []
 |more (p b p':Nat) (t:Tok) (ts:List Tok):NextC s p b t->t.kind≠1->t.next=(p':Int)->LexRun s p' ts->LexRun s p (t::ts)
theorem z65 (t:Tok):(tokC t).length= 6:=rfl
theorem zdu (s:ByteArray) (toks:List Tok) (h:LexRun s 0 toks) (hlen:toks.length<=2000) (w:World):Calls Tryz.prog 97 #[.string s] w fun r w'=>
  ∃ v,r= .returned (.tuple #[v,.int .i64 0,.int .i64 0])/\OwnSl 156 6 tokC w' w.heap.size v toks/\Below w.heap.size w w':=by
 obtain⟨i0,hi0,hz0,hz1,hz2⟩:=info_parts z2q
 have HI0:=I hi0
 have HZ0:=I hz0
 have HZ1:=I hz1
 have HZ2:=I hz2
 have H:=I h
 have HLEN:=I hlen
 clear hi0 hz0 hz1 hz2 h hlen
 go_enter Tryz.func97,Tryz.ntmps97
 go_upto_region 3 with (fail)
 go_loopg [5,6] toks.length (fun q x y u=>∃ (done rest:List Tok) (p:Nat),toks= done ++ rest/\rest.length= q/\OwnSl 156 6 tokC u w.heap.size x done/\y= .int .i64 (p:Nat)/\LexRun s p rest/\Below w.heap.size w u)
 case atStart=>exact⟨[],toks,0,rfl,rfl,OwnSl.nil w w.heap.size,rfl,H.out,Below.refl _ _⟩
 case round=>
  rename_i x y u
  obtain⟨done,rest,p,htk,hq,hown,rfl,hrun,hbw⟩:=hrel
  have HOWN:=I hown
  have HBW:=I hbw
  have HTK:=I htk
  obtain⟨A,n,c,rfl⟩:=z8m hown
  clear hown hbw htk
  cases hrun with
  |stop _ b t hnx hk1=>
   have HNX:=I hnx
   have hkt:(t.kind ==1)= true:=by simpa using hk1
   clear hnx hk1
   go_wp2_with (first
    |(go_at_call 140;refine(HNX.out _).mono ?_;rintro e z ⟨rfl,hb⟩;have HBZ:=I hb;clear hb)
    |((with_reducible refine z0x 156 _ _ rfl rfl ?hwe z ?zne (tokC t) ?hz1 ?hz2 ?hz3 ?hz4 ?hz5 ?hz6 ?_);(case hwe=>exact wantA rfl);(case hz1=>rfl);(case hz2=>rfl);(case hz3=>rfl);(case hz4=>rfl);(case hz5=>kernel_rfl);(case hz6=>exact z0s t);intro W2 hz hb hlt;have k0:=hz.cells 0 rfl;have HX2:=I hz;have HB2:=I hb;have HLT2:=I hlt;clear hz hb hlt))
   go_ret3
   refine⟨_,rfl,?_,?_⟩
   ·have:=HTK.out
    rw[this,List.append_nil]
    exact(HOWN.out.below HBZ.out).below HB2.out
   ·exact(HBW.out.trans (HBZ.out.mono HBW.out.size)).trans (HB2.out.mono (Nat.le_trans HBW.out.size HBZ.out.size))
  |more _ b p' t ts hnx hk1 hnext hts=>
   have HNX:=I hnx
   have hkt:(t.kind ==1)= false:=by simpa using hk1
   have HNXT:=I hnext
   have HTS:=I hts
   have HT2:Hid ((tokC t)[2]?= some (.int .i64 (p':Nat))):=I (by show some (Value.int .i64 t.next)= _;rw[hnext])
   have hql:ts.length+1= gk:=hq
   have hl:Hid (done.length+1<=2000):=I (by have h1:=HLEN.out;rw[HTK.out,List.length_append,List.length_cons] at h1;omega)
   have HK1:Hid (done.length+1<=maxLen):=I (by have:=hl.out;unfold maxLen;omega)
   have HK2:Hid ((done.length+1) *56<=140737488355328):=I (by have:=hl.out;omega)
   clear hnx hk1 hnext hts hq
   go_wp2_with (first
    |(go_at_call 140;refine(HNX.out _).mono ?_;rintro e z ⟨rfl,hb⟩;have HBZ:=I hb;clear hb)
    |((with_reducible refine z0x 156 _ _ rfl rfl ?hwe z ?zne (tokC t) ?hz1 ?hz2 ?hz3 ?hz4 ?hz5 ?hz6 ?_);(case hwe=>exact wantA rfl);(case hz1=>rfl);(case hz2=>rfl);(case hz3=>rfl);(case hz4=>rfl);(case hz5=>kernel_rfl);(case hz6=>exact z0s t);intro W2 hz hb hlt;have k0:=hz.cells 0 rfl;have HX2:=I hz;have HB2:=I hb;have HLT2:=I hlt;have HO2:=I ((HOWN.out.below HBZ.out).below hb);clear hz hb hlt)
    |((with_reducible refine zc 156 _ rfl ?hwl z.heap.size 0 (tokC t) _ ?hl6 HX2.out.range Tryz.underlying156 rfl ?hl8 ?_);(case hwl=>exact wantA rfl);(case hl6=>rfl);(case hl8=>kernel_rfl))
    |((with_reducible refine z1R 116 _ rfl ?hw3 156 i0 _ (tokC t) ?hx3 Tryz.underlying116 HI0.out HZ0.out ?hs3 ?h03 ?hm3 ?_);(case hw3=>exact wantA rfl);(case hx3=>rfl);(case hs3=>exact HZ1.out);(case h03=>show 0 < 6;decide);(case hm3=>show 6<=1000;decide);have HO3:=I (HO2.out.below (ze W2 (.cells ⟨tokC t⟩ 156)));have HC3:=I (z0D W2 (tokC t) 156);have HS3:Hid (w.heap.size<=(W2.alloc (.cells ⟨tokC t⟩ 156)).heap.size):=I (by have h1:=HBW.out.size;have h2:=HBZ.out.size;have h3:=HB2.out.size;simp;omega))
    |(at_builtin;refine zde rfl _ _ 116 rfl w.heap.size 156 i0 _ 6 56 tokC Tryz.underlying116 HI0.out HZ0.out HZ1.out HZ2.out rfl (by decide) z65 z0s _ _ rfl HO3.out W2.heap.size 1 t rfl HC3.out HK1.out HK2.out HS3.out ?_;intro v4 W4 hown4 hg4;have HO4:=I hown4;have HG4:=I hg4;have k2:=z8l HX2.out (fun g hg=>Nat.ne_of_lt (Nat.lt_of_lt_of_le (z6C HOWN.out hg) HBZ.out.size)) hg4 2 HT2.out;clear hown4 hg4))
   go_roundg ts.length
   case measure=>omega
   case rel=>
    refine⟨done ++ [t],ts,p',by rw[HTK.out,List.append_assoc];rfl,rfl,HO4.out,rfl,HTS.out,?_⟩
    have h1:=(HBW.out.trans (HBZ.out.mono HBW.out.size)).trans (HB2.out.mono (Nat.le_trans HBW.out.size HBZ.out.size))
    have h2:=h1.trans ((ze W2 (.cells ⟨tokC t⟩ 156)).mono h1.size)
    exact h2.grown HG4.out h2.size fun k hk=>HOWN.out.block hk
end
section
open Go Go.RowKit
theorem z87 {fn:Func} {p u v:Tmp} (h:fn.results= #[.cell p 29,.tmp u,.tmp v]) (tmps:Array Value) (w:World) (g:Nat) (cs:List Value) (hl:cs.length= 10) (x y:Value)
  (hp:tmps.getD p undef= .pointer (some ⟨g,0,none⟩)) (hm:Whole 29 w g cs) (hu:tmps.getD u undef= x) (hv:tmps.getD v undef= y):(results fn tmps).run Tryz.prog w= .ok (.tuple #[.agg ⟨cs⟩,x,y]) w:=by
 have hp':tmps[p]?.getD undef= .pointer (some ⟨g,0,none⟩):=by simpa using hp
 have hu':tmps[u]?.getD undef= x:=by simpa using hu
 have hv':tmps[v]?.getD undef= y:=by simpa using hv
 have hl:=run_loadVar_mid (P:=Tryz.prog) w g 0 29 cs _ hm.range Tryz.underlying29 rfl (by rw[hl];kernel_rfl)
 simp[results,h,hp',hu',hv',asAddr,hl]
theorem zds {w:World} {base:Nat} {v:Value} {toks:List Tok} (h:OwnSl 156 6 tokC w base v toks) (h0:0 < toks.length):
  ∃ tb c,v= .slice (some ⟨tb,0,none⟩) toks.length c/\base<=tb/\tb < w.heap.size/\∀ (j:Nat) t,toks[j]?= some t->w.rangeAt tb (j*6) (tokC t):=by
 have hat:=h.at z65
 rcases h.2 with ⟨rfl,h1⟩|⟨g,cap,cur,rfl,hb,hg,_⟩
 ·omega
 ·have hlt:=z6C h (g:=g) rfl
  refine⟨g,cap,rfl,hb,hlt,fun j t ht a u hu=> ?_⟩
  have:=World.ownsRow.cells h (g:=g) rfl (j*6+a) u (z11 z65 toks j t ht a u hu)
  rw[Addr.add_mid] at this
  rw[show j*6+a= 0+ (j*6+a) by omega];exact this
theorem zcc (s:ByteArray) (toks:List Tok) (t:ET) (h:Nat) (hsz:(s.size:Int)<=2000) (hlex:LexRun s 0 toks) (hlen:toks.length<=2000) (hne:0 < toks.length)
  (hp:∀ pb tb c,PCon pb tb c (s.size:Int) toks 98 0 toks.length h t) (hh:h<=100)
  (hr:∀ cs w,ExpAt w w.heap.size cs t->Calls Tryz.prog 30 #[.agg ⟨cs⟩] w fun e w'=>e= .returned (.bool true)/\Below w.heap.size w w') (w:World):
  Calls Tryz.prog 57 #[.string s] w fun e w'=>∃ cs,e= .returned (.tuple #[.agg ⟨cs⟩,.int .i64 0,.int .i64 0])/\KeptP (fun b=>w.heap.size<=b) w' cs t/\Below w.heap.size w w':=by
 have HLX:=I (fun w=>zdu s toks hlex hlen w)
 have HP:=I hp
 have HR:=I hr
 have HH:=I hh
 have HNE:=I hne
 have HLEN:=I hlen
 have hs1: ¬ ((s.size:Int) > 2000):=by omega
 clear hlex hlen hne hp hh hr
 go_enter Tryz.func57,Tryz.ntmps57
 go_upto_region 1 with (fail)
 have HR0:=I (Whole.new w zEc 29)
 have HB0:=I (ze w (.cells zEc.toArray 29))
 have hz:=z0n
 rw[hz]
 clear hz
 have HRW:Hid (w.heap.size <(w.alloc (.cells zEc.toArray 29)).heap.size):=I (by simp)
 generalize w.alloc (.cells zEc.toArray 29)= W at*
 obtain⟨p,hp⟩:∃ p,w.heap.size= p:=⟨_,rfl⟩
 rw[hp] at HR0 HRW
 rw[hp]
 have HPP:=I hp
 clear hp
 go_upto_region 4 with (go_at_call 97;refine(HLX.out _).mono ?_;rintro e w1 ⟨v,rfl,hown,hb1⟩;obtain⟨tb,c,hv,htb,htl,htok⟩:=zds hown HNE.out;subst hv;have HTB:=I htb;have HTL:=I htl;have HTOK:=I htok;have HB1:=I hb1;clear hown htb htl htok hb1)
 go_upto_region 7 with (fail)
 have HPS:Hid (PSt w1.heap.size tb c (s.size:Int) toks (w1.alloc (.cells #[.slice (some ⟨tb,0,none⟩) toks.length c,.int .i64 0,.int .i64 (s.size:Nat),.int .i64 0,.int .i64 0,.int .i64 0] 121)) 0 0):=I
  ⟨heap_alloc_new _ _,by have:=HTL.out;omega,⟨by have:=HTL.out;simp;omega,by simp⟩,fun j t ht=>zd (HTOK.out j t ht) (ze w1 _) HTL.out,by have:=HLEN.out;omega⟩
 have HB2:Hid (Below w1.heap.size w1 (w1.alloc (.cells #[.slice (some ⟨tb,0,none⟩) toks.length c,.int .i64 0,.int .i64 (s.size:Nat),.int .i64 0,.int .i64 0,.int .i64 0] 121))):=I (ze w1 _)
 have HS2:Hid (w1.heap.size <(w1.alloc (.cells #[.slice (some ⟨tb,0,none⟩) toks.length c,.int .i64 0,.int .i64 (s.size:Nat),.int .i64 0,.int .i64 0,.int .i64 0] 121)).heap.size):=I (by simp)
 generalize w1.alloc (.cells #[.slice (some ⟨tb,0,none⟩) toks.length c,.int .i64 0,.int .i64 (s.size:Nat),.int .i64 0,.int .i64 0,.int .i64 0] 121)= w2 at*
 obtain⟨pb,hpb⟩:∃ pb,w1.heap.size= pb:=⟨_,rfl⟩
 rw[hpb] at HPS
 rw[hpb]
 have HPB:=I hpb
 clear hpb
 have HCE:=I (HP.out pb tb c w2 0 HPS.out (Int.le_refl _) (by have:=HH.out;omega))
 go_upto_region 8 with (first
  |(go_at_call 98;refine HCE.out.mono ?_;rintro e w3 ⟨cs,rfl,hk,hps,hbut⟩;have HK:=I hk;have HPS3:=I hps;have HBT:=I hbut;have HCL:=I hk.len;clear hk hps hbut)
  |((with_reducible refine z0x 29 _ _ rfl rfl ?hwe w3 ?zne cs ?hz1 ?hz2 ?hz3 ?hz4 ?hz5 ?hz6 ?_);(case hwe=>exact wantA rfl);(case hz1=>rfl);(case hz2=>rw[HCL.out];rfl);(case hz3=>rfl);(case hz4=>rfl);(case hz5=>rw[HCL.out];kernel_rfl);(case hz6=>exact HK.out.one);intro w4 hz hb hlt;have HX4:=I hz;have HB4:=I hb;have HLT4:=I hlt;clear hz hb hlt))
 have HPS4:=I (HPS3.out.keep HB4.out)
 have HK4:=I (HK.out.to (q:=fun b=>w2.heap.size<=b) (fun b hp hlt=>⟨hp,HB4.out.block b hlt⟩) HB4.out.size)
 have HCR:=I (HR.out cs w4 HK4.out.exp)
 have d1:=HPS4.out.cell 1
 have d3:=HPS4.out.cell 3
 simp only[List.getElem?_toArray,List.getElem?_cons_succ,List.getElem?_cons_zero] at d1 d3
 go_upto_region 12 with (first
  |((with_reducible refine zc 29 _ rfl ?hwl w3.heap.size 0 cs _ ?hl6 HX4.out.range Tryz.underlying29 rfl ?hl8 ?_);(case hwl=>exact wantA rfl);(case hl6=>rfl);(case hl8=>rw[HCL.out];kernel_rfl))
  |(go_at_call 30;refine HCR.out.mono ?_;rintro e w5 ⟨rfl,hb⟩;have HB5:=I hb;clear hb))
 clear d1 d3
 have HPS5:=I (HPS4.out.keep HB5.out)
 have HX5:=I (HX4.out.keep (HB5.out.block _ HX4.out.lt))
 have HK5:=I (HK4.out.to (q:=fun b=>w2.heap.size<=b) (fun b hp hlt=>⟨hp,HB5.out.block b hlt⟩) HB5.out.size)
 have d3:=HPS5.out.cell 3
 simp only[List.getElem?_toArray,List.getElem?_cons_succ,List.getElem?_cons_zero] at d3
 have HP1:=I (HR0.out.keep (HB1.out.block p HRW.out))
 have HP2:=I (HP1.out.keep (HB2.out.block p (by have:=HP1.out.lt;have:=HPB.out;omega)))
 have HPNE:Hid (p≠pb):=I (by have:=HP1.out.lt;have:=HPB.out;omega)
 have HP3:=I (HP2.out.keep (HBT.out.block p HP2.out.lt HPNE.out HPNE.out))
 have HP4:=I (HP3.out.keep (HB4.out.block p HP3.out.lt))
 have HP5:=I (HP4.out.keep (HB5.out.block p HP4.out.lt))
 go_wp2_with (first
  |((with_reducible refine zc 29 _ rfl ?hwm w3.heap.size 0 cs _ ?hm6 HX5.out.range Tryz.underlying29 rfl ?hm8 ?_);(case hwm=>exact wantA rfl);(case hm6=>rfl);(case hm8=>rw[HCL.out];kernel_rfl))
  |((with_reducible refine zh 29 _ _ rfl rfl ?hwd p zEc cs HP5.out ?hs5 ?hs6 ?hs7 ?hs8 ?hs9 ?_);(case hwd=>exact wantA rfl);(case hs5=>rw[HCL.out];rfl);(case hs6=>rfl);(case hs7=>rfl);(case hs8=>rw[HCL.out];kernel_rfl);(case hs9=>exact HK5.out.one);intro Z hz hb;have HZ:=I hz;have HZB:=I hb;clear hz hb))
 (try simp only[Exit.inBlock,Exit.then])
 refine bodyPost_ret (z87 rfl _ _ p cs HCL.out (.int .i64 0) (.int .i64 0) rfl HZ.out rfl rfl) rfl ?_
 have hpp:=HPP.out
 have hw1:Below w.heap.size w w1:=HB0.out.trans (HB1.out.mono HB0.out.size)
 have hw2:=hw1.trans (HB2.out.mono (by have:=hw1.size;have:=HPB.out;omega))
 have hw3:=hw2.trans (HBT.out.below (B:=w.heap.size) hw2.size (by have:=hw1.size;have:=HPB.out;omega) (by have:=hw1.size;have:=HPB.out;omega))
 have hw4:=hw3.trans (HB4.out.mono hw3.size)
 have hw5:=hw4.trans (HB5.out.mono hw4.size)
 have hw6:=hw5.trans (HZB.out.below (B:=w.heap.size) hw5.size (by omega) (by omega))
 have hk6:=HK5.out.to (q:=fun b=>w2.heap.size<=b) (w':=Z) (fun b hp hlt=>⟨hp,HZB.out.block b hlt (by have:=HP2.out.lt;omega) (by have:=HP2.out.lt;omega)⟩) HZB.out.size
 exact⟨cs,rfl,hk6.to (q:=fun b=>w.heap.size<=b) (fun b hp _=>⟨Nat.le_trans hw2.size hp,rfl⟩) (Nat.le_refl _),hw6⟩
end
end Go.Proofs.YtmpbepjjbaeebaaGreatDoor
