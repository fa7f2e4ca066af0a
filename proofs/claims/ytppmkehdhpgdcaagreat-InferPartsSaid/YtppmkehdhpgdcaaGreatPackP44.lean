/- Parts of a proof: Lex5, Lex6, Parse. -/
import Derived.Test.YtppmkehdhpgdcaaGreatPackP22
import Derived.Test.YtppmkehdhpgdcaaGreatPackP23
import Derived.Test.YtppmkehdhpgdcaaGreatPackP41
import Derived.Test.YtppmkehdhpgdcaaGreatPackP43
section
namespace Go.Proofs.YtppmkehdhpgdcaaGreat
open Go Go.RowKit
set_option linter.unusedVariables false
set_option linter.unusedSimpArgs false
theorem lxresults_tok3 {fn : Func} {p u v : Tmp} (h : fn.results = #[.cell p 141, .tmp u, .tmp v]) (tmps : Array Value) (w : World) (g : Nat) (cs : List Value) (hs : cs.length = 6) (x y : Value)
    (hp : tmps.getD p undef = .pointer (some ⟨g, 0, none⟩)) (hg : Whole 141 w g cs) (hu : tmps.getD u undef = x) (hv : tmps.getD v undef = y) : (results fn tmps).run Tryz.prog w = .ok (.tuple #[.agg ⟨cs⟩, x, y]) w := by
  have hp' : tmps[p]?.getD undef = .pointer (some ⟨g, 0, none⟩) := by simpa using hp
  have hu' : tmps[u]?.getD undef = x := by simpa using hu
  have hv' : tmps[v]?.getD undef = y := by simpa using hv
  have hl := run_loadVar_mid (P := Tryz.prog) w g 0 141 cs _ hg.range Tryz.underlying141 rfl (by rw [hs]; kernel_rfl)
  simp [results, h, hp', hu', hv', asAddr, hl]
@[reducible] def twoTok2 (w : World) (i : Nat) : World := (w.alloc (.cells #[.int .i64 0, .int .i64 0, .int .i64 0, .int .i64 0, .float .f64 0, .string ⟨#[]⟩] 141)).alloc (.cells #[.int .i64 1, .int .i64 (i : Nat), .int .i64 (i : Nat), .int .i64 0, .float .f64 0, .string ⟨#[]⟩] 141)
def LexC (f : FuncId) (s : ByteArray) (b : Nat) (t : Tok) : Prop := ∀ w, Calls Tryz.prog f #[.string s, .agg #[.int .i64 1, .int .i64 (b : Nat), .int .i64 (b : Nat), .int .i64 0, .float .f64 0, .string ⟨#[]⟩]] w fun r w' =>
  r = .returned (.tuple #[.agg ⟨tokC t⟩, .int .i64 0]) ∧ Below w.heap.size w w'
def NextC (s : ByteArray) (p : Nat) (b : Nat) (t : Tok) : Prop := ∀ w, Calls Tryz.prog 93 #[.string s, .int .i64 (p : Nat)] w fun r w' =>
  r = .returned (.tuple #[.agg ⟨tokC t⟩, .int .i64 (b : Nat), .int .i64 0]) ∧ Below w.heap.size w w'
set_option maxHeartbeats 4000000 in
set_option maxRecDepth 100000 in
theorem next_num (s : ByteArray) (p b : Nat) (c : UInt8) (t : Tok) (hpb : p ≤ b) (hb : b < s.size) (hsz : (s.size : Int) ≤ 2000) (hbl : lxcharsIn lxblaC s.data.toList p b) (hc : s.data.toList[b]? = some c)
    (hk0 : lxblaC c = false) (hk1 : lxdigC c = true) (hcall : LexC 126 s b t) : NextC s p b t := fun w => by
  have HC := Lib.hid hbl
  have HE := Lib.hid hb
  have HCC := Lib.hid hc
  have HK0 := Lib.hid hk0
  have HK1 := Lib.hid hk1
  have HCALL := Lib.hid hcall
  have HB := Lib.hid (fun c w => lbla_any c w)
  have HD := Lib.hid (fun c w => ldig_any c w)
  have hne : ¬ ((b : Int) = (s.size : Int)) := by omega
  have hp0 : ¬ ((p : Int) < 0) := by omega
  have hp1 : ¬ ((p : Int) > (s.size : Int)) := by omega
  have hs1 : ¬ ((s.size : Int) > 2000) := by omega
  have dk := fun h => lbyte_at (k := b) (c := c) hc h
  have hbs : (b : Int) < (s.size : Int) := by omega
  have hsf : ∀ (W : World) (a : Addr), (store a (.float .f64 0)).run Tryz.prog W = stored Tryz.prog W a (.float .f64 0) .plain := fun W a => run_store _ _ _ _ _ rfl
  clear hbl hc hk0 hk1 hcall hb
  have HPB := Lib.hid hpb
  clear hpb
  go_enter Tryz.func93, Tryz.ntmps93
  go_upto_region 3 with (fail)
  go_loopg [1] (b - p) (fun q x u => ∃ k : Nat, k ≤ b ∧ k + q = b ∧ p ≤ k ∧ x = .int .i64 (k : Nat) ∧ u = w.alloc (.cells #[.int .i64 0, .int .i64 0, .int .i64 0, .int .i64 0, .float .f64 0, .string ⟨#[]⟩] 141))
  case atStart => exact ⟨p, (by have := HPB.out; omega), (by have := HPB.out; omega), Nat.le_refl _, rfl, rfl⟩
  case round =>
    obtain ⟨k, hke, hkq, hik, rfl, rfl⟩ := hrel
    cases gk with
    | zero =>
      obtain rfl : k = b := by omega
      go_upto_region 12 with (first
        | (go_at_call 124; refine (HB.out c _).mono ?_; rw [HK0.out]; rintro e z ⟨rfl, rfl⟩)
        | (go_at_call 125; refine (HD.out c _).mono ?_; rw [HK1.out]; rintro e z ⟨rfl, rfl⟩))
      have HR7 : Hid (Whole 141 (twoTok2 w k) (w.heap.size + 1) (tokC ⟨1, k, k, 0, 0, ⟨#[]⟩⟩)) := Lib.hid (heap_alloc2_new w _ _)
      have HR4 : Hid (Whole 141 (twoTok2 w k) w.heap.size (tokC ⟨0, 0, 0, 0, 0, ⟨#[]⟩⟩)) := Lib.hid ((heap_alloc_old _ _ (by simp)).trans (heap_alloc_new w _))
      go_wp2_with (first
        | (go_at_call 126; refine (HCALL.out _).mono ?_; rintro e z ⟨rfl, hb⟩; have HZ7 := Lib.hid (HR7.out.keep (hb.block _ (by simp))); have HZ4 := Lib.hid (HR4.out.keep (hb.block _ (by simp; omega))); have HZB := Lib.hid hb; clear hb)
        | ((with_reducible refine wl_wstore 141 _ _ rfl rfl ?hwd (w.heap.size + 1) (tokC ⟨1, k, k, 0, 0, ⟨#[]⟩⟩) (tokC t) HZ7.out ?hs5 ?hs6 ?hs7 ?hs8 ?hs9 ?_); (case hwd => first | exact wanted_none rfl | exact wanted_if rfl rfl rfl rfl); (case hs5 => rfl); (case hs6 => rfl); (case hs7 => rfl); (case hs8 => kernel_rfl); (case hs9 => exact tok_one t); intro Z hz hb; have HS7 := Lib.hid hz; have HSB := Lib.hid hb; have HS4 := Lib.hid (HZ4.out.keep (hb.block2 HZ4.out.lt (by omega) (by omega))); clear hz hb)
        | ((with_reducible refine wl_sload 141 _ rfl ?hwl (w.heap.size + 1) 0 (tokC t) _ ?hl6 HS7.out.range Tryz.underlying141 rfl ?hl8 ?_); (case hwl => first | exact wanted_none rfl | exact wanted_if rfl rfl rfl rfl); (case hl6 => rfl); (case hl8 => kernel_rfl))
        | ((with_reducible refine wl_wstore 141 _ _ rfl rfl ?hwe w.heap.size (tokC ⟨0, 0, 0, 0, 0, ⟨#[]⟩⟩) (tokC t) HS4.out ?ht5 ?ht6 ?ht7 ?ht8 ?ht9 ?_); (case hwe => first | exact wanted_none rfl | exact wanted_if rfl rfl rfl rfl); (case ht5 => rfl); (case ht6 => rfl); (case ht7 => rfl); (case ht8 => kernel_rfl); (case ht9 => exact tok_one t); intro Z2 hz hb; have HT4 := Lib.hid hz; have HTB := Lib.hid hb; clear hz hb))
      (try simp only [Exit.inBlock, Exit.then])
      refine bodyPost_ret (lxresults_tok3 rfl _ _ w.heap.size (tokC t) rfl (.int .i64 (k : Nat)) (.int .i64 0) rfl HT4.out rfl rfl) rfl ?_
      have h1 := two_below w (.cells (tokC ⟨0, 0, 0, 0, 0, ⟨#[]⟩⟩).toArray 141) (.cells (tokC ⟨1, k, k, 0, 0, ⟨#[]⟩⟩).toArray 141)
      have h2 : Below w.heap.size _ z := HZB.out.mono (by simp; omega)
      have h12 := h1.trans h2
      have h3 := HSB.out.below (B := w.heap.size) h12.size (by omega) (by omega)
      have h4 := HTB.out.below (B := w.heap.size) (Nat.le_trans h12.size h3.size) (Nat.le_refl _) (Nat.le_refl _)
      exact ⟨rfl, (h12.trans h3).trans h4⟩
    | succ q =>
      have he := HE.out
      obtain ⟨c2, hc2, hd2⟩ := HC.out k hik (by omega)
      have dk2 := fun h => lbyte_at (k := k) (c := c2) hc2 h
      have HB2 := Lib.hid hd2
      have hlt : (k : Int) < (s.size : Int) := by omega
      clear hc2 hd2
      go_wp2_with (go_at_call 124; refine (HB.out c2 _).mono ?_; rw [HB2.out]; rintro e z ⟨rfl, rfl⟩)
      go_roundg q
      case measure => omega
      case rel => exact ⟨k + 1, by omega, by omega, by omega, by go_num, rfl⟩
set_option maxHeartbeats 4000000 in
set_option maxRecDepth 100000 in
theorem next_name (s : ByteArray) (p b : Nat) (c : UInt8) (t : Tok) (hpb : p ≤ b) (hb : b < s.size) (hsz : (s.size : Int) ≤ 2000) (hbl : lxcharsIn lxblaC s.data.toList p b) (hc : s.data.toList[b]? = some c)
    (hk0 : lxblaC c = false) (hk1 : lxdigC c = false) (hk2 : lxletC c = true) (hcall : LexC 128 s b t) : NextC s p b t := fun w => by
  have HC := Lib.hid hbl
  have HE := Lib.hid hb
  have HCC := Lib.hid hc
  have HK0 := Lib.hid hk0
  have HK1 := Lib.hid hk1
  have HK2 := Lib.hid hk2
  have HLE := Lib.hid (fun c w => llet_any c w)
  have HCALL := Lib.hid hcall
  have HB := Lib.hid (fun c w => lbla_any c w)
  have HD := Lib.hid (fun c w => ldig_any c w)
  have hne : ¬ ((b : Int) = (s.size : Int)) := by omega
  have hp0 : ¬ ((p : Int) < 0) := by omega
  have hp1 : ¬ ((p : Int) > (s.size : Int)) := by omega
  have hs1 : ¬ ((s.size : Int) > 2000) := by omega
  have dk := fun h => lbyte_at (k := b) (c := c) hc h
  have hbs : (b : Int) < (s.size : Int) := by omega
  have hsf : ∀ (W : World) (a : Addr), (store a (.float .f64 0)).run Tryz.prog W = stored Tryz.prog W a (.float .f64 0) .plain := fun W a => run_store _ _ _ _ _ rfl
  clear hbl hc hk0 hk1 hk2 hcall hb
  have HPB := Lib.hid hpb
  clear hpb
  go_enter Tryz.func93, Tryz.ntmps93
  go_upto_region 3 with (fail)
  go_loopg [1] (b - p) (fun q x u => ∃ k : Nat, k ≤ b ∧ k + q = b ∧ p ≤ k ∧ x = .int .i64 (k : Nat) ∧ u = w.alloc (.cells #[.int .i64 0, .int .i64 0, .int .i64 0, .int .i64 0, .float .f64 0, .string ⟨#[]⟩] 141))
  case atStart => exact ⟨p, (by have := HPB.out; omega), (by have := HPB.out; omega), Nat.le_refl _, rfl, rfl⟩
  case round =>
    obtain ⟨k, hke, hkq, hik, rfl, rfl⟩ := hrel
    cases gk with
    | zero =>
      obtain rfl : k = b := by omega
      go_upto_region 14 with (first
        | (go_at_call 124; refine (HB.out c _).mono ?_; rw [HK0.out]; rintro e z ⟨rfl, rfl⟩)
        | (go_at_call 125; refine (HD.out c _).mono ?_; rw [HK1.out]; rintro e z ⟨rfl, rfl⟩)
        | (go_at_call 127; refine (HLE.out c _).mono ?_; rw [HK2.out]; rintro e z ⟨rfl, rfl⟩))
      have HR7 : Hid (Whole 141 (twoTok2 w k) (w.heap.size + 1) (tokC ⟨1, k, k, 0, 0, ⟨#[]⟩⟩)) := Lib.hid (heap_alloc2_new w _ _)
      have HR4 : Hid (Whole 141 (twoTok2 w k) w.heap.size (tokC ⟨0, 0, 0, 0, 0, ⟨#[]⟩⟩)) := Lib.hid ((heap_alloc_old _ _ (by simp)).trans (heap_alloc_new w _))
      go_wp2_with (first
        | (go_at_call 128; refine (HCALL.out _).mono ?_; rintro e z ⟨rfl, hb⟩; have HZ7 := Lib.hid (HR7.out.keep (hb.block _ (by simp))); have HZ4 := Lib.hid (HR4.out.keep (hb.block _ (by simp; omega))); have HZB := Lib.hid hb; clear hb)
        | ((with_reducible refine wl_wstore 141 _ _ rfl rfl ?hwd (w.heap.size + 1) (tokC ⟨1, k, k, 0, 0, ⟨#[]⟩⟩) (tokC t) HZ7.out ?hs5 ?hs6 ?hs7 ?hs8 ?hs9 ?_); (case hwd => first | exact wanted_none rfl | exact wanted_if rfl rfl rfl rfl); (case hs5 => rfl); (case hs6 => rfl); (case hs7 => rfl); (case hs8 => kernel_rfl); (case hs9 => exact tok_one t); intro Z hz hb; have HS7 := Lib.hid hz; have HSB := Lib.hid hb; have HS4 := Lib.hid (HZ4.out.keep (hb.block2 HZ4.out.lt (by omega) (by omega))); clear hz hb)
        | ((with_reducible refine wl_sload 141 _ rfl ?hwl (w.heap.size + 1) 0 (tokC t) _ ?hl6 HS7.out.range Tryz.underlying141 rfl ?hl8 ?_); (case hwl => first | exact wanted_none rfl | exact wanted_if rfl rfl rfl rfl); (case hl6 => rfl); (case hl8 => kernel_rfl))
        | ((with_reducible refine wl_wstore 141 _ _ rfl rfl ?hwe w.heap.size (tokC ⟨0, 0, 0, 0, 0, ⟨#[]⟩⟩) (tokC t) HS4.out ?ht5 ?ht6 ?ht7 ?ht8 ?ht9 ?_); (case hwe => first | exact wanted_none rfl | exact wanted_if rfl rfl rfl rfl); (case ht5 => rfl); (case ht6 => rfl); (case ht7 => rfl); (case ht8 => kernel_rfl); (case ht9 => exact tok_one t); intro Z2 hz hb; have HT4 := Lib.hid hz; have HTB := Lib.hid hb; clear hz hb))
      (try simp only [Exit.inBlock, Exit.then])
      refine bodyPost_ret (lxresults_tok3 rfl _ _ w.heap.size (tokC t) rfl (.int .i64 (k : Nat)) (.int .i64 0) rfl HT4.out rfl rfl) rfl ?_
      have h1 := two_below w (.cells (tokC ⟨0, 0, 0, 0, 0, ⟨#[]⟩⟩).toArray 141) (.cells (tokC ⟨1, k, k, 0, 0, ⟨#[]⟩⟩).toArray 141)
      have h2 : Below w.heap.size _ z := HZB.out.mono (by simp; omega)
      have h12 := h1.trans h2
      have h3 := HSB.out.below (B := w.heap.size) h12.size (by omega) (by omega)
      have h4 := HTB.out.below (B := w.heap.size) (Nat.le_trans h12.size h3.size) (Nat.le_refl _) (Nat.le_refl _)
      exact ⟨rfl, (h12.trans h3).trans h4⟩
    | succ q =>
      have he := HE.out
      obtain ⟨c2, hc2, hd2⟩ := HC.out k hik (by omega)
      have dk2 := fun h => lbyte_at (k := k) (c := c2) hc2 h
      have HB2 := Lib.hid hd2
      have hlt : (k : Int) < (s.size : Int) := by omega
      clear hc2 hd2
      go_wp2_with (go_at_call 124; refine (HB.out c2 _).mono ?_; rw [HB2.out]; rintro e z ⟨rfl, rfl⟩)
      go_roundg q
      case measure => omega
      case rel => exact ⟨k + 1, by omega, by omega, by omega, by go_num, rfl⟩
set_option maxHeartbeats 4000000 in
set_option maxRecDepth 100000 in
theorem next_sign (s : ByteArray) (p b : Nat) (c : UInt8) (t : Tok) (hpb : p ≤ b) (hb : b < s.size) (hsz : (s.size : Int) ≤ 2000) (hbl : lxcharsIn lxblaC s.data.toList p b) (hc : s.data.toList[b]? = some c)
    (hk0 : lxblaC c = false) (hk1 : lxdigC c = false) (hk2 : lxletC c = false) (hk3 : ((c.toNat : Int) == 34) = false) (hcall : LexC 130 s b t) : NextC s p b t := fun w => by
  have HC := Lib.hid hbl
  have HE := Lib.hid hb
  have HCC := Lib.hid hc
  have HK0 := Lib.hid hk0
  have HK1 := Lib.hid hk1
  have HK2 := Lib.hid hk2
  have HLE := Lib.hid (fun c w => llet_any c w)
  have HCALL := Lib.hid hcall
  have HB := Lib.hid (fun c w => lbla_any c w)
  have HD := Lib.hid (fun c w => ldig_any c w)
  have hne : ¬ ((b : Int) = (s.size : Int)) := by omega
  have hp0 : ¬ ((p : Int) < 0) := by omega
  have hp1 : ¬ ((p : Int) > (s.size : Int)) := by omega
  have hs1 : ¬ ((s.size : Int) > 2000) := by omega
  have dk := fun h => lbyte_at (k := b) (c := c) hc h
  have hbs : (b : Int) < (s.size : Int) := by omega
  have hsf : ∀ (W : World) (a : Addr), (store a (.float .f64 0)).run Tryz.prog W = stored Tryz.prog W a (.float .f64 0) .plain := fun W a => run_store _ _ _ _ _ rfl
  clear hbl hc hk0 hk1 hk2 hcall hb
  have HPB := Lib.hid hpb
  clear hpb
  go_enter Tryz.func93, Tryz.ntmps93
  go_upto_region 3 with (fail)
  go_loopg [1] (b - p) (fun q x u => ∃ k : Nat, k ≤ b ∧ k + q = b ∧ p ≤ k ∧ x = .int .i64 (k : Nat) ∧ u = w.alloc (.cells #[.int .i64 0, .int .i64 0, .int .i64 0, .int .i64 0, .float .f64 0, .string ⟨#[]⟩] 141))
  case atStart => exact ⟨p, (by have := HPB.out; omega), (by have := HPB.out; omega), Nat.le_refl _, rfl, rfl⟩
  case round =>
    obtain ⟨k, hke, hkq, hik, rfl, rfl⟩ := hrel
    cases gk with
    | zero =>
      obtain rfl : k = b := by omega
      go_upto_region 10 with (first
        | (go_at_call 124; refine (HB.out c _).mono ?_; rw [HK0.out]; rintro e z ⟨rfl, rfl⟩)
        | (go_at_call 125; refine (HD.out c _).mono ?_; rw [HK1.out]; rintro e z ⟨rfl, rfl⟩)
        | (go_at_call 127; refine (HLE.out c _).mono ?_; rw [HK2.out]; rintro e z ⟨rfl, rfl⟩))
      have HR7 : Hid (Whole 141 (twoTok2 w k) (w.heap.size + 1) (tokC ⟨1, k, k, 0, 0, ⟨#[]⟩⟩)) := Lib.hid (heap_alloc2_new w _ _)
      have HR4 : Hid (Whole 141 (twoTok2 w k) w.heap.size (tokC ⟨0, 0, 0, 0, 0, ⟨#[]⟩⟩)) := Lib.hid ((heap_alloc_old _ _ (by simp)).trans (heap_alloc_new w _))
      go_wp2_with (first
        | (go_at_call 130; refine (HCALL.out _).mono ?_; rintro e z ⟨rfl, hb⟩; have HZ7 := Lib.hid (HR7.out.keep (hb.block _ (by simp))); have HZ4 := Lib.hid (HR4.out.keep (hb.block _ (by simp; omega))); have HZB := Lib.hid hb; clear hb)
        | ((with_reducible refine wl_wstore 141 _ _ rfl rfl ?hwd (w.heap.size + 1) (tokC ⟨1, k, k, 0, 0, ⟨#[]⟩⟩) (tokC t) HZ7.out ?hs5 ?hs6 ?hs7 ?hs8 ?hs9 ?_); (case hwd => first | exact wanted_none rfl | exact wanted_if rfl rfl rfl rfl); (case hs5 => rfl); (case hs6 => rfl); (case hs7 => rfl); (case hs8 => kernel_rfl); (case hs9 => exact tok_one t); intro Z hz hb; have HS7 := Lib.hid hz; have HSB := Lib.hid hb; have HS4 := Lib.hid (HZ4.out.keep (hb.block2 HZ4.out.lt (by omega) (by omega))); clear hz hb)
        | ((with_reducible refine wl_sload 141 _ rfl ?hwl (w.heap.size + 1) 0 (tokC t) _ ?hl6 HS7.out.range Tryz.underlying141 rfl ?hl8 ?_); (case hwl => first | exact wanted_none rfl | exact wanted_if rfl rfl rfl rfl); (case hl6 => rfl); (case hl8 => kernel_rfl))
        | ((with_reducible refine wl_wstore 141 _ _ rfl rfl ?hwe w.heap.size (tokC ⟨0, 0, 0, 0, 0, ⟨#[]⟩⟩) (tokC t) HS4.out ?ht5 ?ht6 ?ht7 ?ht8 ?ht9 ?_); (case hwe => first | exact wanted_none rfl | exact wanted_if rfl rfl rfl rfl); (case ht5 => rfl); (case ht6 => rfl); (case ht7 => rfl); (case ht8 => kernel_rfl); (case ht9 => exact tok_one t); intro Z2 hz hb; have HT4 := Lib.hid hz; have HTB := Lib.hid hb; clear hz hb))
      (try simp only [Exit.inBlock, Exit.then])
      refine bodyPost_ret (lxresults_tok3 rfl _ _ w.heap.size (tokC t) rfl (.int .i64 (k : Nat)) (.int .i64 0) rfl HT4.out rfl rfl) rfl ?_
      have h1 := two_below w (.cells (tokC ⟨0, 0, 0, 0, 0, ⟨#[]⟩⟩).toArray 141) (.cells (tokC ⟨1, k, k, 0, 0, ⟨#[]⟩⟩).toArray 141)
      have h2 : Below w.heap.size _ z := HZB.out.mono (by simp; omega)
      have h12 := h1.trans h2
      have h3 := HSB.out.below (B := w.heap.size) h12.size (by omega) (by omega)
      have h4 := HTB.out.below (B := w.heap.size) (Nat.le_trans h12.size h3.size) (Nat.le_refl _) (Nat.le_refl _)
      exact ⟨rfl, (h12.trans h3).trans h4⟩
    | succ q =>
      have he := HE.out
      obtain ⟨c2, hc2, hd2⟩ := HC.out k hik (by omega)
      have dk2 := fun h => lbyte_at (k := k) (c := c2) hc2 h
      have HB2 := Lib.hid hd2
      have hlt : (k : Int) < (s.size : Int) := by omega
      clear hc2 hd2
      go_wp2_with (go_at_call 124; refine (HB.out c2 _).mono ?_; rw [HB2.out]; rintro e z ⟨rfl, rfl⟩)
      go_roundg q
      case measure => omega
      case rel => exact ⟨k + 1, by omega, by omega, by omega, by go_num, rfl⟩
set_option maxHeartbeats 4000000 in
set_option maxRecDepth 100000 in
theorem next_end (s : ByteArray) (p : Nat) (hpb : p ≤ s.size) (hsz : (s.size : Int) ≤ 2000) (hbl : lxcharsIn lxblaC s.data.toList p s.size) : NextC s p s.size ⟨1, s.size, s.size, 0, 0, ⟨#[]⟩⟩ := fun w => by
  obtain ⟨b, hb⟩ : ∃ b, s.size = b := ⟨_, rfl⟩
  have HC := Lib.hid hbl
  have HE := Lib.hid hb
  have HB := Lib.hid (fun c w => lbla_any c w)
  have hp0 : ¬ ((p : Int) < 0) := by omega
  have hp1 : ¬ ((p : Int) > (s.size : Int)) := by omega
  have hs1 : ¬ ((s.size : Int) > 2000) := by omega
  have hsf : ∀ (W : World) (a : Addr), (store a (.float .f64 0)).run Tryz.prog W = stored Tryz.prog W a (.float .f64 0) .plain := fun W a => run_store _ _ _ _ _ rfl
  have HPB := Lib.hid hpb
  clear hbl hb hpb
  go_enter Tryz.func93, Tryz.ntmps93
  go_upto_region 3 with (fail)
  go_loopg [1] (s.size - p) (fun q x u => ∃ k : Nat, k ≤ s.size ∧ k + q = s.size ∧ p ≤ k ∧ x = .int .i64 (k : Nat) ∧ u = w.alloc (.cells #[.int .i64 0, .int .i64 0, .int .i64 0, .int .i64 0, .float .f64 0, .string ⟨#[]⟩] 141))
  case atStart => exact ⟨p, (by have := HPB.out; omega), (by have := HPB.out; omega), Nat.le_refl _, rfl, rfl⟩
  case round =>
    obtain ⟨k, hke, hkq, hik, rfl, rfl⟩ := hrel
    cases gk with
    | zero =>
      have hkk : Hid (k = s.size) := Lib.hid (by omega)
      have hlt : ¬ ((k : Int) < (s.size : Int)) := by omega
      have heq : (k : Int) = (s.size : Int) := by omega
      go_wp2
      (try simp only [Exit.inBlock, Exit.then])
      refine bodyPost_ret (lxresults_tok3 rfl _ _ w.heap.size (tokC ⟨1, s.size, s.size, 0, 0, ⟨#[]⟩⟩) rfl (.int .i64 (s.size : Nat)) (.int .i64 0) rfl ((heap_alloc_old _ _ (by simp)).trans (heap_alloc_new w _)) rfl rfl) rfl ?_
      exact ⟨rfl, two_below w _ _⟩
    | succ q =>
      obtain ⟨c2, hc2, hd2⟩ := HC.out k hik (by omega)
      have dk2 := fun h => lbyte_at (k := k) (c := c2) hc2 h
      have HB2 := Lib.hid hd2
      have hlt : (k : Int) < (s.size : Int) := by omega
      clear hc2 hd2
      go_wp2_with (go_at_call 124; refine (HB.out c2 _).mono ?_; rw [HB2.out]; rintro e z ⟨rfl, rfl⟩)
      go_roundg q
      case measure => omega
      case rel => exact ⟨k + 1, by omega, by omega, by omega, by go_num, rfl⟩
end Go.Proofs.YtppmkehdhpgdcaaGreat
end
section
namespace Go.Proofs.YtppmkehdhpgdcaaGreat
open Go Go.RowKit
set_option linter.unusedVariables false
set_option linter.unusedSimpArgs false
theorem lxown_blt {α : Type} {T : TypeId} {k base : Nat} {enc : α → List Value} {w : World} {v : Value} {l : List α} (h : OwnSl T k enc w base v l) {g : Nat} (hv : v.ownBlock = some g) : g < w.heap.size := by
  rcases h.2 with ⟨rfl, _⟩ | ⟨g2, cap, cur, rfl, _, hg, _⟩
  · cases hv
  · have h2 : g2 = g := by simpa [Value.ownBlock] using hv
    subst h2
    rcases Nat.lt_or_ge g2 w.heap.size with h2 | h2
    · exact h2
    · rw [Array.getElem?_eq_none h2] at hg; cases hg
theorem lxown_slice {α : Type} {T : TypeId} {k base : Nat} {enc : α → List Value} {w : World} {v : Value} {l : List α} (h : OwnSl T k enc w base v l) : ∃ A n c, v = .slice A n c := by
  rcases h.2 with ⟨rfl, _⟩ | ⟨g, cap, cur, rfl, _⟩
  · exact ⟨_, _, _, rfl⟩
  · exact ⟨_, _, _, rfl⟩
theorem lxkeep_cell {T : TypeId} {W2 W4 : World} {zb : Nat} {cs : List Value} {v x : Value} {o : Obj} (h : Whole T W2 zb cs) (hne : ∀ g, v.ownBlock = some g → g ≠ zb) (hg : (W2.alloc o).grownBy W4 v.ownBlock) (k : Nat) (hx : cs[k]? = some x) : W4.cell? ⟨zb, k, none⟩ = some x := by
  have h1 := hg.block zb (by have := h.lt; simp; omega) (fun he => hne zb he.symm rfl)
  have h2 := (box_below W2 o).block zb h.lt
  exact ((h.keep h2).keep h1).cells k hx
inductive LexRun (s : ByteArray) : Nat → List Tok → Prop
  | stop (p b : Nat) (t : Tok) : NextC s p b t → t.kind = 1 → LexRun s p []
  | more (p b p' : Nat) (t : Tok) (ts : List Tok) : NextC s p b t → t.kind ≠ 1 → t.next = (p' : Int) → LexRun s p' ts → LexRun s p (t :: ts)
theorem tok_len (t : Tok) : (tokC t).length = 6 := rfl
set_option maxHeartbeats 4000000 in
set_option maxRecDepth 100000 in
theorem all_lex (s : ByteArray) (toks : List Tok) (h : LexRun s 0 toks) (hlen : toks.length ≤ 2000) (w : World) : Calls Tryz.prog 72 #[.string s] w fun r w' =>
    ∃ v, r = .returned (.tuple #[v, .int .i64 0, .int .i64 0]) ∧ OwnSl 141 6 tokC w' w.heap.size v toks ∧ Below w.heap.size w w' := by
  obtain ⟨i0, hi0, hz0, hz1, hz2⟩ := info_parts info_tok
  have HI0 := Lib.hid hi0
  have HZ0 := Lib.hid hz0
  have HZ1 := Lib.hid hz1
  have HZ2 := Lib.hid hz2
  have H := Lib.hid h
  have HLEN := Lib.hid hlen
  clear hi0 hz0 hz1 hz2 h hlen
  go_enter Tryz.func72, Tryz.ntmps72
  go_upto_region 3 with (fail)
  go_loopg [5, 6] toks.length (fun q x y u => ∃ (done rest : List Tok) (p : Nat), toks = done ++ rest ∧ rest.length = q ∧ OwnSl 141 6 tokC u w.heap.size x done ∧ y = .int .i64 (p : Nat) ∧ LexRun s p rest ∧ Below w.heap.size w u)
  case atStart => exact ⟨[], toks, 0, rfl, rfl, OwnSl.nil w w.heap.size, rfl, H.out, Below.refl _ _⟩
  case round =>
    rename_i x y u
    obtain ⟨done, rest, p, htk, hq, hown, rfl, hrun, hbw⟩ := hrel
    have HOWN := Lib.hid hown
    have HBW := Lib.hid hbw
    have HTK := Lib.hid htk
    obtain ⟨A, n, c, rfl⟩ := lxown_slice hown
    clear hown hbw htk
    cases hrun with
    | stop _ b t hnx hk1 =>
      have HNX := Lib.hid hnx
      have hkt : (t.kind == 1) = true := by simpa using hk1
      clear hnx hk1
      go_wp2_with (first
        | (go_at_call 93; refine (HNX.out _).mono ?_; rintro e z ⟨rfl, hb⟩; have HBZ := Lib.hid hb; clear hb)
        | ((with_reducible refine wl_wbox 141 _ _ rfl rfl ?hwe z ?zne (tokC t) ?hz1 ?hz2 ?hz3 ?hz4 ?hz5 ?hz6 ?_); (case hwe => first | exact wanted_none rfl | exact wanted_if rfl rfl rfl rfl); (case hz1 => rfl); (case hz2 => rfl); (case hz3 => rfl); (case hz4 => rfl); (case hz5 => kernel_rfl); (case hz6 => exact tok_one t); intro W2 hz hb hlt; have k0 := hz.cells 0 rfl; have HX2 := Lib.hid hz; have HB2 := Lib.hid hb; have HLT2 := Lib.hid hlt; clear hz hb hlt))
      go_ret3
      refine ⟨_, rfl, ?_, ?_⟩
      · have := HTK.out
        rw [this, List.append_nil]
        exact (HOWN.out.below HBZ.out).below HB2.out
      · exact (HBW.out.trans (HBZ.out.mono HBW.out.size)).trans (HB2.out.mono (Nat.le_trans HBW.out.size HBZ.out.size))
    | more _ b p' t ts hnx hk1 hnext hts =>
      have HNX := Lib.hid hnx
      have hkt : (t.kind == 1) = false := by simpa using hk1
      have HNXT := Lib.hid hnext
      have HTS := Lib.hid hts
      have HT2 : Hid ((tokC t)[2]? = some (.int .i64 (p' : Nat))) := Lib.hid (by show some (Value.int .i64 t.next) = _; rw [hnext])
      have hql : ts.length + 1 = gk := hq
      have hl : Hid (done.length + 1 ≤ 2000) := Lib.hid (by have h1 := HLEN.out; rw [HTK.out, List.length_append, List.length_cons] at h1; omega)
      have HK1 : Hid (done.length + 1 ≤ maxLen) := Lib.hid (by have := hl.out; unfold maxLen; omega)
      have HK2 : Hid ((done.length + 1) * 56 ≤ 140737488355328) := Lib.hid (by have := hl.out; omega)
      clear hnx hk1 hnext hts hq
      go_wp2_with (first
        | (go_at_call 93; refine (HNX.out _).mono ?_; rintro e z ⟨rfl, hb⟩; have HBZ := Lib.hid hb; clear hb)
        | ((with_reducible refine wl_wbox 141 _ _ rfl rfl ?hwe z ?zne (tokC t) ?hz1 ?hz2 ?hz3 ?hz4 ?hz5 ?hz6 ?_); (case hwe => first | exact wanted_none rfl | exact wanted_if rfl rfl rfl rfl); (case hz1 => rfl); (case hz2 => rfl); (case hz3 => rfl); (case hz4 => rfl); (case hz5 => kernel_rfl); (case hz6 => exact tok_one t); intro W2 hz hb hlt; have k0 := hz.cells 0 rfl; have HX2 := Lib.hid hz; have HB2 := Lib.hid hb; have HLT2 := Lib.hid hlt; have HO2 := Lib.hid ((HOWN.out.below HBZ.out).below hb); clear hz hb hlt)
        | ((with_reducible refine wl_sload 141 _ rfl ?hwl z.heap.size 0 (tokC t) _ ?hl6 HX2.out.range Tryz.underlying141 rfl ?hl8 ?_); (case hwl => first | exact wanted_none rfl | exact wanted_if rfl rfl rfl rfl); (case hl6 => rfl); (case hl8 => kernel_rfl))
        | ((with_reducible refine wl_build1 118 _ rfl ?hw3 141 i0 _ (tokC t) ?hx3 Tryz.underlying118 HI0.out HZ0.out ?hs3 ?h03 ?hm3 ?_); (case hw3 => first | exact wanted_none rfl | exact wanted_if rfl rfl rfl rfl); (case hx3 => rfl); (case hs3 => exact HZ1.out); (case h03 => show 0 < 6; decide); (case hm3 => show 6 ≤ 1000; decide); have HO3 := Lib.hid (HO2.out.below (box_below W2 (.cells ⟨tokC t⟩ 141))); have HC3 := Lib.hid (cells_box W2 (tokC t) 141); have HS3 : Hid (w.heap.size ≤ (W2.alloc (.cells ⟨tokC t⟩ 141)).heap.size) := Lib.hid (by have h1 := HBW.out.size; have h2 := HBZ.out.size; have h3 := HB2.out.size; simp; omega))
        | (at_builtin; refine wl_push rfl _ _ 118 rfl w.heap.size 141 i0 _ 6 56 tokC Tryz.underlying118 HI0.out HZ0.out HZ1.out HZ2.out rfl (by decide) tok_len tok_one _ _ rfl HO3.out W2.heap.size 1 t rfl HC3.out HK1.out HK2.out HS3.out ?_; intro v4 W4 hown4 hg4; have HO4 := Lib.hid hown4; have HG4 := Lib.hid hg4; have k2 := lxkeep_cell HX2.out (fun g hg => Nat.ne_of_lt (Nat.lt_of_lt_of_le (lxown_blt HOWN.out hg) HBZ.out.size)) hg4 2 HT2.out; clear hown4 hg4))
      go_roundg ts.length
      case measure => omega
      case rel =>
        refine ⟨done ++ [t], ts, p', by rw [HTK.out, List.append_assoc]; rfl, rfl, HO4.out, rfl, HTS.out, ?_⟩
        have h1 := (HBW.out.trans (HBZ.out.mono HBW.out.size)).trans (HB2.out.mono (Nat.le_trans HBW.out.size HBZ.out.size))
        have h2 := h1.trans ((box_below W2 (.cells ⟨tokC t⟩ 141)).mono h1.size)
        exact h2.grown HG4.out h2.size fun k hk => HOWN.out.block hk
end Go.Proofs.YtppmkehdhpgdcaaGreat
end
section
namespace Go.Proofs.YtppmkehdhpgdcaaGreat
open Go Go.RowKit
set_option linter.unusedVariables false
set_option linter.unusedSimpArgs false
theorem results_exp3 {fn : Func} {p u v : Tmp} (h : fn.results = #[.cell p 30, .tmp u, .tmp v]) (tmps : Array Value) (w : World) (g : Nat) (cs : List Value) (hl : cs.length = 10) (x y : Value)
    (hp : tmps.getD p undef = .pointer (some ⟨g, 0, none⟩)) (hm : Whole 30 w g cs) (hu : tmps.getD u undef = x) (hv : tmps.getD v undef = y) : (results fn tmps).run Tryz.prog w = .ok (.tuple #[.agg ⟨cs⟩, x, y]) w := by
  have hp' : tmps[p]?.getD undef = .pointer (some ⟨g, 0, none⟩) := by simpa using hp
  have hu' : tmps[u]?.getD undef = x := by simpa using hu
  have hv' : tmps[v]?.getD undef = y := by simpa using hv
  have hl := run_loadVar_mid (P := Tryz.prog) w g 0 30 cs _ hm.range Tryz.underlying30 rfl (by rw [hl]; kernel_rfl)
  simp [results, h, hp', hu', hv', asAddr, hl]
theorem own_tok {w : World} {base : Nat} {v : Value} {toks : List Tok} (h : OwnSl 141 6 tokC w base v toks) (h0 : 0 < toks.length) :
    ∃ tb c, v = .slice (some ⟨tb, 0, none⟩) toks.length c ∧ base ≤ tb ∧ tb < w.heap.size ∧ ∀ (j : Nat) t, toks[j]? = some t → w.rangeAt tb (j * 6) (tokC t) := by
  have hat := h.at tok_len
  rcases h.2 with ⟨rfl, h1⟩ | ⟨g, cap, cur, rfl, hb, hg, _⟩
  · omega
  · have hlt := lxown_blt h (g := g) rfl
    refine ⟨g, cap, rfl, hb, hlt, fun j t ht a u hu => ?_⟩
    have := World.ownsRow.cells h (g := g) rfl (j * 6 + a) u (flat_at tok_len toks j t ht a u hu)
    rw [Addr.add_mid] at this
    rw [show j * 6 + a = 0 + (j * 6 + a) by omega]; exact this
set_option maxHeartbeats 4000000 in
set_option maxRecDepth 100000 in
theorem parse_ok (s : ByteArray) (toks : List Tok) (t : ET) (h : Nat) (hsz : (s.size : Int) ≤ 2000) (hlex : LexRun s 0 toks) (hlen : toks.length ≤ 2000) (hne : 0 < toks.length)
    (hp : ∀ pb tb c, PCon pb tb c (s.size : Int) toks 73 0 toks.length h t) (hh : h ≤ 100)
    (hr : ∀ cs w, ExpAt w w.heap.size cs t → Calls Tryz.prog 10 #[.agg ⟨cs⟩] w fun e w' => e = .returned (.bool true) ∧ Below w.heap.size w w') (w : World) :
    Calls Tryz.prog 47 #[.string s] w fun e w' => ∃ cs, e = .returned (.tuple #[.agg ⟨cs⟩, .int .i64 0, .int .i64 0]) ∧ KeptP (fun b => w.heap.size ≤ b) w' cs t ∧ Below w.heap.size w w' := by
  have HLX := Lib.hid (fun w => all_lex s toks hlex hlen w)
  have HP := Lib.hid hp
  have HR := Lib.hid hr
  have HH := Lib.hid hh
  have HNE := Lib.hid hne
  have HLEN := Lib.hid hlen
  have hs1 : ¬ ((s.size : Int) > 2000) := by omega
  clear hlex hlen hne hp hh hr
  go_enter Tryz.func47, Tryz.ntmps47
  go_upto_region 1 with (fail)
  have HR0 := Lib.hid (Whole.new w zEc 30)
  have HB0 := Lib.hid (box_below w (.cells zEc.toArray 30))
  have hz : (#[Value.int IntKind.i64 0, Value.string { data := #[] }, Value.int IntKind.i64 0, Value.int IntKind.i64 0, Value.float FloatKind.f64 0, Value.string { data := #[] }, Value.slice none 0 0, Value.slice none 0 0, Value.slice none 0 0, Value.slice none 0 0] : Array Value) = zEc.toArray := rfl
  rw [hz]
  clear hz
  have HRW : Hid (w.heap.size < (w.alloc (.cells zEc.toArray 30)).heap.size) := Lib.hid (by simp)
  generalize w.alloc (.cells zEc.toArray 30) = W at *
  obtain ⟨p, hp⟩ : ∃ p, w.heap.size = p := ⟨_, rfl⟩
  rw [hp] at HR0 HRW
  rw [hp]
  have HPP := Lib.hid hp
  clear hp
  go_upto_region 4 with (go_at_call 72; refine (HLX.out _).mono ?_; rintro e w1 ⟨v, rfl, hown, hb1⟩; obtain ⟨tb, c, hv, htb, htl, htok⟩ := own_tok hown HNE.out; subst hv; have HTB := Lib.hid htb; have HTL := Lib.hid htl; have HTOK := Lib.hid htok; have HB1 := Lib.hid hb1; clear hown htb htl htok hb1)
  go_upto_region 7 with (fail)
  have HPS : Hid (PSt w1.heap.size tb c (s.size : Int) toks (w1.alloc (.cells #[.slice (some ⟨tb, 0, none⟩) toks.length c, .int .i64 0, .int .i64 (s.size : Nat), .int .i64 0, .int .i64 0, .int .i64 0] 123)) 0 0) := Lib.hid
    ⟨heap_alloc_new _ _, by have := HTL.out; omega, ⟨by have := HTL.out; simp; omega, by simp⟩, fun j t ht => rangeAt_below (HTOK.out j t ht) (box_below w1 _) HTL.out, by have := HLEN.out; omega⟩
  have HB2 : Hid (Below w1.heap.size w1 (w1.alloc (.cells #[.slice (some ⟨tb, 0, none⟩) toks.length c, .int .i64 0, .int .i64 (s.size : Nat), .int .i64 0, .int .i64 0, .int .i64 0] 123))) := Lib.hid (box_below w1 _)
  have HS2 : Hid (w1.heap.size < (w1.alloc (.cells #[.slice (some ⟨tb, 0, none⟩) toks.length c, .int .i64 0, .int .i64 (s.size : Nat), .int .i64 0, .int .i64 0, .int .i64 0] 123)).heap.size) := Lib.hid (by simp)
  generalize w1.alloc (.cells #[.slice (some ⟨tb, 0, none⟩) toks.length c, .int .i64 0, .int .i64 (s.size : Nat), .int .i64 0, .int .i64 0, .int .i64 0] 123) = w2 at *
  obtain ⟨pb, hpb⟩ : ∃ pb, w1.heap.size = pb := ⟨_, rfl⟩
  rw [hpb] at HPS
  rw [hpb]
  have HPB := Lib.hid hpb
  clear hpb
  have HCE := Lib.hid (HP.out pb tb c w2 0 HPS.out (Int.le_refl _) (by have := HH.out; omega))
  go_upto_region 8 with (first
    | (go_at_call 73; refine HCE.out.mono ?_; rintro e w3 ⟨cs, rfl, hk, hps, hbut⟩; have HK := Lib.hid hk; have HPS3 := Lib.hid hps; have HBT := Lib.hid hbut; have HCL := Lib.hid hk.len; clear hk hps hbut)
    | ((with_reducible refine wl_wbox 30 _ _ rfl rfl ?hwe w3 ?zne cs ?hz1 ?hz2 ?hz3 ?hz4 ?hz5 ?hz6 ?_); (case hwe => first | exact wanted_none rfl | exact wanted_if rfl rfl rfl rfl); (case hz1 => rfl); (case hz2 => rw [HCL.out]; rfl); (case hz3 => rfl); (case hz4 => rfl); (case hz5 => rw [HCL.out]; kernel_rfl); (case hz6 => exact HK.out.one); intro w4 hz hb hlt; have HX4 := Lib.hid hz; have HB4 := Lib.hid hb; have HLT4 := Lib.hid hlt; clear hz hb hlt))
  have HPS4 := Lib.hid (HPS3.out.keep HB4.out)
  have HK4 := Lib.hid (HK.out.to (q := fun b => w2.heap.size ≤ b) (fun b hp hlt => ⟨hp, HB4.out.block b hlt⟩) HB4.out.size)
  have HCR := Lib.hid (HR.out cs w4 HK4.out.exp)
  have d1 := HPS4.out.cell 1
  have d3 := HPS4.out.cell 3
  simp only [List.getElem?_toArray, List.getElem?_cons_succ, List.getElem?_cons_zero] at d1 d3
  go_upto_region 12 with (first
    | ((with_reducible refine wl_sload 30 _ rfl ?hwl w3.heap.size 0 cs _ ?hl6 HX4.out.range Tryz.underlying30 rfl ?hl8 ?_); (case hwl => first | exact wanted_none rfl | exact wanted_if rfl rfl rfl rfl); (case hl6 => rfl); (case hl8 => rw [HCL.out]; kernel_rfl))
    | (go_at_call 10; refine HCR.out.mono ?_; rintro e w5 ⟨rfl, hb⟩; have HB5 := Lib.hid hb; clear hb))
  clear d1 d3
  have HPS5 := Lib.hid (HPS4.out.keep HB5.out)
  have HX5 := Lib.hid (HX4.out.keep (HB5.out.block _ HX4.out.lt))
  have HK5 := Lib.hid (HK4.out.to (q := fun b => w2.heap.size ≤ b) (fun b hp hlt => ⟨hp, HB5.out.block b hlt⟩) HB5.out.size)
  have d3 := HPS5.out.cell 3
  simp only [List.getElem?_toArray, List.getElem?_cons_succ, List.getElem?_cons_zero] at d3
  have HP1 := Lib.hid (HR0.out.keep (HB1.out.block p HRW.out))
  have HP2 := Lib.hid (HP1.out.keep (HB2.out.block p (by have := HP1.out.lt; have := HPB.out; omega)))
  have HPNE : Hid (p ≠ pb) := Lib.hid (by have := HP1.out.lt; have := HPB.out; omega)
  have HP3 := Lib.hid (HP2.out.keep (HBT.out.block p HP2.out.lt HPNE.out HPNE.out))
  have HP4 := Lib.hid (HP3.out.keep (HB4.out.block p HP3.out.lt))
  have HP5 := Lib.hid (HP4.out.keep (HB5.out.block p HP4.out.lt))
  go_wp2_with (first
    | ((with_reducible refine wl_sload 30 _ rfl ?hwm w3.heap.size 0 cs _ ?hm6 HX5.out.range Tryz.underlying30 rfl ?hm8 ?_); (case hwm => first | exact wanted_none rfl | exact wanted_if rfl rfl rfl rfl); (case hm6 => rfl); (case hm8 => rw [HCL.out]; kernel_rfl))
    | ((with_reducible refine wl_wstore 30 _ _ rfl rfl ?hwd p zEc cs HP5.out ?hs5 ?hs6 ?hs7 ?hs8 ?hs9 ?_); (case hwd => first | exact wanted_none rfl | exact wanted_if rfl rfl rfl rfl); (case hs5 => rw [HCL.out]; rfl); (case hs6 => rfl); (case hs7 => rfl); (case hs8 => rw [HCL.out]; kernel_rfl); (case hs9 => exact HK5.out.one); intro Z hz hb; have HZ := Lib.hid hz; have HZB := Lib.hid hb; clear hz hb))
  (try simp only [Exit.inBlock, Exit.then])
  refine bodyPost_ret (results_exp3 rfl _ _ p cs HCL.out (.int .i64 0) (.int .i64 0) rfl HZ.out rfl rfl) rfl ?_
  have hpp := HPP.out
  have hw1 : Below w.heap.size w w1 := HB0.out.trans (HB1.out.mono HB0.out.size)
  have hw2 := hw1.trans (HB2.out.mono (by have := hw1.size; have := HPB.out; omega))
  have hw3 := hw2.trans (HBT.out.below (B := w.heap.size) hw2.size (by have := hw1.size; have := HPB.out; omega) (by have := hw1.size; have := HPB.out; omega))
  have hw4 := hw3.trans (HB4.out.mono hw3.size)
  have hw5 := hw4.trans (HB5.out.mono hw4.size)
  have hw6 := hw5.trans (HZB.out.below (B := w.heap.size) hw5.size (by omega) (by omega))
  have hk6 := HK5.out.to (q := fun b => w2.heap.size ≤ b) (w' := Z) (fun b hp hlt => ⟨hp, HZB.out.block b hlt (by have := HP2.out.lt; omega) (by have := HP2.out.lt; omega)⟩) HZB.out.size
  exact ⟨cs, rfl, hk6.to (q := fun b => w.heap.size ≤ b) (fun b hp _ => ⟨Nat.le_trans hw2.size hp, rfl⟩) (Nat.le_refl _), hw6⟩
end Go.Proofs.YtppmkehdhpgdcaaGreat
end
