/- Parts of a proof: Lex2. -/
import Derived.Test.YtppmkehdhpgdcaaGreatPackP41
namespace Go.Proofs.YtppmkehdhpgdcaaGreat
open Go Go.RowKit
set_option linter.unusedVariables false
set_option linter.unusedSimpArgs false
theorem str_slice (s nm : ByteArray) (a e : Nat) (hae : a ≤ e) (he : e ≤ s.size) (hx : s.extract a e = nm) (W : World) :
    (Instr.sliceAt 9 (.string s) (some (.int .i64 (a : Nat))) (some (.int .i64 (e : Nat))) none).run Tryz.prog W = .ok (.string nm) W := by
  have hul := Tryz.underlying9
  have h0 : (Instr.slice 9 (.string s) (some (.int .i64 (a : Nat))) (some (.int .i64 (e : Nat))) none).run Tryz.prog W = .ok (.string (s.extract a e)) W := by
    simp [Instr.slice, Instr.sliceBounds, run_sliceBound, *, (by omega : (0 : Int) ≤ (a : Int)), (by omega : (0 : Int) ≤ (e : Int)), (by omega : ((a : Int)) ≤ (e : Int))]
  rw [run_sliceAt_string (w := W) (t := 9) (h := hul), h0, hx]
theorem two_below (w : World) (A B : Obj) : Below w.heap.size w ((w.alloc A).alloc B) := (box_below w A).trans ((box_below (w.alloc A) B).mono (by simp))
theorem lxresults_tok2 {fn : Func} {p u : Tmp} (h : fn.results = #[.cell p 141, .tmp u]) (tmps : Array Value) (w : World) (g : Nat) (cs : Array Value) (hs : cs.size = 6) (v : Value)
    (hp : tmps.getD p undef = .pointer (some ⟨g, 0, none⟩)) (hg : w.heap[g]? = some (.cells cs 141 (0, 0))) (hu : tmps.getD u undef = v) : (results fn tmps).run Tryz.prog w = .ok (.tuple #[.agg cs, v]) w := by
  rw [results_cell_tmp h, hp, hu]
  simp [asAddr, run_loadVar_row w g 141 141 cs (0, 0) _ hg Tryz.underlying141 rfl (by rw [hs]; kernel_rfl)]
def lxidC (c : UInt8) : Bool := lxletC c || (lxdigC c || (c.toNat : Int) == 95)
@[reducible] def twoTok (w : World) (i : Nat) : World := (w.alloc (.cells #[.int .i64 1, .int .i64 (i : Nat), .int .i64 (i : Nat), .int .i64 0, .float .f64 0, .string ⟨#[]⟩] 141)).alloc (.cells #[.int .i64 0, .int .i64 0, .int .i64 0, .int .i64 0, .float .f64 0, .string ⟨#[]⟩] 141)
set_option maxHeartbeats 2000000 in
set_option maxRecDepth 100000 in
theorem lxname_any (s nm : ByteArray) (i e : Nat) (hie : i < e) (he : e ≤ s.size) (hsz : (s.size : Int) ≤ 2000) (hc : lxcharsIn lxidC s.data.toList i e) (hs : lxstopAt lxidC s.data.toList e) (hx : s.extract i e = nm) (hl : (nm.size : Int) ≤ 30)
    (hn1 : (nm.toList == [110, 97, 110]) = false) (hn2 : (nm.toList == [105, 110, 102]) = false) (w : World) :
    Calls Tryz.prog 128 #[.string s, .agg #[.int .i64 1, .int .i64 (i : Nat), .int .i64 (i : Nat), .int .i64 0, .float .f64 0, .string ⟨#[]⟩]] w fun r w' =>
      r = .returned (.tuple #[.agg #[.int .i64 5, .int .i64 (i : Nat), .int .i64 (e : Nat), .int .i64 0, .float .f64 0, .string nm], .int .i64 0]) ∧ Below w.heap.size w w' := by
  have HC := Lib.hid hc
  have HS := Lib.hid hs
  have HL : Hid (s.data.toList.length = s.size) := Lib.hid (by cases s; rfl)
  have HE := Lib.hid he
  have HD := Lib.hid (fun c w => ldig_any c w)
  have HLT := Lib.hid (fun c w => llet_any c w)
  have hsl := fun W => str_slice s nm i e (by omega) he hx W
  have hx2 : ¬ ((nm.size : Int) > 30) := by omega
  have hsf : ∀ (W : World) (a : Addr), (store a (.float .f64 0)).run Tryz.prog W = stored Tryz.prog W a (.float .f64 0) .plain := fun W a => run_store _ _ _ _ _ rfl
  have HIE := Lib.hid hie
  clear hc hs he hx hie
  go_enter Tryz.func128, Tryz.ntmps128
  go_upto_region 2 with (fail)
  go_loopg [6] (e - i) (fun q x u => ∃ k : Nat, k ≤ e ∧ k + q = e ∧ i ≤ k ∧ x = .int .i64 (k : Nat) ∧ u = twoTok w i)
  case atStart => exact ⟨i, (by have := HIE.out; omega), (by have := HIE.out; omega), Nat.le_refl _, rfl, rfl⟩
  case round =>
    obtain ⟨k, hke, hkq, hik, rfl, rfl⟩ := hrel
    cases gk with
    | zero =>
      obtain rfl : k = e := by omega
      by_cases hend : k < s.size
      · obtain ⟨c, hc⟩ : ∃ c, s.data.toList[k]? = some c := ⟨_, List.getElem?_eq_getElem (by rw [HL.out]; exact hend)⟩
        have dk := fun h => lbyte_at (k := k) (c := c) hc h
        have hB := HS.out c hc
        have hB1 : Hid (lxletC c = false) := Lib.hid (by unfold lxidC at hB; cases h : lxletC c <;> simp_all)
        have hB2 : Hid (lxdigC c = false) := Lib.hid (by unfold lxidC at hB; cases h : lxdigC c <;> simp_all)
        have hB3 : ((c.toNat : Int) == 95) = false := by unfold lxidC at hB; cases h : ((c.toNat : Int) == 95) <;> simp_all
        have hlt : (k : Int) < (s.size : Int) := by omega
        clear hc hB
        go_wp2_with (first
          | (go_at_call 127; refine (HLT.out c _).mono ?_; rw [hB1.out]; rintro e z ⟨rfl, rfl⟩)
          | (go_at_call 125; refine (HD.out c _).mono ?_; rw [hB2.out]; rintro e z ⟨rfl, rfl⟩))
        (try simp only [Exit.inBlock, Exit.then])
        refine bodyPost_ret (lxresults_tok2 rfl _ _ (w.heap.size + 1) #[.int .i64 5, .int .i64 (i : Nat), .int .i64 (k : Nat), .int .i64 0, .float .f64 0, .string nm] rfl (.int .i64 0) rfl (heap_alloc2_new w _ _) rfl) rfl ?_
        exact ⟨rfl, two_below w _ _⟩
      · have hlt : ¬ ((k : Int) < (s.size : Int)) := by omega
        go_wp2
        (try simp only [Exit.inBlock, Exit.then])
        refine bodyPost_ret (lxresults_tok2 rfl _ _ (w.heap.size + 1) #[.int .i64 5, .int .i64 (i : Nat), .int .i64 (k : Nat), .int .i64 0, .float .f64 0, .string nm] rfl (.int .i64 0) rfl (heap_alloc2_new w _ _) rfl) rfl ?_
        exact ⟨rfl, two_below w _ _⟩
    | succ q =>
      have he := HE.out
      obtain ⟨c, hc, hd⟩ := HC.out k hik (by omega)
      have dk := fun h => lbyte_at (k := k) (c := c) hc h
      have hlt : (k : Int) < (s.size : Int) := by omega
      cases h1 : lxletC c with
      | true =>
        have HB1 := Lib.hid h1
        clear hc hd h1
        go_wp2_with (go_at_call 127; refine (HLT.out c _).mono ?_; rw [HB1.out]; rintro e z ⟨rfl, rfl⟩)
        go_roundg q
        case measure => omega
        case rel => exact ⟨k + 1, by omega, by omega, by omega, by go_num, rfl⟩
      | false =>
        cases h2 : lxdigC c with
        | true =>
          have HB1 := Lib.hid h1
          have HB2 := Lib.hid h2
          clear hc hd h1 h2
          go_wp2_with (first
            | (go_at_call 127; refine (HLT.out c _).mono ?_; rw [HB1.out]; rintro e z ⟨rfl, rfl⟩)
            | (go_at_call 125; refine (HD.out c _).mono ?_; rw [HB2.out]; rintro e z ⟨rfl, rfl⟩))
          go_roundg q
          case measure => omega
          case rel => exact ⟨k + 1, by omega, by omega, by omega, by go_num, rfl⟩
        | false =>
          have hB3 : ((c.toNat : Int) == 95) = true := by unfold lxidC at hd; rw [h1, h2] at hd; simpa using hd
          have HB1 := Lib.hid h1
          have HB2 := Lib.hid h2
          clear hc hd h1 h2
          go_wp2_with (first
            | (go_at_call 127; refine (HLT.out c _).mono ?_; rw [HB1.out]; rintro e z ⟨rfl, rfl⟩)
            | (go_at_call 125; refine (HD.out c _).mono ?_; rw [HB2.out]; rintro e z ⟨rfl, rfl⟩))
          go_roundg q
          case measure => omega
          case rel => exact ⟨k + 1, by omega, by omega, by omega, by go_num, rfl⟩
end Go.Proofs.YtppmkehdhpgdcaaGreat
