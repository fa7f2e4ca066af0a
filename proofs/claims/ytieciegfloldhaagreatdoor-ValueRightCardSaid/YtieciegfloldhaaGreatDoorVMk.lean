/- The law's own makers of values; math.NaN, math.Copysign. -/
import Derived.Test.YtieciegfloldhaaGreatDoorVFits
namespace Go.Proofs.YtieciegfloldhaaGreatDoor
open Go Go.RowKit
set_option linter.unusedVariables false

theorem results_cellV {fn : Func} {p : Tmp} {T : TypeId} {d : TypeDesc} (h : fn.results = #[.cell p T]) (hu : Tryz.prog.underlying T = some d) (hd : d.isRow = true) (tmps : Array Value) (w : World) (g : Nat) (cs : List Value) (hi : (Tryz.prog.info? T).map (·.size) = some cs.length)
    (hp : tmps.getD p undef = .pointer (some ⟨g, 0, none⟩)) (hm : w.rangeAt g 0 cs) : (results fn tmps).run Tryz.prog w = .ok (.agg ⟨cs⟩) w := by
  have hp' : tmps[p]?.getD undef = .pointer (some ⟨g, 0, none⟩) := by simpa using hp
  have hl := run_loadVar_mid (P := Tryz.prog) w g 0 T cs _ hm hu hd hi
  simp [results, h, hp', asAddr, hl]
set_option maxHeartbeats 1000000 in
set_option maxRecDepth 100000 in
theorem mk_fl (f : Nat) (w : World) : Calls Tryz.prog 20 #[.float .f64 f] w fun e w' => e = .returned (.agg ⟨cellsOfV 3 0 f ⟨#[]⟩ (.slice none 0 0) (.slice none 0 0)⟩) ∧ Below w.heap.size w w' := by
  go_enter Tryz.func20, Tryz.ntmps20
  go_upto_region 1 with (fail)
  go_wp2_with ((with_reducible refine wl_sbox 26 _ _ rfl ?hw w ?zn (cellsOfV 3 0 f ⟨#[]⟩ (.slice none 0 0) (.slice none 0 0)) ?hwld ?hz ?hx ?hy ?hi ?h1 ?_); (case hwld => rfl); (case hx => rfl); (case hy => rfl); (case hw => first | exact wanted_none rfl | exact wanted_if rfl rfl rfl rfl); (case hz => rfl); (case hi => kernel_rfl); (case h1 => intro u hu; simp only [cellsOfV, List.mem_cons, List.not_mem_nil, or_false] at hu; rcases hu with rfl | rfl | rfl | rfl | rfl | rfl <;> rfl); intro Z hbx; have HX := Lib.hid hbx; clear hbx)
  (try simp only [Exit.inBlock, Exit.then])
  refine bodyPost_ret (results_cellV rfl Tryz.underlying26 rfl _ _ w.heap.size (cellsOfV 3 0 f ⟨#[]⟩ (.slice none 0 0) (.slice none 0 0)) (by kernel_rfl) rfl HX.out.range) rfl ?_
  exact ⟨rfl, HX.out.below⟩
set_option maxHeartbeats 1000000 in
set_option maxRecDepth 100000 in
theorem mk_num (n : Int) (w : World) : Calls Tryz.prog 23 #[.int .i64 n] w fun e w' => e = .returned (.agg ⟨cellsOfV 2 n 0 ⟨#[]⟩ (.slice none 0 0) (.slice none 0 0)⟩) ∧ Below w.heap.size w w' := by
  go_enter Tryz.func23, Tryz.ntmps23
  go_upto_region 1 with (fail)
  go_wp2_with ((with_reducible refine wl_sbox 26 _ _ rfl ?hw w ?zn (cellsOfV 2 n 0 ⟨#[]⟩ (.slice none 0 0) (.slice none 0 0)) ?hwld ?hz ?hx ?hy ?hi ?h1 ?_); (case hwld => rfl); (case hx => rfl); (case hy => rfl); (case hw => first | exact wanted_none rfl | exact wanted_if rfl rfl rfl rfl); (case hz => rfl); (case hi => kernel_rfl); (case h1 => intro u hu; simp only [cellsOfV, List.mem_cons, List.not_mem_nil, or_false] at hu; rcases hu with rfl | rfl | rfl | rfl | rfl | rfl <;> rfl); intro Z hbx; have HX := Lib.hid hbx; clear hbx)
  (try simp only [Exit.inBlock, Exit.then])
  refine bodyPost_ret (results_cellV rfl Tryz.underlying26 rfl _ _ w.heap.size (cellsOfV 2 n 0 ⟨#[]⟩ (.slice none 0 0) (.slice none 0 0)) (by kernel_rfl) rfl HX.out.range) rfl ?_
  exact ⟨rfl, HX.out.below⟩
set_option maxHeartbeats 1000000 in
set_option maxRecDepth 100000 in
theorem mk_str (s : ByteArray) (w : World) : Calls Tryz.prog 24 #[.string s] w fun e w' => e = .returned (.agg ⟨cellsOfV 4 0 0 s (.slice none 0 0) (.slice none 0 0)⟩) ∧ Below w.heap.size w w' := by
  go_enter Tryz.func24, Tryz.ntmps24
  go_upto_region 1 with (fail)
  go_wp2_with ((with_reducible refine wl_sbox 26 _ _ rfl ?hw w ?zn (cellsOfV 4 0 0 s (.slice none 0 0) (.slice none 0 0)) ?hwld ?hz ?hx ?hy ?hi ?h1 ?_); (case hwld => rfl); (case hx => rfl); (case hy => rfl); (case hw => first | exact wanted_none rfl | exact wanted_if rfl rfl rfl rfl); (case hz => rfl); (case hi => kernel_rfl); (case h1 => intro u hu; simp only [cellsOfV, List.mem_cons, List.not_mem_nil, or_false] at hu; rcases hu with rfl | rfl | rfl | rfl | rfl | rfl <;> rfl); intro Z hbx; have HX := Lib.hid hbx; clear hbx)
  (try simp only [Exit.inBlock, Exit.then])
  refine bodyPost_ret (results_cellV rfl Tryz.underlying26 rfl _ _ w.heap.size (cellsOfV 4 0 0 s (.slice none 0 0) (.slice none 0 0)) (by kernel_rfl) rfl HX.out.range) rfl ?_
  exact ⟨rfl, HX.out.below⟩
theorem nan_any (w : World) : Calls Tryz.prog 21 #[] w fun e w' => e = .returned (.float .f64 9221120237041090561) ∧ w' = w := by
  have e1 : ∀ W : World, (callFunc 45 #[.int .u64 9221120237041090561]).run Tryz.prog W = .ok (.value (.float .f64 9221120237041090561)) W := fun W => by
    rw [run_callFunc_extern Tryz.func45 (by kernel_rfl) (by kernel_rfl) (by kernel_rfl) (e := Extern.MathFloatBits.float64frombits) (by kernel_rfl)]
    rfl
  go_enter Tryz.func21, Tryz.ntmps21
  go_wp2
  go_ret
  exact ⟨rfl, rfl⟩
set_option maxRecDepth 100000 in
theorem copysign_any (w : World) : Calls Tryz.prog 22 #[.float .f64 0, .float .f64 13830554455654793216] w fun e w' => e = .returned (.float .f64 9223372036854775808) ∧ w' = w := by
  have e1 : ∀ W : World, (callFunc 46 #[.float .f64 0]).run Tryz.prog W = .ok (.value (.int .u64 0)) W := fun W => by
    rw [run_callFunc_extern Tryz.func46 (by kernel_rfl) (by kernel_rfl) (by kernel_rfl) (e := Extern.MathFloatBits.float64bits) (by kernel_rfl)]
    rfl
  have e2 : ∀ W : World, (callFunc 46 #[.float .f64 13830554455654793216]).run Tryz.prog W = .ok (.value (.int .u64 13830554455654793216)) W := fun W => by
    rw [run_callFunc_extern Tryz.func46 (by kernel_rfl) (by kernel_rfl) (by kernel_rfl) (e := Extern.MathFloatBits.float64bits) (by kernel_rfl)]
    rfl
  have e3 : ∀ W : World, (callFunc 45 #[.int .u64 9223372036854775808]).run Tryz.prog W = .ok (.value (.float .f64 9223372036854775808)) W := fun W => by
    rw [run_callFunc_extern Tryz.func45 (by kernel_rfl) (by kernel_rfl) (by kernel_rfl) (e := Extern.MathFloatBits.float64frombits) (by kernel_rfl)]
    rfl
  have b1 : bits .andNot .u64 0 9223372036854775808 = 0 := by decide +kernel
  have b2 : bits .and .u64 13830554455654793216 9223372036854775808 = 9223372036854775808 := by decide +kernel
  have b3 : bits .or .u64 0 9223372036854775808 = 9223372036854775808 := by decide +kernel
  go_enter Tryz.func22, Tryz.ntmps22
  go_wp2
  go_ret
  exact ⟨rfl, rfl⟩
end Go.Proofs.YtieciegfloldhaaGreatDoor
