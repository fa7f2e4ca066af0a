/- ref15.come: the root, and what is reached from it. -/
import Derived.Test.YtedajbpjokmlaaaHas
namespace Go.Proofs.Ytedajbpjokmlaaa
open Go Go.RowKit
set_option linter.unusedVariables false

def comeL (g : List GN) (a : Int) : List Int := if isN g.length a = true then reachL g a ++ [a] else []
theorem comeL_len (g : List GN) (a : Int) : (comeL g a).length ≤ g.length + 1 := by
  unfold comeL
  split
  · have := reachL_len g a
    rw [List.length_append, List.length_singleton]
    omega
  · simp
theorem comeL_has {g : List GN} {r i : Nat} (hr : r < g.length) (hi : i < g.length) : (comeL g (r : Int)).contains (i : Int) = come g.length (graphE g) r i := by
  have h1 : isN g.length (r : Int) = true := by unfold isN; simp; omega
  unfold comeL reachL come
  rw [if_pos h1, if_pos h1, Int.toNat_natCast]
  rw [Bool.eq_iff_iff, List.contains_iff_mem, List.mem_append, mem_listN, Bool.or_eq_true, beq_iff_eq, List.mem_singleton]
  constructor
  · rintro (⟨k, hk, _, h⟩ | h)
    · obtain rfl : i = k := by omega
      exact .inr h
    · exact .inl (by omega)
  · rintro (h | h)
    · exact .inr (by omega)
    · exact .inl ⟨i, rfl, hi, h⟩
theorem comeL_none {g : List GN} {a : Int} (h : isN g.length a = false) : comeL g a = [] := by unfold comeL; rw [if_neg (by rw [h]; simp)]

set_option maxHeartbeats 1000000 in
theorem come_any (g : List GN) (a : Int) (c0 c1 c2 c3 c4 v5 : Value) (w : World) (hg : GraphAt w w.heap.size v5 g) (hlen : (edgesOf g).length ≤ 10000) (hgn : g.length ≤ 10000) :
    Calls Try.prog 39 #[.agg ⟨[c0, c1, c2, c3, c4, v5]⟩, .int .i64 a] w (IntsPost w (comeL g a)) := by
  have HG := Lib.hid hg
  have HLEN := Lib.hid hlen
  have HGN := Lib.hid hgn
  have hno : isN g.length a = (decide (0 ≤ a) && decide (a < g.length)) := rfl
  obtain ⟨hgl, A, c, rfl, hA⟩ := hg
  clear hA hlen hgl
  obtain ⟨i0, hi, hz0, hz1, hz2⟩ := info_parts' info_int
  have HI0 := Lib.hid hi
  have HZ0 := Lib.hid hz0
  have HZ1 := Lib.hid hz1
  have HZ2 := Lib.hid hz2
  clear hi hz0 hz1 hz2
  go_enter Try.func39, Try.ntmps39
  go_upto_region 1 with (fail)
  have HB := Lib.hid (box_below w (.cells ⟨[c0, c1, c2, c3, c4, .slice A g.length c]⟩ 27))
  have HC5 := Lib.hid (cells_box w [c0, c1, c2, c3, c4, .slice A g.length c] 27 5 _ rfl)
  have HR := Lib.hid (range_box w [c0, c1, c2, c3, c4, .slice A g.length c] 27)
  generalize w.alloc (.cells ⟨[c0, c1, c2, c3, c4, .slice A g.length c]⟩ 27) = W at *
  have d5 := HC5.out
  by_cases hneg : a < 0
  · have t1 : decide (a < 0) = true := by simp; omega
    have HE : Hid (comeL g a = []) := Lib.hid (comeL_none (by rw [hno]; simp; omega))
    clear hno hneg
    go_wp2
    go_ret
    exact ⟨_, rfl, by rw [HE.out]; exact OwnSl.nil _ _, HB.out⟩
  · have t1 : decide (a < 0) = false := by simp; omega
    by_cases hbig : (g.length : Int) ≤ a
    · have t2 : decide ((g.length : Int) ≤ a) = true := by simp; omega
      have HE : Hid (comeL g a = []) := Lib.hid (comeL_none (by rw [hno]; simp; omega))
      clear hno hneg hbig
      go_wp2
      go_ret
      exact ⟨_, rfl, by rw [HE.out]; exact OwnSl.nil _ _, HB.out⟩
    · have t2 : decide ((g.length : Int) ≤ a) = false := by simp; omega
      have HE : Hid (comeL g a = reachL g a ++ [a]) := Lib.hid (by unfold comeL; rw [if_pos (by rw [hno]; simp; omega)])
      have HCR := Lib.hid (rreach_any g a c0 c1 c2 c3 c4 (.slice A g.length c) W (HG.out.next HB.out) HLEN.out HGN.out)
      have hrl := reachL_len g a
      have HK1 : Hid ((reachL g a).length + 1 ≤ maxLen) := Lib.hid (by unfold maxLen; omega)
      have HK2 : Hid (((reachL g a).length + 1) * 8 ≤ 140737488355328) := Lib.hid (by omega)
      clear hno hneg hbig hrl
      go_upto_region 3 with (fail)
      clear d5 t1 t2
      generalize reachL g a = RL at *
      go_wp2_with (first | ((with_reducible refine wl_sload 27 _ rfl ?hw2 w.heap.size 0 [c0, c1, c2, c3, c4, .slice A g.length c] _ rfl HR.out Try.underlying27 rfl ?hi2 ?_); (case hw2 => first | exact wanted_none rfl | exact wanted_if rfl rfl rfl rfl); (case hi2 => kernel_rfl)) | (go_at_call 48; refine HCR.out.mono ?_; rintro e w5 ⟨v5, rfl, hown5, hb5⟩; obtain ⟨A5, c5, hv5⟩ := own_sl hown5; subst hv5; have HB5 := Lib.hid hb5; have HWZ := Lib.hid (OwnSl.below hown5 (box_below w5 (.cells ⟨encI a⟩ 3))); have HCE := Lib.hid (cells_box w5 (encI a) 3); have HBB := Lib.hid (hb5.alloc hb5.size (.cells ⟨encI a⟩ 3)); clear hown5 hb5) | (at_builtin; refine wl_push rfl _ _ 34 rfl W.heap.size 3 i0 (.int .i64 0) 1 8 encI Try.underlying34 HI0.out HZ0.out HZ1.out HZ2.out rfl (by decide) encI_len encI_one _ _ rfl HWZ.out w5.heap.size 1 a rfl HCE.out HK1.out HK2.out HBB.out.size ?_; intro v6 w6 hown6 hg6; have HO6 := Lib.hid hown6; have HG6 := Lib.hid hg6; clear hown6 hg6))
      have HB6 := Lib.hid (push_below HBB.out HBB.out.size HWZ.out (Nat.le_refl _) HG6.out)
      go_ret
      exact ⟨_, rfl, by rw [HE.out]; exact HO6.out.mono HB.out.size, HB.out.trans (HB6.out.mono HB.out.size)⟩
end Go.Proofs.Ytedajbpjokmlaaa
