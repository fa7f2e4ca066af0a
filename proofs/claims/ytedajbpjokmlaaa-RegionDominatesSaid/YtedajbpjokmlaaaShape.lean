/- The law's models of edges alone. -/
import Derived.Test.YtedajbpjokmlaaaGOrder
import Derived.BigQuiet
namespace Go.Proofs.Ytedajbpjokmlaaa
open Go Go.RowKit
set_option linter.unusedVariables false

def zM (i : Nat) : Value := if i = 0 then .int .i64 0 else .slice none 0 0
theorem row_zM (w : World) : RowF (w.alloc (.cells #[.int .i64 0, .slice none 0 0, .slice none 0 0, .slice none 0 0, .slice none 0 0, .slice none 0 0] 27)) w.heap.size 6 zM := by
  refine ⟨fun i hi => ?_, fun i hi => frozen_box _ _ _ _⟩
  rw [cell_box]
  match i, hi with
  | 0, _ => rfl
  | 1, _ => rfl
  | 2, _ => rfl
  | 3, _ => rfl
  | 4, _ => rfl
  | 5, _ => rfl

def encX : List Value := [.int .i64 0, .string ⟨#[]⟩, .int .i64 0, .int .i64 0, .float .f64 0, .string ⟨#[]⟩, .slice none 0 0, .slice none 0 0, .slice none 0 0, .slice none 0 0]
def encC (v : Value) (c : Int) : List Value := [.int .i64 0, .int .i64 0, v, .slice none 0 0] ++ encX ++ encX ++ [.int .i64 0, .int .i64 0, .int .i64 c, .int .i64 0, .int .i64 0]
def encN (x : Value × List Int) : List Value := encC x.1 (-1)
theorem encN_len (x : Value × List Int) : (encN x).length = 29 := rfl
theorem info_node : (Try.prog.info? 55).map (fun i => (i.zero, i.size, i.bytes)) = some (some (.agg ⟨encC (.slice none 0 0) 0⟩), 29, 424) := by kernel_rfl
theorem own_put {α : Type} {T : TypeId} {k B lb i : Nat} {enc : α → List Value} {w : World} {v : Value} {l : List α} (h : OwnSl T k enc w B v l) (hlb : lb < B) (y : Value) : OwnSl T k enc (w.setCell ⟨lb, i, none⟩ y) B v l :=
  World.ownsRow.kept h (grown_set (grown_refl w _) y) (.inr fun e => by have := h.block e; omega)
theorem below_put {B lb i : Nat} {w0 w : World} (h : Below B w0 w) (hlb : B ≤ lb) (y : Value) : Below B w0 (w.setCell ⟨lb, i, none⟩ y) := below_sets (vs := [y]) h hlb i

theorem results_model {fn : Func} {p : Tmp} (h : fn.results = #[.cell p 27]) (tmps : Array Value) (w : World) (g : Nat) (cs : List Value) (hl : cs.length = 6)
    (hp : tmps.getD p undef = .pointer (some ⟨g, 0, none⟩)) (hm : w.rangeAt g 0 cs) : (results fn tmps).run Try.prog w = .ok (.agg ⟨cs⟩) w := by
  have hp' : tmps[p]?.getD undef = .pointer (some ⟨g, 0, none⟩) := by simpa using hp
  have hl := run_loadVar_mid (P := Try.prog) w g 0 27 cs _ hm Try.underlying27 rfl (by rw [hl]; kernel_rfl)
  simp [results, h, hp', asAddr, hl]
/-- a model whose nodes are edges alone -/
def modelV (v5 : Value) : Value := .agg ⟨[.int .i64 0, .slice none 0 0, .slice none 0 0, .slice none 0 0, .slice none 0 0, v5]⟩
def ModelPost (w : World) (g : List GN) (e : Ending) (w' : World) : Prop := ∃ v5, e = .returned (modelV v5) ∧ GraphAt w' w'.heap.size v5 g ∧ Below w.heap.size w w'
theorem own_graph {w : World} {B : Nat} {v : Value} {L : List (Value × List Int)} (h : OwnSl 55 29 encN w B v L) (hl : L.length ≤ 100) (hr : ∀ x ∈ L, (∀ v ∈ encN x, v.oneCell' = true) ∧ SlAt w w.heap.size 1 IntR x.1 x.2) :
    GraphAt w w.heap.size v (L.map fun x => ⟨x.2, -1, 0⟩) := by
  obtain ⟨h0, A, c, rfl, h1⟩ := h.at encN_len (by omega)
  refine ⟨by rw [List.length_map]; omega, A, c, by rw [List.length_map], fun hp => ?_⟩
  obtain ⟨b, o, hb, hlt, h2⟩ := h1 (by simpa using hp)
  refine ⟨b, o, hb, hlt, fun i x hx => ?_⟩
  rw [List.getElem?_map] at hx
  obtain ⟨y, hy, rfl⟩ := Option.map_eq_some_iff.1 hx
  obtain ⟨cs, h3, h4, h5⟩ := h2 i y hy
  obtain ⟨h6, h7⟩ := hr y (List.mem_of_getElem? hy)
  have h5' : cs = encN y := h5
  subst h5'
  exact ⟨_, h3, h4, ⟨⟨_, rfl, h7⟩, rfl, rfl, h6, (show wfI (-1) from rfl), (show wfI 0 from rfl)⟩⟩

section
variable {P : Program} {ops : Array Oper} {rest : List Oper} {o : Oper} {a : Act} {w : World} {Q : Exit → Act → World → Prop}
/-- one element is put behind a list -/
theorem wl_push' {α : Type} (hgd : o.guard = none) (s x : Operand) (t : TypeId) (ho : o.op = .call { callee := .builtin .append, args := #[s, x], argTypes := #[t, t] })
    (base : Nat) (e : TypeId) (i : TypeInfo) (z : Value) (k bytes : Nat) (enc : α → List Value) (ht : P.underlying t = some (.slice e)) (hi : P.info? e = some i) (hz : i.zero = some z)
    (hsize : i.size = k) (hby : i.bytes = bytes) (hzs : z.cells.size = k) (hsz : 0 < k) (hk : ∀ x, (enc x).length = k)
    (v : Value) (l : List α) (hs : a.eval s = v) (hown : OwnSl e k enc w base v l) (nb c : Nat) (y : α) (h1 : ∀ u ∈ enc y, u.oneCell' = true) (hx : a.eval x = .slice (some ⟨nb, 0, none⟩) 1 c)
    (hc : ∀ j u, (enc y)[j]? = some u → w.cell? ⟨nb, j, none⟩ = some u) (h63 : l.length + 1 ≤ maxLen) (hbytes : (l.length + 1) * bytes ≤ 140737488355328) (hbase : base ≤ w.heap.size)
    (h : ∀ v' w', OwnSl e k enc w' base v' (l ++ [y]) → w.grownBy w' v.ownBlock → wpList P ops Q rest (a.put o.dst v') w') : wpList P ops Q (o :: rest) a w :=
  wl_append hgd s x t ho base e i z k bytes ht hi hz hsize hby hzs hsz v l.length (flat enc l) hs hown (some ⟨nb, 0, none⟩) 1 c (enc y) hx (by rw [hk]; omega)
    (fun _ => ⟨_, rfl, fun j u hu => by rw [Addr.add_mid, Nat.zero_add]; exact hc j u hu⟩) h1 h63 hbytes hbase
    (fun v' w' ho hg => h v' w' (by unfold OwnSl; rw [flat_snoc, List.length_append]; exact ho) hg)
end

set_option maxHeartbeats 4000000 in
set_option maxRecDepth 100000 in
theorem shape_any (L : List (Value × List Int)) (b o cap : Nat) (w : World) (hl : L.length ≤ 100) (hc : ∀ i x, L[i]? = some x → w.cell? ⟨b, o + i, none⟩ = some x.1) (hb : b < w.heap.size) (hr : ∀ x ∈ L, (∀ v ∈ encN x, v.oneCell' = true) ∧ SlAt w w.heap.size 1 IntR x.1 x.2) :
    Calls Try.prog 29 #[.slice (some ⟨b, o, none⟩) L.length cap] w (ModelPost w (L.map fun x => ⟨x.2, -1, 0⟩)) := by
  have HC := Lib.hid hc
  obtain ⟨i0, hi, hz0, hz1, hz2⟩ := info_parts' info_node
  have HI0 := Lib.hid hi
  have HZ0 := Lib.hid hz0
  have HZ1 := Lib.hid hz1
  have HZ2 := Lib.hid hz2
  clear hi hz0 hz1 hz2
  have HR := Lib.hid hr
  clear hc hr
  have HR0 := Lib.hid (row_zM w)
  have HB0 := Lib.hid (box_below w (.cells #[.int .i64 0, .slice none 0 0, .slice none 0 0, .slice none 0 0, .slice none 0 0, .slice none 0 0] 27))
  have HS0 := Lib.hid (box_size w (.cells #[.int .i64 0, .slice none 0 0, .slice none 0 0, .slice none 0 0, .slice none 0 0, .slice none 0 0] 27))
  go_enter Try.func29, Try.ntmps29
  go_upto_region 1 with (fail)
  obtain ⟨rb, hrb⟩ : ∃ rb, w.heap.size = rb := ⟨_, rfl⟩
  have HRB : Hid (w.heap.size ≤ rb) := Lib.hid (by omega)
  have HBL : Hid (b < rb) := Lib.hid (by omega)
  rw [hrb] at HR0 HS0
  rw [hrb]
  generalize w.alloc (.cells #[.int .i64 0, .slice none 0 0, .slice none 0 0, .slice none 0 0, .slice none 0 0, .slice none 0 0] 27) = W1 at *
  have HR1 := Lib.hid (row_zM W1)
  have HB1 := Lib.hid (box_below W1 (.cells #[.int .i64 0, .slice none 0 0, .slice none 0 0, .slice none 0 0, .slice none 0 0, .slice none 0 0] 27))
  have HS1 := Lib.hid (box_size W1 (.cells #[.int .i64 0, .slice none 0 0, .slice none 0 0, .slice none 0 0, .slice none 0 0, .slice none 0 0] 27))
  have HR0' := Lib.hid (HR0.out.below HB1.out HS0.out)
  go_upto_region 2 with (fail)
  obtain ⟨mb, hmb⟩ : ∃ mb, W1.heap.size = mb := ⟨_, rfl⟩
  have HRM : Hid (rb < mb) := Lib.hid (by have := HS0.out; omega)
  have HBW := Lib.hid (HB0.out.trans (HB1.out.mono HB0.out.size))
  rw [hmb] at HR1 HS1
  rw [hmb]
  generalize W1.alloc (.cells #[.int .i64 0, .slice none 0 0, .slice none 0 0, .slice none 0 0, .slice none 0 0, .slice none 0 0] 27) = W2 at *
  clear HR0 HB0 HS0 HB1 hmb hrb
  obtain ⟨B2, hB2⟩ : ∃ B2, W2.heap.size = B2 := ⟨_, rfl⟩
  have HMB : Hid (mb < B2) := Lib.hid (by have := HS1.out; omega)
  have HB2 : Hid (B2 ≤ W2.heap.size) := Lib.hid (by omega)
  clear hB2 HS1
  have hl2 : (L.length : Int) ≤ 100 := by omega
  go_wp2
  go_loopg [8] L.length (fun q x u => ∃ (j : Nat) (v : Value), j + q = L.length ∧ x = .int .i64 j ∧ RowF u mb 6 (fun i => if i = 5 then v else zM i) ∧ RowF u rb 6 zM ∧ OwnSl 55 29 encN u B2 v (L.take j) ∧ B2 ≤ u.heap.size ∧ Below w.heap.size w u)
  case atStart => exact ⟨0, .slice none 0 0, by omega, rfl, HR1.out.congr (fun i hi => by split; (rename_i h; subst h; rfl); rfl), HR0'.out, OwnSl.nil _ _, HB2.out, HBW.out⟩
  case round =>
    obtain ⟨j, v, hj, rfl, hrm, hrr, hown, hs, hb⟩ := hrel
    have HRM2 := Lib.hid hrm
    have HRR := Lib.hid hrr
    have HOWN := Lib.hid hown
    have HS := Lib.hid hs
    have HB := Lib.hid hb
    clear hrm hrr hown hs hb HR1 HR0' HB2 HBW
    cases gk with
    | zero =>
      have hge : ¬ ((j : Int) < (L.length : Int)) := by omega
      have hjl : j = L.length := by omega
      rw [List.take_of_length_le (by omega)] at HOWN
      have HRG : Hid (wr.rangeAt mb 0 [.int .i64 0, .slice none 0 0, .slice none 0 0, .slice none 0 0, .slice none 0 0, v]) := Lib.hid fun i u hu => by
        have hi := (List.getElem?_eq_some_iff.1 hu).1
        simp only [List.length_cons, List.length_nil] at hi
        rw [Nat.zero_add, HRM2.out.c i hi, ← hu]
        match i, hi with
        | 0, _ => rfl
        | 1, _ => rfl
        | 2, _ => rfl
        | 3, _ => rfl
        | 4, _ => rfl
        | 5, _ => rfl
      obtain ⟨A6, c6, hv6⟩ := own_sl HOWN.out
      subst hv6
      have r0 := HRR.out.c 0 (by omega)
      have r1 := HRR.out.c 1 (by omega)
      have r2 := HRR.out.c 2 (by omega)
      have r3 := HRR.out.c 3 (by omega)
      have r4 := HRR.out.c 4 (by omega)
      have r5 := HRR.out.c 5 (by omega)
      have f0 := HRR.out.fz 0 (by omega)
      have f1 := HRR.out.fz 1 (by omega)
      have f2 := HRR.out.fz 2 (by omega)
      have f3 := HRR.out.fz 3 (by omega)
      have f4 := HRR.out.fz 4 (by omega)
      have f5 := HRR.out.fz 5 (by omega)
      go_wp2_with ((with_reducible refine wl_sload 27 _ rfl ?hw2 mb 0 [.int .i64 0, .slice none 0 0, .slice none 0 0, .slice none 0 0, .slice none 0 0, .slice A6 L.length c6] _ rfl HRG.out Try.underlying27 rfl ?hi2 ?_); (case hw2 => first | exact wanted_none rfl | exact wanted_if rfl rfl rfl rfl); (case hi2 => kernel_rfl))
      have hth : wr.there rb 0 6 := fun i hi => by rw [Nat.zero_add, HRR.out.c i hi]; exact ⟨rfl, HRR.out.fz i hi⟩
      have hres := World.rangeAt_setCells_same wr rb 0 [.int .i64 0, .slice none 0 0, .slice none 0 0, .slice none 0 0, .slice none 0 0, .slice A6 L.length c6] hth
      have hbl : Below w.heap.size w (wr.setCells rb 0 [.int .i64 0, .slice none 0 0, .slice none 0 0, .slice none 0 0, .slice none 0 0, .slice A6 L.length c6]) := below_sets HB.out HRB.out _ 0
      have hbl2 : Below rb wr (wr.setCells rb 0 [.int .i64 0, .slice none 0 0, .slice none 0 0, .slice none 0 0, .slice none 0 0, .slice A6 L.length c6]) := below_sets (Below.refl _ _) (Nat.le_refl _) _ 0
      have hown : OwnSl 55 29 encN (wr.setCells rb 0 [.int .i64 0, .slice none 0 0, .slice none 0 0, .slice none 0 0, .slice none 0 0, .slice A6 L.length c6]) B2 (.slice A6 L.length c6) L :=
        own_put (own_put (own_put (own_put (own_put (own_put HOWN.out (Nat.lt_trans HRM.out HMB.out) _) (Nat.lt_trans HRM.out HMB.out) _) (Nat.lt_trans HRM.out HMB.out) _) (Nat.lt_trans HRM.out HMB.out) _) (Nat.lt_trans HRM.out HMB.out) _) (Nat.lt_trans HRM.out HMB.out) _
      refine bodyPost_ret (results_model rfl _ _ rb _ rfl rfl hres) rfl ?_
      exact ⟨.slice A6 L.length c6, rfl, own_graph hown hl fun x hx => ⟨(HR.out x hx).1, (SlAt.below (HR.out x hx).2 hbl fun _ _ _ h => h).more hbl.size⟩, hbl⟩
    | succ q =>
      have hlt : (j : Int) < (L.length : Int) := by omega
      obtain ⟨x, hx⟩ : ∃ x, L[j]? = some x := ⟨_, List.getElem?_eq_getElem (by omega)⟩
      have da := (HB.out.cell (p := ⟨b, o + j, none⟩) hb).trans (HC.out j x hx)
      have d5 := HRM2.out.c 5 (by omega)
      simp only [if_true] at d5
      obtain ⟨h1, hx0, A, c, hv, _⟩ := HR.out x (List.mem_of_getElem? hx)
      have HX := Lib.hid hx
      have HON := Lib.hid h1
      obtain ⟨xv, xl⟩ := x
      simp only at hv
      subst hv
      simp only at da
      clear hx0 hx h1
      have HWZ : Hid (OwnSl 55 29 encN (wr.alloc (.cells ⟨encN (.slice A xl.length c, xl)⟩ 55)) B2 v (L.take j)) := Lib.hid (OwnSl.below HOWN.out (box_below wr _))
      have HCE := Lib.hid (cells_box wr (encN (.slice A xl.length c, xl)) 55)
      have HJL : Hid ((L.take j).length + 1 ≤ 100) := Lib.hid (by rw [List.length_take]; omega)
      have HK1 : Hid ((L.take j).length + 1 ≤ maxLen) := Lib.hid (by have := HJL.out; unfold maxLen; omega)
      have HK2 : Hid (((L.take j).length + 1) * 424 ≤ 140737488355328) := Lib.hid (by have := HJL.out; omega)
      have HBB := Lib.hid (HB.out.alloc HB.out.size (.cells ⟨encN (.slice A xl.length c, xl)⟩ 55))
      have HSB : Hid (B2 ≤ (wr.alloc (.cells ⟨encN (.slice A xl.length c, xl)⟩ 55)).heap.size) := Lib.hid (Nat.le_trans HS.out (Nat.le_of_lt (box_size _ _)))
      have HRMB := Lib.hid (HRM2.out.below (box_below wr (.cells ⟨encN (.slice A xl.length c, xl)⟩ 55)) (Nat.lt_of_lt_of_le HMB.out HS.out))
      have HRRB := Lib.hid (HRR.out.below (box_below wr (.cells ⟨encN (.slice A xl.length c, xl)⟩ 55)) (Nat.lt_of_lt_of_le (Nat.lt_trans HRM.out HMB.out) HS.out))
      obtain ⟨A6, c6, hv6⟩ : ∃ A c, v = .slice A j c := by
        have hjl : (L.take j).length = j := by rw [List.length_take]; omega
        rcases HOWN.out.2 with ⟨h1, h2⟩ | ⟨g, cap, cur, h1, _⟩
        · exact ⟨none, 0, by rw [h1, ← hjl, h2]⟩
        · exact ⟨_, _, by rw [h1, hjl]⟩
      have hj3 : (j : Int) + 1 ≤ 100 := by omega
      subst hv6
      go_upto_region 6 with (at_builtin; refine wl_push' rfl _ _ 25 rfl B2 55 i0 (.agg ⟨encC (.slice none 0 0) 0⟩) 29 424 encN Try.underlying25 HI0.out HZ0.out HZ1.out HZ2.out rfl (by decide) encN_len _ _ rfl HWZ.out wr.heap.size 1 (.slice A xl.length c, xl) HON.out rfl HCE.out HK1.out HK2.out HSB.out ?_; intro v' W3 hown hg; obtain ⟨A7, n7, c7, hv7⟩ := own_slice hown; subst hv7; have HO3 := Lib.hid hown; have HG3 := Lib.hid hg; clear hown hg; have HR3 := Lib.hid (HRMB.out.keep (HG3.out.block mb (Nat.lt_of_lt_of_le HMB.out HSB.out) (fun h => by have := HWZ.out.block h.symm; have := HMB.out; omega))); have d3 := HR3.out.c 5 (by omega); simp only [if_true] at d3; have f3 := HR3.out.fz 5 (by omega))
      have HR4 := Lib.hid (HR3.out.set (i := 5) (by omega) (.slice A7 n7 c7))
      have HRR4 : Hid (RowF (W3.setCell ⟨mb, 5, none⟩ (.slice A7 n7 c7)) rb 6 zM) := Lib.hid ((HRRB.out.keep (HG3.out.block rb (Nat.lt_of_lt_of_le (Nat.lt_trans HRM.out HMB.out) HSB.out) (fun h => by have := HWZ.out.block h.symm; have := HMB.out; have := HRM.out; omega))).keep (Below.heap_setCell W3 ⟨mb, 5, none⟩ (.slice A7 n7 c7) rb (by have := HRM.out; show rb ≠ mb; omega)))
      have HO4 := Lib.hid (own_put (i := 5) HO3.out HMB.out (.slice A7 n7 c7))
      have HB3 := Lib.hid (push_below HBB.out HBB.out.size HWZ.out (by have := HRB.out; have := HRM.out; have := HMB.out; omega) HG3.out)
      have HB4 := Lib.hid (below_put (i := 5) HB3.out (Nat.le_trans HRB.out (Nat.le_of_lt HRM.out)) (.slice A7 n7 c7))
      have HS4 : Hid (B2 ≤ (W3.setCell ⟨mb, 5, none⟩ (.slice A7 n7 c7)).heap.size) := Lib.hid (by have := HG3.out.size; have := HSB.out; simp [World.setCell] at *; omega)
      have HTK : Hid (L.take (j + 1) = L.take j ++ [(.slice A xl.length c, xl)]) := Lib.hid (take_at HX.out)
      clear d5 da
      go_wp2
      go_roundg q
      case measure => omega
      case rel => exact ⟨j + 1, (.slice A7 n7 c7), by omega, by go_num, HR4.out.congr (fun i hi => by by_cases h : i = 5 <;> simp [h]), HRR4.out, by rw [HTK.out]; exact HO4.out, HS4.out, HB4.out⟩
end Go.Proofs.Ytedajbpjokmlaaa
