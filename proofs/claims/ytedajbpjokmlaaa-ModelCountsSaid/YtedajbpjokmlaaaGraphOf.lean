/- region.graphOf. -/
import Derived.Test.YtedajbpjokmlaaaReach2
import Derived.Test.YtedajbpjokmlaaaGmem
namespace Go.Proofs.Ytedajbpjokmlaaa
open Go.RowKit
set_option linter.unusedVariables false

def natsI (l : List Nat) : List Int := l.map fun x : Nat => (x : Int)
theorem natsI_len (l : List Nat) : (natsI l).length = l.length := by simp [natsI]
theorem natsI_snoc (l : List Nat) (x : Nat) : natsI (l ++ [x]) = natsI l ++ [(x : Int)] := by simp [natsI]
/-- row k: what leads out of k; behind these: what leads to k - n -/
def rowsG (n : Nat) (E : List (Nat × Nat)) (k : Nat) : List Int := if k < n then natsI (outs E k) else natsI (ins E (k - n))
structure GAt (w : World) (gb tb fb n base : Nat) (V : Nat → Value) (E : List (Nat × Nat)) : Prop where
  c0 : w.cell? ⟨gb, 0, none⟩ = some (.int .i64 n)
  c1 : w.cell? ⟨gb, 1, none⟩ = some (.slice (some ⟨tb, 0, none⟩) n n)
  c2 : w.cell? ⟨gb, 2, none⟩ = some (.slice (some ⟨fb, 0, none⟩) n n)
  rows : Rows2 w base tb fb n V (rowsG n E)
  lt : gb < w.heap.size
  ge : base ≤ tb ∧ base ≤ fb
def GraphPost (w : World) (n : Nat) (E : List (Nat × Nat)) (e : Ending) (w' : World) : Prop :=
  ∃ gb tb fb V, e = .returned (.pointer (some ⟨gb, 0, none⟩)) ∧ GAt w' gb tb fb n w.heap.size V E ∧ Below w.heap.size w w'
theorem info_ints : (Try.prog.info? 34).map (fun i => (i.zero, i.size, i.bytes)) = some (some (.slice none 0 0), 1, 24) := by kernel_rfl
theorem made_rep (z : Value) (h1 : z.cells = #[z]) (n : Nat) : madeCells z.cells n = Array.replicate n z := by
  refine Array.ext (by simp [size_madeCells]) fun i h2 h3 => ?_
  rw [size_madeCells] at h2
  have := made_at z h1 n i h2
  rw [Array.getElem?_eq_getElem (by rw [size_madeCells]; exact h2)] at this
  injection this with this
  rw [this]; simp
theorem run_table (n : Nat) (hn : n ≤ 10000) (w : World) : (Instr.makeSlice 31 (.int .i64 n) (.int .i64 n)).run Try.prog w = .ok (.slice (some ⟨w.heap.size, 0, none⟩) n n) (w.alloc (.cells (Array.replicate n (.slice none 0 0)) 34)) := by
  obtain ⟨i, hi, hz0, hz1, hz2⟩ := info_parts' info_ints
  have hr := run_make (P := Try.prog) w 31 34 i (.slice none 0 0) Try.underlying31 hi hz0 .i64 .i64 n n (by omega) (Int.le_refl _) (by rw [hz2]; omega) (by omega)
  simp only [Int.toNat_natCast, hz1, Nat.mul_one] at hr
  rw [hr, made_rep _ rfl]

theorem own_slice {α : Type} {T : TypeId} {k base : Nat} {enc : α → List Value} {w : World} {v : Value} {l : List α} (h : OwnSl T k enc w base v l) : ∃ A n c, v = .slice A n c := by
  rcases h.2 with ⟨rfl, _⟩ | ⟨g, cap, cur, rfl, _⟩
  · exact ⟨_, _, _, rfl⟩
  · exact ⟨_, _, _, rfl⟩
theorem rowsG_len (n : Nat) (E : List (Nat × Nat)) (k : Nat) : (rowsG n E k).length ≤ E.length := by
  unfold rowsG
  split
  · rw [natsI_len]; exact outs_len _ _
  · rw [natsI_len]; exact ins_len _ _
theorem rowsG_snoc (n : Nat) (E : List (Nat × Nat)) (f t : Nat) (hf : f < n) (ht : t < n) (k : Nat) (hk : k < 2 * n) :
    rowsG n (E ++ [(f, t)]) k = if k = n + t then rowsG n E (n + t) ++ [(f : Int)] else if k = f then rowsG n E f ++ [(t : Int)] else rowsG n E k := by
  unfold rowsG
  by_cases h : k < n
  · rw [if_pos h, if_neg (by omega : ¬ k = n + t), outs_snoc]
    by_cases e : f = k
    · subst e; rw [if_pos rfl, if_pos rfl, if_pos h, natsI_snoc]
    · rw [if_neg e, if_neg (fun h => e h.symm), if_pos h]
  · rw [if_neg h, ins_snoc]
    by_cases e : t = k - n
    · rw [if_pos e, if_pos (by omega : k = n + t), if_neg (by omega), natsI_snoc, show n + t - n = k - n by omega]
    · rw [if_neg e, if_neg (by omega : ¬ k = n + t), if_neg (by omega : ¬ k = f), if_neg h]
theorem Rows2.congr {w : World} {base tb fb n : Nat} {V : Nat → Value} {L L' : Nat → List Int} (h : Rows2 w base tb fb n V L) (hl : ∀ k, k < 2 * n → L' k = L k) : Rows2 w base tb fb n V L' :=
  ⟨h.ct, h.cf, fun k hk => by rw [hl k hk]; exact h.own k hk, h.apart, h.tt, h.tf, h.ne, h.lt⟩
theorem rowsG_nil (n k : Nat) : rowsG n [] k = [] := by unfold rowsG outs ins natsI; simp
theorem gat_start (w : World) (n tb fb : Nat) (h : (tb = w.heap.size ∧ fb = w.heap.size + 1) ∨ (tb = w.heap.size + 1 ∧ fb = w.heap.size)) (T : TypeId) (hT : T ≠ 3) :
    ∃ V, GAt (((w.alloc (.cells (Array.replicate n (.slice none 0 0)) 34)).alloc (.cells (Array.replicate n (.slice none 0 0)) 34)).alloc
      (.cells #[.int .i64 n, .slice (some ⟨tb, 0, none⟩) n n, .slice (some ⟨fb, 0, none⟩) n n] T)).drew (w.heap.size + 1 + 1) tb fb n w.heap.size V [] ∧
    Tag (((w.alloc (.cells (Array.replicate n (.slice none 0 0)) 34)).alloc (.cells (Array.replicate n (.slice none 0 0)) 34)).alloc
      (.cells #[.int .i64 n, .slice (some ⟨tb, 0, none⟩) n n, .slice (some ⟨fb, 0, none⟩) n n] T)).drew (w.heap.size + 1 + 1) T := by
  have s1 : (w.alloc (.cells (Array.replicate n (.slice none 0 0)) 34)).heap.size = w.heap.size + 1 := by simp
  have r0 := rowF_new w n (.slice none 0 0) 34
  have g0 : Tag (w.alloc (.cells (Array.replicate n (.slice none 0 0)) 34)) w.heap.size 34 := ⟨_, heap_alloc_new w _⟩
  generalize w.alloc (.cells (Array.replicate n (.slice none 0 0)) 34) = w1 at *
  have s2 : (w1.alloc (.cells (Array.replicate n (.slice none 0 0)) 34)).heap.size = w1.heap.size + 1 := by simp
  have r1 := rowF_new w1 n (.slice none 0 0) 34
  have g1 : Tag (w1.alloc (.cells (Array.replicate n (.slice none 0 0)) 34)) w1.heap.size 34 := ⟨_, heap_alloc_new w1 _⟩
  have b1 := box_below w1 (.cells (Array.replicate n (.slice none 0 0)) 34)
  have r0' := r0.below b1 (by omega)
  have g0' := g0.keep (b1.block _ (by omega))
  generalize w1.alloc (.cells (Array.replicate n (.slice none 0 0)) 34) = w2 at *
  have b2 := box_below w2 (.cells #[.int .i64 n, .slice (some ⟨tb, 0, none⟩) n n, .slice (some ⟨fb, 0, none⟩) n n] T)
  have cb := cells_box w2 [.int .i64 n, .slice (some ⟨tb, 0, none⟩) n n, .slice (some ⟨fb, 0, none⟩) n n] T
  have g2 : Tag (w2.alloc (.cells #[.int .i64 n, .slice (some ⟨tb, 0, none⟩) n n, .slice (some ⟨fb, 0, none⟩) n n] T)) w2.heap.size T := ⟨_, heap_alloc_new w2 _⟩
  have s3 := box_size w2 (.cells #[.int .i64 n, .slice (some ⟨tb, 0, none⟩) n n, .slice (some ⟨fb, 0, none⟩) n n] T)
  rw [show w.heap.size + 1 + 1 = w2.heap.size by omega]
  generalize w2.alloc (.cells #[.int .i64 n, .slice (some ⟨tb, 0, none⟩) n n, .slice (some ⟨fb, 0, none⟩) n n] T) = w3 at *
  have r0'' := (r0'.below b2 (by omega)).drewN 1
  have r1'' := (r1.below b2 (by omega)).drewN 1
  have q0 : Tag w3.drew w.heap.size 34 := g0'.keep (b2.block _ (by omega))
  have q1 : Tag w3.drew w1.heap.size 34 := g1.keep (b2.block _ (by omega))
  refine ⟨fun _ => .slice none 0 0, ⟨cb 0 _ rfl, cb 1 _ rfl, cb 2 _ rfl, ⟨?_, ?_, fun k _ => by rw [rowsG_nil]; exact OwnSl.nil _ _, fun _ _ _ _ _ => .inl rfl, ?_, ?_, by omega, ?_⟩, s3, by omega⟩, g2⟩
  · rcases h with ⟨rfl, rfl⟩ | ⟨rfl, rfl⟩
    · exact r0''
    · rw [← s1]; exact r1''
  · rcases h with ⟨rfl, rfl⟩ | ⟨rfl, rfl⟩
    · rw [← s1]; exact r1''
    · exact r0''
  · rcases h with ⟨rfl, rfl⟩ | ⟨rfl, rfl⟩
    · exact q0
    · rw [← s1]; exact q1
  · rcases h with ⟨rfl, rfl⟩ | ⟨rfl, rfl⟩
    · rw [← s1]; exact q1
    · exact q0
  · have := b2.size
    show tb < w3.heap.size ∧ fb < w3.heap.size
    omega

set_option maxHeartbeats 4000000 in
set_option maxRecDepth 100000 in
theorem graphOf_any (g : List GN) (c0 c1 c2 c3 c4 v5 : Value) (mb : Nat) (w : World) (hg : GraphAt w w.heap.size v5 g) (hm : w.rangeAt mb 0 [c0, c1, c2, c3, c4, v5]) (hmb : mb < w.heap.size) (hlen : (edgesOf g).length ≤ 10000) (hgn : g.length ≤ 10000) :
    Calls Try.prog 33 #[.pointer (some ⟨mb, 0, none⟩)] w (GraphPost w g.length (graphE g)) := by
  have HG := Lib.hid hg
  have HMR := Lib.hid hm
  obtain ⟨hgl, A, c, rfl, hA⟩ := hg
  have HLEN := Lib.hid hlen
  have d5 := range_cell hm 5 (v := .slice A g.length c) rfl
  rw [Nat.zero_add] at d5
  clear hA hlen hm
  have hmk := run_table g.length hgn
  go_enter Try.func33, Try.ntmps33
  go_upto_region 2 with (fail)
  go_cut [4] (fun v z => ∃ gb tb fb V, v = .pointer (some ⟨gb, 0, none⟩) ∧ GAt z gb tb fb g.length w.heap.size V [] ∧ Tag z gb 75 ∧ Below w.heap.size w z)
  case first =>
    have H1 := Lib.hid (gat_start w g.length w.heap.size (w.heap.size + 1) (.inl ⟨rfl, rfl⟩) 75 (by decide))
    have H2 := Lib.hid (gat_start w g.length (w.heap.size + 1) w.heap.size (.inr ⟨rfl, rfl⟩) 75 (by decide))
    have HB := Lib.hid (fun (o : Obj) => ((((Below.refl w.heap.size w).alloc (Nat.le_refl _) (.cells (Array.replicate g.length (.slice none 0 0)) 34)).alloc (by simp) (.cells (Array.replicate g.length (.slice none 0 0)) 34)).alloc (by simp; omega) o).drew)
    go_region
    · go_wp2
      go_meet
      case rel => obtain ⟨V, h1, h2⟩ := H1.out; exact ⟨_, _, _, V, rfl, h1, h2, HB.out _⟩
    · go_wp2
      go_meet
      case rel => obtain ⟨V, h1, h2⟩ := H2.out; exact ⟨_, _, _, V, rfl, h1, h2, HB.out _⟩
  case rest =>
    obtain ⟨gb, tb, fb, V0, rfl, hgat, htg, hb⟩ := hcut
    have HGAT := Lib.hid hgat
    have HTAG := Lib.hid htg
    have HB := Lib.hid hb
    obtain ⟨i0, hi, hz0, hz1, hz2⟩ := info_parts' info_int
    have HI0 := Lib.hid hi
    have HZ0 := Lib.hid hz0
    have HZ1 := Lib.hid hz1
    have HZ2 := Lib.hid hz2
    clear hi hz0 hz1 hz2 hmk d5
    have HM2 := Lib.hid (rangeAt_below HMR.out hb hmb)
    have HE := Lib.hid (edges_any g c0 c1 c2 c3 c4 (.slice A g.length c) wc (HG.out.next hb) HLEN.out)
    clear hgat htg hb
    go_wp2_with (first | ((with_reducible refine wl_sload 27 _ rfl ?hw mb 0 [c0, c1, c2, c3, c4, .slice A g.length c] _ rfl HM2.out Try.underlying27 rfl ?hi ?_); (case hw => first | exact wanted_none rfl | exact wanted_if rfl rfl rfl rfl); (case hi => kernel_rfl)) | (go_at_call 18; fail))
    refine HE.out.mono ?_
    rintro e w3 ⟨v, rfl, hown, hb⟩
    have HB3 := Lib.hid (HB.out.trans (hb.mono HB.out.size))
    have hgat3 : GAt w3 gb tb fb g.length w.heap.size V0 [] := by
      have h := HGAT.out
      exact ⟨(hb.cell (p := ⟨gb, 0, none⟩) h.lt).trans h.c0, (hb.cell (p := ⟨gb, 1, none⟩) h.lt).trans h.c1, (hb.cell (p := ⟨gb, 2, none⟩) h.lt).trans h.c2, h.rows.below hb, Nat.lt_of_lt_of_le h.lt hb.size, h.ge⟩
    have HGAT3 := Lib.hid hgat3
    have HTAG3 : Hid (Tag w3 gb 75) := Lib.hid (HTAG.out.keep (hb.block gb HGAT.out.lt))
    have HTL : Hid (tb < wc.heap.size ∧ fb < wc.heap.size ∧ gb < wc.heap.size) := Lib.hid ⟨HGAT.out.rows.lt.1, HGAT.out.rows.lt.2, HGAT.out.lt⟩
    obtain ⟨hel, EA, ec, rfl, hea⟩ := hown.at encE_len (by have := HLEN.out; omega)
    have HEB : Hid (0 < (edgesOf g).length → ∃ b o, EA = some ⟨b, o, none⟩ ∧ b < w3.heap.size ∧ b ≠ tb ∧ b ≠ fb ∧ Tag w3 b 41 ∧ ∀ (i : Nat) x, (edgesOf g)[i]? = some x → w3.rangeAt b (o + i * 3) (encE x)) := Lib.hid fun h0 => by
      obtain ⟨b, o, rfl, hlt, hc⟩ := hea h0
      have hbk := hown.block (b := b) rfl
      have hl := HTL.out
      refine ⟨b, o, rfl, hlt, by omega, by omega, ?_, fun i x hx => ?_⟩
      · rcases hown.2 with ⟨h1, _⟩ | ⟨q, cap, cur, h1, _, h2, _⟩
        · cases h1
        · injection h1 with h1 _ _
          injection h1 with h1
          injection h1 with h1 _ _
          subst h1
          exact ⟨cur, h2⟩
      · obtain ⟨ks, h1, h2, h3⟩ := hc i x hx
        have h3' : ks = encE x := h3
        subst h3'
        exact h2
    have HTB := Lib.hid HGAT.out.ge
    clear hb hown hea hel hgat3 HTAG HE HM2 HMR HB
    clear HGAT
    have HGE : Hid (graphE g = inE g.length (edgesOf g)) := Lib.hid rfl
    have HEF : Hid (∀ e, e ∈ edgesOf g → e.1 < g.length) := Lib.hid fun e he => edges_from he
    generalize edgesOf g = E at *
    have hle : (g.length : Int) ≤ 10000 := by omega
    have hle2 : (E.length : Int) ≤ 10000 := by have := HLEN.out; omega
    go_wp2
    go_loopg [24] E.length (fun q i u => ∃ (j : Nat) (V : Nat → Value), j + q = E.length ∧ i = .int .i64 j ∧ GAt u gb tb fb g.length w.heap.size V (inE g.length (E.take j)) ∧ Kept w3 u tb fb ∧ Below w.heap.size w u ∧ Tag u gb 75)
    case atStart => exact ⟨0, V0, by omega, rfl, HGAT3.out, Kept.refl _ _ _, HB3.out, HTAG3.out⟩
    case round =>
      obtain ⟨j, V, hj, rfl, hga, hkp, hb, htg⟩ := hrel
      have HGA := Lib.hid hga
      have HKP0 := Lib.hid hkp
      have HB4 := Lib.hid hb
      have HTG := Lib.hid htg
      clear hga hkp hb htg
      cases gk with
      | zero =>
        have hge : ¬ ((j : Int) < (E.length : Int)) := by omega
        have HTK := Lib.hid (List.take_of_length_le (l := E) (i := j) (by omega))
        rw [HTK.out] at HGA
        go_wp2
        go_ret
        exact ⟨gb, tb, fb, V, rfl, by rw [HGE.out]; exact HGA.out, HB4.out⟩
      | succ q =>
        have hlt : (j : Int) < (E.length : Int) := by omega
        obtain ⟨e, he⟩ : ∃ e, E[j]? = some e := ⟨_, List.getElem?_eq_getElem (by omega)⟩
        obtain ⟨b, o, rfl, hbl, hb1, hb2, hbt, hc⟩ := HEB.out (by omega)
        have hkb := HKP0.out.b b _ hbt (by decide) hb1 hb2
        have HRE : Hid (wr.rangeAt b (o + j * 3) [.int .i64 e.1, .int .i64 e.2.1, .int .i64 e.2.2]) := Lib.hid fun i v hv => (World.cell?_of_block (a := ⟨b, o + j * 3 + i, none⟩) hkb).trans (hc j e he i v hv)
        have HE1 := Lib.hid (HEF.out e (List.mem_of_getElem? he))
        have HSN : Hid (inE g.length (E.take (j + 1)) = if okE g.length e = true then inE g.length (E.take j) ++ [(e.1, e.2.2.toNat)] else inE g.length (E.take j)) := Lib.hid (by rw [take_at he, inE_snoc])
        have HLI : Hid ((inE g.length (E.take j)).length ≤ 9999) := Lib.hid (by have h1 := inE_len g.length (E.take j); rw [List.length_take] at h1; have := HLEN.out; omega)
        clear hkb hc he hbt
        go_upto_region 6 with (first | ((with_reducible refine wl_sload 41 _ rfl ?hw b (o + j * 3) [.int .i64 e.1, .int .i64 e.2.1, .int .i64 e.2.2] _ rfl HRE.out Try.underlying41 rfl ?hi ?_); (case hw => first | exact wanted_none rfl | exact wanted_if rfl rfl rfl rfl); (case hi => kernel_rfl)) | ((with_reducible refine wl_sbox 41 _ _ rfl ?hw wr ?z (encE e) ?hwld ?hz ?hx ?hy ?hi ?h1 ?_); (case hwld => rfl); (case hx => rfl); (case hy => rfl); (case hw => first | exact wanted_none rfl | exact wanted_if rfl rfl rfl rfl); (case hz => rfl); (case hi => kernel_rfl); (case h1 => exact encE_one e); intro Z hbx; have HX := Lib.hid hbx; clear hbx))
        have HRZ := Lib.hid (HGA.out.rows.below HX.out.below)
        have HKP := Lib.hid (HKP0.out.below HX.out.below)
        have HBZ := Lib.hid (HB4.out.trans (HX.out.below.mono HB4.out.size))
        have HGZ : Hid (∀ i, Z.cell? ⟨gb, i, none⟩ = wr.cell? ⟨gb, i, none⟩) := Lib.hid fun i => HX.out.below.cell (p := ⟨gb, i, none⟩) HGA.out.lt
        have HTG0 : Hid (Tag Z gb 75) := Lib.hid (HTG.out.keep (HX.out.below.block gb HGA.out.lt))
        have HC0 := Lib.hid HGA.out.c0
        have HC1 := Lib.hid HGA.out.c1
        have HC2 := Lib.hid HGA.out.c2
        have HGN : Hid (gb ≠ tb ∧ gb ≠ fb) := Lib.hid ⟨fun h => by
            obtain ⟨c1, h1⟩ := HTG.out
            obtain ⟨c2, h2⟩ := HGA.out.rows.tt
            rw [h, h2] at h1
            injection h1 with h1
            injection h1 with _ h1 _
            exact absurd h1 (by decide), fun h => by
            obtain ⟨c1, h1⟩ := HTG.out
            obtain ⟨c2, h2⟩ := HGA.out.rows.tf
            rw [h, h2] at h1
            injection h1 with h1
            injection h1 with _ h1 _
            exact absurd h1 (by decide)⟩
        obtain ⟨eb, heb⟩ : ∃ eb, wr.heap.size = eb := ⟨_, rfl⟩
        have HTE0 : Hid (Tag Z eb 41) := Lib.hid (heb ▸ HX.out.tag)
        have HNE : Hid (gb ≠ tb ∧ gb ≠ fb ∧ eb ≠ tb ∧ eb ≠ fb) := Lib.hid ⟨HGN.out.1, HGN.out.2, by have := HGA.out.rows.lt.1; omega, by have := HGA.out.rows.lt.2; omega⟩
        have HEZ : Hid (Z.cell? ⟨eb, 0, none⟩ = some (.int .i64 e.1) ∧ Z.cell? ⟨eb, 2, none⟩ = some (.int .i64 e.2.2)) := Lib.hid (heb ▸ ⟨HX.out.cell 0 rfl, HX.out.cell 2 rfl⟩)
        rw [heb]
        have d2 := HEZ.out.2
        clear heb HX HRE HGN
        by_cases hok : okE g.length e = true
        · have HOK := Lib.hid hok
          rw [okE_iff] at hok
          obtain ⟨t, ht⟩ : ∃ t : Nat, e.2.2 = t := ⟨e.2.2.toNat, by omega⟩
          have htn : t < g.length := by omega
          have ht2 : (t : Int) < (g.length : Int) := by omega
          have HTN : Hid (e.2.2.toNat = t) := Lib.hid (by omega)
          have HST : Hid (inE g.length (E.take (j + 1)) = inE g.length (E.take j) ++ [(e.1, t)]) := Lib.hid (by rw [HSN.out, if_pos HOK.out, HTN.out])
          rw [ht] at d2 HEZ
          have hfn := HE1.out
          have hf2 : (e.1 : Int) < (g.length : Int) := by omega
          clear hok ht HOK HTN HSN
          generalize e.1 = f at *
          generalize hEE : inE g.length (E.take j) = F at *
          clear hEE
          have HAM1 : Hid ((rowsG g.length F f).length + 1 ≤ maxLen) := Lib.hid (room_max (by have := rowsG_len g.length F f; have := HLI.out; omega))
          have HAM2 : Hid (((rowsG g.length F f).length + 1) * 8 ≤ 140737488355328) := Lib.hid (by have := rowsG_len g.length F f; have := HLI.out; omega)
          go_upto_region 7 with (fail)
          clear d2
          have hgc : Z.drew.cell? ⟨gb, 1, none⟩ = some (.slice (some ⟨tb, 0, none⟩) g.length g.length) := (HGZ.out 1).trans HC1.out
          refine wp_region_ord_tail 19 [(0, true), (1, true), (2, true), (3, true), (4, true), (5, true), (6, true), (7, true), (8, true), (9, true), (10, true), (11, true), (12, true), (13, true), (14, true), (15, true), (16, false), (17, false), (18, true)]
            (fun z => z.cell? ⟨gb, 1, none⟩ = some (.slice (some ⟨tb, 0, none⟩) g.length g.length) ∧ z.cell? ⟨eb, 0, none⟩ = some (.int .i64 f) ∧ z.cell? ⟨eb, 2, none⟩ = some (.int .i64 t) ∧ z.cell? ⟨tb, f, none⟩ = some (V f)) (by kernel_rfl) (by kernel_rfl) rfl (by intro c a d v w h; cases d <;> exact h) ?_
          have hs : Z.drew.cell? ⟨gb, 1, none⟩ = some (.slice (some ⟨tb, 0, none⟩) g.length g.length) ∧ Z.drew.cell? ⟨eb, 0, none⟩ = some (.int .i64 f) ∧ Z.drew.cell? ⟨eb, 2, none⟩ = some (.int .i64 t) ∧ Z.drew.cell? ⟨tb, f, none⟩ = some (V f) := ⟨hgc, HEZ.out.1, HEZ.out.2, HRZ.out.ct.c f (by omega)⟩
          have HZC : Hid (Z.drew.cell? ⟨gb, 0, none⟩ = some (.int .i64 g.length) ∧ Z.drew.cell? ⟨gb, 1, none⟩ = some (.slice (some ⟨tb, 0, none⟩) g.length g.length) ∧ Z.drew.cell? ⟨gb, 2, none⟩ = some (.slice (some ⟨fb, 0, none⟩) g.length g.length)) := Lib.hid ⟨(HGZ.out 0).trans HC0.out, (HGZ.out 1).trans HC1.out, (HGZ.out 2).trans HC2.out⟩
          have HRW := Lib.hid (HRZ.out.below (Below.refl _ Z).drew)
          have HKD := Lib.hid (HKP.out.below (Below.refl _ Z).drew)
          have HBD := Lib.hid HBZ.out.drew
          have HTE1 : Hid (Tag Z.drew eb 41) := Lib.hid HTE0.out
          have HTG1 : Hid (Tag Z.drew gb 75) := Lib.hid HTG0.out
          clear HRZ HKP HBZ HTE0 HTG0
          have HTE0 := HTE1
          have HTG0 := HTG1
          clear HTE1 HTG1
          generalize Z.drew = wd at *
          refine ord_move (some 37) (.pointer (some ⟨gb, 0, none⟩)) _ _ rfl rfl rfl (by first | exact wanted_none rfl | exact wanted_if rfl rfl rfl rfl) hs rfl ?_
          go_frame
          refine ord_load (some 38) (.pointer (some ⟨gb, 0, none⟩)) _ rfl rfl (by first | exact wanted_none rfl | exact wanted_if rfl rfl rfl rfl) hs (fun z hz => by go_simp) ?_
          go_frame
          refine ord_load (some 39) (.pointer (some ⟨gb, 1, none⟩)) _ rfl rfl (by first | exact wanted_none rfl | exact wanted_if rfl rfl rfl rfl) hs (fun z hz => by go_simp) ?_
          go_frame
          refine ord_load (some 40) (.slice (some ⟨tb, 0, none⟩) g.length g.length) _ rfl rfl (by first | exact wanted_none rfl | exact wanted_if rfl rfl rfl rfl) hs (fun z hz => by have dd := hz.1; go_simp) ?_
          go_frame
          refine ord_load (some 41) (.pointer (some ⟨eb, 0, none⟩)) _ rfl rfl (by first | exact wanted_none rfl | exact wanted_if rfl rfl rfl rfl) hs (fun z hz => by go_simp) ?_
          go_frame
          refine ord_load (some 42) (.int .i64 f) _ rfl rfl (by first | exact wanted_none rfl | exact wanted_if rfl rfl rfl rfl) hs (fun z hz => by have dd := hz.2.1; go_simp) ?_
          go_frame
          refine ord_move (some 43) (.pointer (some ⟨gb, 0, none⟩)) _ _ rfl rfl rfl (by first | exact wanted_none rfl | exact wanted_if rfl rfl rfl rfl) hs rfl ?_
          go_frame
          refine ord_load (some 44) (.pointer (some ⟨gb, 0, none⟩)) _ rfl rfl (by first | exact wanted_none rfl | exact wanted_if rfl rfl rfl rfl) hs (fun z hz => by go_simp) ?_
          go_frame
          refine ord_load (some 45) (.pointer (some ⟨gb, 1, none⟩)) _ rfl rfl (by first | exact wanted_none rfl | exact wanted_if rfl rfl rfl rfl) hs (fun z hz => by go_simp) ?_
          go_frame
          refine ord_load (some 46) (.slice (some ⟨tb, 0, none⟩) g.length g.length) _ rfl rfl (by first | exact wanted_none rfl | exact wanted_if rfl rfl rfl rfl) hs (fun z hz => by have dd := hz.1; go_simp) ?_
          go_frame
          refine ord_load (some 47) (.pointer (some ⟨eb, 0, none⟩)) _ rfl rfl (by first | exact wanted_none rfl | exact wanted_if rfl rfl rfl rfl) hs (fun z hz => by go_simp) ?_
          go_frame
          refine ord_load (some 48) (.int .i64 f) _ rfl rfl (by first | exact wanted_none rfl | exact wanted_if rfl rfl rfl rfl) hs (fun z hz => by have dd := hz.2.1; go_simp) ?_
          go_frame
          refine ord_load (some 49) (.pointer (some ⟨tb, f, none⟩)) _ rfl rfl (by first | exact wanted_none rfl | exact wanted_if rfl rfl rfl rfl) hs (fun z hz => by go_simp) ?_
          go_frame
          refine ord_load (some 50) (V f) _ rfl rfl (by first | exact wanted_none rfl | exact wanted_if rfl rfl rfl rfl) hs (fun z hz => by have dd := hz.2.2.2; go_simp) ?_
          go_frame
          refine ord_load (some 51) (.pointer (some ⟨eb, 2, none⟩)) _ rfl rfl (by first | exact wanted_none rfl | exact wanted_if rfl rfl rfl rfl) hs (fun z hz => by go_simp) ?_
          go_frame
          refine ord_load (some 52) (.int .i64 t) _ rfl rfl (by first | exact wanted_none rfl | exact wanted_if rfl rfl rfl rfl) hs (fun z hz => by have dd := hz.2.2.1; go_simp) ?_
          go_frame
          have HLT : Hid (gb < wd.heap.size ∧ eb < wd.heap.size ∧ tb < wd.heap.size) := Lib.hid ⟨World.block_lt_of_cell? wd _ hs.1, World.block_lt_of_cell? wd _ hs.2.1, World.block_lt_of_cell? wd _ hs.2.2.2⟩
          have hbx := box_below wd (.cells ⟨encI (t : Int)⟩ 3)
          have hs2 : (wd.alloc (.cells ⟨encI (t : Int)⟩ 3)).cell? ⟨gb, 1, none⟩ = some (.slice (some ⟨tb, 0, none⟩) g.length g.length) ∧ (wd.alloc (.cells ⟨encI (t : Int)⟩ 3)).cell? ⟨eb, 0, none⟩ = some (.int .i64 f) ∧ (wd.alloc (.cells ⟨encI (t : Int)⟩ 3)).cell? ⟨eb, 2, none⟩ = some (.int .i64 t) ∧ (wd.alloc (.cells ⟨encI (t : Int)⟩ 3)).cell? ⟨tb, f, none⟩ = some (V f) :=
            ⟨(hbx.cell (p := ⟨gb, 1, none⟩) HLT.out.1).trans hs.1, (hbx.cell (p := ⟨eb, 0, none⟩) HLT.out.2.1).trans hs.2.1, (hbx.cell (p := ⟨eb, 2, none⟩) HLT.out.2.1).trans hs.2.2.1, (hbx.cell (p := ⟨tb, f, none⟩) HLT.out.2.2).trans hs.2.2.2⟩
          have HRX := Lib.hid (HRW.out.below hbx)
          have HKX := Lib.hid (HKD.out.below hbx)
          have HBX := Lib.hid (HBD.out.trans (hbx.mono HBD.out.size))
          have HTE : Hid (Tag (wd.alloc (.cells ⟨encI (t : Int)⟩ 3)) eb 41) := Lib.hid (HTE0.out.keep (by first | exact hbx.block eb HLT.out.2.1 | exact hbx.block eb HLT.out.2.1))
          have HTG : Hid (Tag (wd.alloc (.cells ⟨encI (t : Int)⟩ 3)) gb 75) := Lib.hid (HTG0.out.keep (hbx.block gb HLT.out.1))
          refine ord_run (some 53) (.slice (some ⟨wd.heap.size, 0, none⟩) 1 1) (wd.alloc (.cells ⟨encI (t : Int)⟩ 3)) _ rfl rfl (by first | exact wanted_none rfl | exact wanted_if rfl rfl rfl rfl) (by go_simp; rfl) hs2 ?_
          go_frame
          have HXC : Hid ((wd.alloc (.cells ⟨encI (t : Int)⟩ 3)).cell? ⟨gb, 0, none⟩ = some (.int .i64 g.length) ∧ (wd.alloc (.cells ⟨encI (t : Int)⟩ 3)).cell? ⟨gb, 1, none⟩ = some (.slice (some ⟨tb, 0, none⟩) g.length g.length) ∧ (wd.alloc (.cells ⟨encI (t : Int)⟩ 3)).cell? ⟨gb, 2, none⟩ = some (.slice (some ⟨fb, 0, none⟩) g.length g.length)) := Lib.hid ⟨(hbx.cell (p := ⟨gb, 0, none⟩) HLT.out.1).trans HZC.out.1, (hbx.cell (p := ⟨gb, 1, none⟩) HLT.out.1).trans HZC.out.2.1, (hbx.cell (p := ⟨gb, 2, none⟩) HLT.out.1).trans HZC.out.2.2⟩
          have HXE := Lib.hid (And.intro hs2.2.1 hs2.2.2.1)
          have hce := cells_box wd (encI (t : Int)) 3
          have HLX : Hid (gb < (wd.alloc (.cells ⟨encI (t : Int)⟩ 3)).heap.size ∧ eb < (wd.alloc (.cells ⟨encI (t : Int)⟩ 3)).heap.size ∧ tb < (wd.alloc (.cells ⟨encI (t : Int)⟩ 3)).heap.size) := Lib.hid ⟨Nat.lt_of_lt_of_le HLT.out.1 hbx.size, Nat.lt_of_lt_of_le HLT.out.2.1 hbx.size, Nat.lt_of_lt_of_le HLT.out.2.2 hbx.size⟩
          clear hbx hs
          generalize wd.alloc (.cells ⟨encI (t : Int)⟩ 3) = wx at *
          refine ord_push (some 54) _ _ _ 34 rfl rfl rfl (by first | exact wanted_none rfl | exact wanted_if rfl rfl rfl rfl) w.heap.size 3 i0 (.int .i64 0) 1 8 encI Try.underlying34 HI0.out HZ0.out HZ1.out HZ2.out rfl (by decide) encI_len encI_one (V f) (rowsG g.length F (f)) rfl (HRX.out.own (f) (by omega)) wd.heap.size 1 (t : Int) rfl hce HAM1.out HAM2.out HBX.out.size ?_
          intro v' wy hown hg hblk
          obtain ⟨q1, q2, q3, rfl⟩ := own_slice hown
          have hap : ∀ b T, Tag wx b T → T ≠ 3 → wy.heap[b]? = wx.heap[b]? := fun b T ht hne => hg.block b ht.lt ((HRX.out.own (f) (by omega)).apart ht (Ne.symm hne))
          have hgk := hap gb _ HTG.out (by decide)
          have hek := hap eb _ HTE.out (by decide)
          have htk := hap tb _ HRX.out.tt (by decide)
          have hs3 : wy.cell? ⟨gb, 1, none⟩ = some (.slice (some ⟨tb, 0, none⟩) g.length g.length) ∧ wy.cell? ⟨eb, 0, none⟩ = some (.int .i64 f) ∧ wy.cell? ⟨eb, 2, none⟩ = some (.int .i64 t) ∧ wy.cell? ⟨tb, f, none⟩ = some (V f) :=
            ⟨(World.cell?_of_block (a := ⟨gb, 1, none⟩) hgk).trans hs2.1, (World.cell?_of_block (a := ⟨eb, 0, none⟩) hek).trans hs2.2.1, (World.cell?_of_block (a := ⟨eb, 2, none⟩) hek).trans hs2.2.2.1, (World.cell?_of_block (a := ⟨tb, f, none⟩) htk).trans hs2.2.2.2⟩
          refine ⟨hs3, ?_⟩
          go_frame
          refine ord_load (some 55) (.pointer (some ⟨tb, f, none⟩)) _ rfl rfl (by first | exact wanted_none rfl | exact wanted_if rfl rfl rfl rfl) hs3 (fun z hz => by go_simp) ?_
          go_frame
          refine ord_tail ?_
          simp only [List.drop_succ_cons, List.drop_zero]
          have ffz := (HRX.out.ct.keep htk).fz f (by omega)
          have dcz := hs3.2.2.2
          have HP : Hid (Rows2 (wy.setCell ⟨tb, f, none⟩ (Value.slice q1 q2 q3)) w.heap.size tb fb g.length (fun j => if j = f then (Value.slice q1 q2 q3) else V j) (fun j => if j = f then rowsG g.length F (f) ++ [(t : Int)] else rowsG g.length F j)) := Lib.hid (by
            have := HRX.out.push (k := f) (by omega) hown hg hblk
            rw [if_pos (by omega), if_pos (by omega)] at this
            exact this)
          have HK2 : Hid (Kept w3 (wy.setCell ⟨tb, f, none⟩ (Value.slice q1 q2 q3)) tb fb) := Lib.hid (by
            have := HKX.out.push HRX.out (k := f) (by omega) hg f (Value.slice q1 q2 q3)
            rw [if_pos (by omega)] at this
            exact this)
          have HBY : Hid (Below w.heap.size w (wy.setCell ⟨tb, f, none⟩ (Value.slice q1 q2 q3))) := Lib.hid ((HBX.out.grown hg HBX.out.size (fun b hb => (HRX.out.own (f) (by omega)).block hb)).setCell (by have := HTB.out.1; exact this) _)
          have HGC : Hid (∀ i, (wy.setCell ⟨tb, f, none⟩ (Value.slice q1 q2 q3)).cell? ⟨gb, i, none⟩ = wx.cell? ⟨gb, i, none⟩) := Lib.hid fun i => (World.cell?_of_block (a := ⟨gb, i, none⟩) (Below.heap_setCell wy _ (Value.slice q1 q2 q3) gb (fun e => HNE.out.1 e))).trans (World.cell?_of_block (a := ⟨gb, i, none⟩) hgk)
          have HEC : Hid (∀ i, (wy.setCell ⟨tb, f, none⟩ (Value.slice q1 q2 q3)).cell? ⟨eb, i, none⟩ = wx.cell? ⟨eb, i, none⟩) := Lib.hid fun i => (World.cell?_of_block (a := ⟨eb, i, none⟩) (Below.heap_setCell wy _ (Value.slice q1 q2 q3) eb (fun e => HNE.out.2.2.1 e))).trans (World.cell?_of_block (a := ⟨eb, i, none⟩) hek)
          have HTE1 : Hid (Tag (wy.setCell ⟨tb, f, none⟩ (Value.slice q1 q2 q3)) eb 41) := Lib.hid ((HTE.out.keep hek).set _ _)
          have HTG1 : Hid (Tag (wy.setCell ⟨tb, f, none⟩ (Value.slice q1 q2 q3)) gb 75) := Lib.hid ((HTG.out.keep hgk).set _ _)
          have HSZ1 : Hid (gb < (wy.setCell ⟨tb, f, none⟩ (Value.slice q1 q2 q3)).heap.size) := Lib.hid HTG1.out.lt
          clear hown hblk hap hgk hek htk hs2 hs3 hce HRW HKD HBD HTE HTG HTE0 HTG0 HLT HLX HZC
          go_upto_region 8 with (fail)
          clear ffz dcz hgc
          generalize hV1 : (fun j => if j = f then (Value.slice q1 q2 q3) else V j) = V1 at *
          generalize hL1 : (fun j => if j = f then rowsG g.length F f ++ [(t : Int)] else rowsG g.length F j) = L1 at *
          have HL1 : Hid (L1 (g.length + t) = rowsG g.length F (g.length + t) ∧ ∀ j, L1 j = if j = f then rowsG g.length F f ++ [(t : Int)] else rowsG g.length F j) := Lib.hid ⟨by rw [← hL1]; exact if_neg (by omega), fun j => by rw [← hL1]⟩
          have HGZ1 : Hid (∀ i, (wy.setCell ⟨tb, f, none⟩ (Value.slice q1 q2 q3)).cell? ⟨gb, i, none⟩ = wx.cell? ⟨gb, i, none⟩) := HGC
          have HEZ1 : Hid ((wy.setCell ⟨tb, f, none⟩ (Value.slice q1 q2 q3)).cell? ⟨eb, 2, none⟩ = some (.int .i64 t) ∧ (wy.setCell ⟨tb, f, none⟩ (Value.slice q1 q2 q3)).cell? ⟨eb, 0, none⟩ = some (.int .i64 f)) := Lib.hid ⟨(HEC.out 2).trans HXE.out.2, (HEC.out 0).trans HXE.out.1⟩
          have hgc : (wy.setCell ⟨tb, f, none⟩ (Value.slice q1 q2 q3)).drew.cell? ⟨gb, 2, none⟩ = some (.slice (some ⟨fb, 0, none⟩) g.length g.length) := (HGC.out 2).trans HXC.out.2.2
          have HG0 : Hid ((wy.setCell ⟨tb, f, none⟩ (Value.slice q1 q2 q3)).cell? ⟨gb, 0, none⟩ = some (.int .i64 g.length) ∧ (wy.setCell ⟨tb, f, none⟩ (Value.slice q1 q2 q3)).cell? ⟨gb, 1, none⟩ = some (.slice (some ⟨tb, 0, none⟩) g.length g.length)) := Lib.hid ⟨(HGC.out 0).trans HXC.out.1, (HGC.out 1).trans HXC.out.2.1⟩
          have HRZ1 := HP
          have HKP := HK2
          have HBZ := HBY
          have HTE0 := HTE1
          have HTG0 := HTG1
          clear hV1 hL1 HP HK2 HBY HTE1 HTG1 HRX HKX HBX HGC HEC HGZ1 HXC HXE HSZ1 hg
          generalize wy.setCell ⟨tb, f, none⟩ (Value.slice q1 q2 q3) = Z1 at *
          have HBM1 : Hid ((L1 (g.length + t)).length + 1 ≤ maxLen) := Lib.hid (room_max (by rw [HL1.out.1]; have := rowsG_len g.length F (g.length + t); have := HLI.out; omega))
          have HBM2 : Hid (((L1 (g.length + t)).length + 1) * 8 ≤ 140737488355328) := Lib.hid (by rw [HL1.out.1]; have := rowsG_len g.length F (g.length + t); have := HLI.out; omega)
          refine wp_region_ord_tail 19 [(0, true), (1, true), (2, true), (3, true), (4, true), (5, true), (6, true), (7, true), (8, true), (9, true), (10, true), (11, true), (12, true), (13, true), (14, true), (15, true), (16, false), (17, false), (18, true)]
            (fun z => z.cell? ⟨gb, 2, none⟩ = some (.slice (some ⟨fb, 0, none⟩) g.length g.length) ∧ z.cell? ⟨eb, 2, none⟩ = some (.int .i64 t) ∧ z.cell? ⟨eb, 0, none⟩ = some (.int .i64 f) ∧ z.cell? ⟨fb, t, none⟩ = some (V1 (g.length + t))) (by kernel_rfl) (by kernel_rfl) rfl (by intro c a d v w h; cases d <;> exact h) ?_
          have hs : Z1.drew.cell? ⟨gb, 2, none⟩ = some (.slice (some ⟨fb, 0, none⟩) g.length g.length) ∧ Z1.drew.cell? ⟨eb, 2, none⟩ = some (.int .i64 t) ∧ Z1.drew.cell? ⟨eb, 0, none⟩ = some (.int .i64 f) ∧ Z1.drew.cell? ⟨fb, t, none⟩ = some (V1 (g.length + t)) := ⟨hgc, HEZ1.out.1, HEZ1.out.2, HRZ1.out.cf.c t (by omega)⟩
          have HZC : Hid (Z1.drew.cell? ⟨gb, 0, none⟩ = some (.int .i64 g.length) ∧ Z1.drew.cell? ⟨gb, 1, none⟩ = some (.slice (some ⟨tb, 0, none⟩) g.length g.length) ∧ Z1.drew.cell? ⟨gb, 2, none⟩ = some (.slice (some ⟨fb, 0, none⟩) g.length g.length)) := Lib.hid ⟨HG0.out.1, HG0.out.2, hgc⟩
          have HRW := Lib.hid (HRZ1.out.below (Below.refl _ Z1).drew)
          have HKD := Lib.hid (HKP.out.below (Below.refl _ Z1).drew)
          have HBD := Lib.hid HBZ.out.drew
          have HTE1 : Hid (Tag Z1.drew eb 41) := Lib.hid HTE0.out
          have HTG1 : Hid (Tag Z1.drew gb 75) := Lib.hid HTG0.out
          clear HRZ1 HKP HBZ HTE0 HTG0
          have HTE0 := HTE1
          have HTG0 := HTG1
          clear HTE1 HTG1
          generalize Z1.drew = wd at *
          refine ord_move (some 56) (.pointer (some ⟨gb, 0, none⟩)) _ _ rfl rfl rfl (by first | exact wanted_none rfl | exact wanted_if rfl rfl rfl rfl) hs rfl ?_
          go_frame
          refine ord_load (some 57) (.pointer (some ⟨gb, 0, none⟩)) _ rfl rfl (by first | exact wanted_none rfl | exact wanted_if rfl rfl rfl rfl) hs (fun z hz => by go_simp) ?_
          go_frame
          refine ord_load (some 58) (.pointer (some ⟨gb, 2, none⟩)) _ rfl rfl (by first | exact wanted_none rfl | exact wanted_if rfl rfl rfl rfl) hs (fun z hz => by go_simp) ?_
          go_frame
          refine ord_load (some 59) (.slice (some ⟨fb, 0, none⟩) g.length g.length) _ rfl rfl (by first | exact wanted_none rfl | exact wanted_if rfl rfl rfl rfl) hs (fun z hz => by have dd := hz.1; go_simp) ?_
          go_frame
          refine ord_load (some 60) (.pointer (some ⟨eb, 2, none⟩)) _ rfl rfl (by first | exact wanted_none rfl | exact wanted_if rfl rfl rfl rfl) hs (fun z hz => by go_simp) ?_
          go_frame
          refine ord_load (some 61) (.int .i64 t) _ rfl rfl (by first | exact wanted_none rfl | exact wanted_if rfl rfl rfl rfl) hs (fun z hz => by have dd := hz.2.1; go_simp) ?_
          go_frame
          refine ord_move (some 62) (.pointer (some ⟨gb, 0, none⟩)) _ _ rfl rfl rfl (by first | exact wanted_none rfl | exact wanted_if rfl rfl rfl rfl) hs rfl ?_
          go_frame
          refine ord_load (some 63) (.pointer (some ⟨gb, 0, none⟩)) _ rfl rfl (by first | exact wanted_none rfl | exact wanted_if rfl rfl rfl rfl) hs (fun z hz => by go_simp) ?_
          go_frame
          refine ord_load (some 64) (.pointer (some ⟨gb, 2, none⟩)) _ rfl rfl (by first | exact wanted_none rfl | exact wanted_if rfl rfl rfl rfl) hs (fun z hz => by go_simp) ?_
          go_frame
          refine ord_load (some 65) (.slice (some ⟨fb, 0, none⟩) g.length g.length) _ rfl rfl (by first | exact wanted_none rfl | exact wanted_if rfl rfl rfl rfl) hs (fun z hz => by have dd := hz.1; go_simp) ?_
          go_frame
          refine ord_load (some 66) (.pointer (some ⟨eb, 2, none⟩)) _ rfl rfl (by first | exact wanted_none rfl | exact wanted_if rfl rfl rfl rfl) hs (fun z hz => by go_simp) ?_
          go_frame
          refine ord_load (some 67) (.int .i64 t) _ rfl rfl (by first | exact wanted_none rfl | exact wanted_if rfl rfl rfl rfl) hs (fun z hz => by have dd := hz.2.1; go_simp) ?_
          go_frame
          refine ord_load (some 68) (.pointer (some ⟨fb, t, none⟩)) _ rfl rfl (by first | exact wanted_none rfl | exact wanted_if rfl rfl rfl rfl) hs (fun z hz => by go_simp) ?_
          go_frame
          refine ord_load (some 69) (V1 (g.length + t)) _ rfl rfl (by first | exact wanted_none rfl | exact wanted_if rfl rfl rfl rfl) hs (fun z hz => by have dd := hz.2.2.2; go_simp) ?_
          go_frame
          refine ord_load (some 70) (.pointer (some ⟨eb, 0, none⟩)) _ rfl rfl (by first | exact wanted_none rfl | exact wanted_if rfl rfl rfl rfl) hs (fun z hz => by go_simp) ?_
          go_frame
          refine ord_load (some 71) (.int .i64 f) _ rfl rfl (by first | exact wanted_none rfl | exact wanted_if rfl rfl rfl rfl) hs (fun z hz => by have dd := hz.2.2.1; go_simp) ?_
          go_frame
          have HLT : Hid (gb < wd.heap.size ∧ eb < wd.heap.size ∧ fb < wd.heap.size) := Lib.hid ⟨World.block_lt_of_cell? wd _ hs.1, World.block_lt_of_cell? wd _ hs.2.1, World.block_lt_of_cell? wd _ hs.2.2.2⟩
          have hbx := box_below wd (.cells ⟨encI (f : Int)⟩ 3)
          have hs2 : (wd.alloc (.cells ⟨encI (f : Int)⟩ 3)).cell? ⟨gb, 2, none⟩ = some (.slice (some ⟨fb, 0, none⟩) g.length g.length) ∧ (wd.alloc (.cells ⟨encI (f : Int)⟩ 3)).cell? ⟨eb, 2, none⟩ = some (.int .i64 t) ∧ (wd.alloc (.cells ⟨encI (f : Int)⟩ 3)).cell? ⟨eb, 0, none⟩ = some (.int .i64 f) ∧ (wd.alloc (.cells ⟨encI (f : Int)⟩ 3)).cell? ⟨fb, t, none⟩ = some (V1 (g.length + t)) :=
            ⟨(hbx.cell (p := ⟨gb, 2, none⟩) HLT.out.1).trans hs.1, (hbx.cell (p := ⟨eb, 2, none⟩) HLT.out.2.1).trans hs.2.1, (hbx.cell (p := ⟨eb, 0, none⟩) HLT.out.2.1).trans hs.2.2.1, (hbx.cell (p := ⟨fb, t, none⟩) HLT.out.2.2).trans hs.2.2.2⟩
          have HRX := Lib.hid (HRW.out.below hbx)
          have HKX := Lib.hid (HKD.out.below hbx)
          have HBX := Lib.hid (HBD.out.trans (hbx.mono HBD.out.size))
          have HTE : Hid (Tag (wd.alloc (.cells ⟨encI (f : Int)⟩ 3)) eb 41) := Lib.hid (HTE0.out.keep (by first | exact hbx.block eb HLT.out.2.1 | exact hbx.block eb HLT.out.2.1))
          have HTG : Hid (Tag (wd.alloc (.cells ⟨encI (f : Int)⟩ 3)) gb 75) := Lib.hid (HTG0.out.keep (hbx.block gb HLT.out.1))
          refine ord_run (some 72) (.slice (some ⟨wd.heap.size, 0, none⟩) 1 1) (wd.alloc (.cells ⟨encI (f : Int)⟩ 3)) _ rfl rfl (by first | exact wanted_none rfl | exact wanted_if rfl rfl rfl rfl) (by go_simp; rfl) hs2 ?_
          go_frame
          have HXC : Hid ((wd.alloc (.cells ⟨encI (f : Int)⟩ 3)).cell? ⟨gb, 0, none⟩ = some (.int .i64 g.length) ∧ (wd.alloc (.cells ⟨encI (f : Int)⟩ 3)).cell? ⟨gb, 1, none⟩ = some (.slice (some ⟨tb, 0, none⟩) g.length g.length) ∧ (wd.alloc (.cells ⟨encI (f : Int)⟩ 3)).cell? ⟨gb, 2, none⟩ = some (.slice (some ⟨fb, 0, none⟩) g.length g.length)) := Lib.hid ⟨(hbx.cell (p := ⟨gb, 0, none⟩) HLT.out.1).trans HZC.out.1, (hbx.cell (p := ⟨gb, 1, none⟩) HLT.out.1).trans HZC.out.2.1, (hbx.cell (p := ⟨gb, 2, none⟩) HLT.out.1).trans HZC.out.2.2⟩
          have HXE := Lib.hid (And.intro hs2.2.1 hs2.2.2.1)
          have hce := cells_box wd (encI (f : Int)) 3
          have HLX : Hid (gb < (wd.alloc (.cells ⟨encI (f : Int)⟩ 3)).heap.size ∧ eb < (wd.alloc (.cells ⟨encI (f : Int)⟩ 3)).heap.size ∧ fb < (wd.alloc (.cells ⟨encI (f : Int)⟩ 3)).heap.size) := Lib.hid ⟨Nat.lt_of_lt_of_le HLT.out.1 hbx.size, Nat.lt_of_lt_of_le HLT.out.2.1 hbx.size, Nat.lt_of_lt_of_le HLT.out.2.2 hbx.size⟩
          clear hbx hs
          generalize wd.alloc (.cells ⟨encI (f : Int)⟩ 3) = wx at *
          refine ord_push (some 73) _ _ _ 34 rfl rfl rfl (by first | exact wanted_none rfl | exact wanted_if rfl rfl rfl rfl) w.heap.size 3 i0 (.int .i64 0) 1 8 encI Try.underlying34 HI0.out HZ0.out HZ1.out HZ2.out rfl (by decide) encI_len encI_one (V1 (g.length + t)) (L1 ((g.length + t))) rfl (HRX.out.own ((g.length + t)) (by omega)) wd.heap.size 1 (f : Int) rfl hce HBM1.out HBM2.out HBX.out.size ?_
          intro v' wy hown hg hblk
          obtain ⟨r1, r2, r3, rfl⟩ := own_slice hown
          have hap : ∀ b T, Tag wx b T → T ≠ 3 → wy.heap[b]? = wx.heap[b]? := fun b T ht hne => hg.block b ht.lt ((HRX.out.own ((g.length + t)) (by omega)).apart ht (Ne.symm hne))
          have hgk := hap gb _ HTG.out (by decide)
          have hek := hap eb _ HTE.out (by decide)
          have htk := hap fb _ HRX.out.tf (by decide)
          have hs3 : wy.cell? ⟨gb, 2, none⟩ = some (.slice (some ⟨fb, 0, none⟩) g.length g.length) ∧ wy.cell? ⟨eb, 2, none⟩ = some (.int .i64 t) ∧ wy.cell? ⟨eb, 0, none⟩ = some (.int .i64 f) ∧ wy.cell? ⟨fb, t, none⟩ = some (V1 (g.length + t)) :=
            ⟨(World.cell?_of_block (a := ⟨gb, 2, none⟩) hgk).trans hs2.1, (World.cell?_of_block (a := ⟨eb, 2, none⟩) hek).trans hs2.2.1, (World.cell?_of_block (a := ⟨eb, 0, none⟩) hek).trans hs2.2.2.1, (World.cell?_of_block (a := ⟨fb, t, none⟩) htk).trans hs2.2.2.2⟩
          refine ⟨hs3, ?_⟩
          go_frame
          refine ord_load (some 74) (.pointer (some ⟨fb, t, none⟩)) _ rfl rfl (by first | exact wanted_none rfl | exact wanted_if rfl rfl rfl rfl) hs3 (fun z hz => by go_simp) ?_
          go_frame
          refine ord_tail ?_
          simp only [List.drop_succ_cons, List.drop_zero]
          have ffz := (HRX.out.cf.keep htk).fz t (by omega)
          have dcz := hs3.2.2.2
          have HP : Hid (Rows2 (wy.setCell ⟨fb, t, none⟩ (Value.slice r1 r2 r3)) w.heap.size tb fb g.length (fun j => if j = (g.length + t) then (Value.slice r1 r2 r3) else V1 j) (fun j => if j = (g.length + t) then L1 ((g.length + t)) ++ [(f : Int)] else L1 j)) := Lib.hid (by
            have := HRX.out.push (k := (g.length + t)) (by omega) hown hg hblk
            rw [if_neg (by omega), if_neg (by omega), show g.length + t - g.length = t by omega] at this
            exact this)
          have HK2 : Hid (Kept w3 (wy.setCell ⟨fb, t, none⟩ (Value.slice r1 r2 r3)) tb fb) := Lib.hid (by
            have := HKX.out.push HRX.out (k := (g.length + t)) (by omega) hg t (Value.slice r1 r2 r3)
            rw [if_neg (by omega)] at this
            exact this)
          have HBY : Hid (Below w.heap.size w (wy.setCell ⟨fb, t, none⟩ (Value.slice r1 r2 r3))) := Lib.hid ((HBX.out.grown hg HBX.out.size (fun b hb => (HRX.out.own ((g.length + t)) (by omega)).block hb)).setCell (by have := HTB.out.2; exact this) _)
          have HGC : Hid (∀ i, (wy.setCell ⟨fb, t, none⟩ (Value.slice r1 r2 r3)).cell? ⟨gb, i, none⟩ = wx.cell? ⟨gb, i, none⟩) := Lib.hid fun i => (World.cell?_of_block (a := ⟨gb, i, none⟩) (Below.heap_setCell wy _ (Value.slice r1 r2 r3) gb (fun e => HNE.out.2.1 e))).trans (World.cell?_of_block (a := ⟨gb, i, none⟩) hgk)
          have HEC : Hid (∀ i, (wy.setCell ⟨fb, t, none⟩ (Value.slice r1 r2 r3)).cell? ⟨eb, i, none⟩ = wx.cell? ⟨eb, i, none⟩) := Lib.hid fun i => (World.cell?_of_block (a := ⟨eb, i, none⟩) (Below.heap_setCell wy _ (Value.slice r1 r2 r3) eb (fun e => HNE.out.2.2.2 e))).trans (World.cell?_of_block (a := ⟨eb, i, none⟩) hek)
          have HTE1 : Hid (Tag (wy.setCell ⟨fb, t, none⟩ (Value.slice r1 r2 r3)) eb 41) := Lib.hid ((HTE.out.keep hek).set _ _)
          have HTG1 : Hid (Tag (wy.setCell ⟨fb, t, none⟩ (Value.slice r1 r2 r3)) gb 75) := Lib.hid ((HTG.out.keep hgk).set _ _)
          have HSZ1 : Hid (gb < (wy.setCell ⟨fb, t, none⟩ (Value.slice r1 r2 r3)).heap.size) := Lib.hid HTG1.out.lt
          clear hown hblk hap hgk hek htk hs2 hs3 hce HRW HKD HBD HTE HTG HTE0 HTG0 HLT HLX HZC
          go_wp2
          go_roundg q
          case measure => omega
          case rel =>
            refine ⟨j + 1, (fun j => if j = (g.length + t) then (Value.slice r1 r2 r3) else V1 j), by omega, by go_num, ⟨(HGC.out 0).trans HXC.out.1, (HGC.out 1).trans HXC.out.2.1, (HGC.out 2).trans HXC.out.2.2, ?_, HSZ1.out, HTB.out⟩, HK2.out, HBY.out, HTG1.out⟩
            rw [HST.out]
            refine HP.out.congr fun k hk => ?_
            rw [rowsG_snoc _ _ _ _ hfn htn k hk]
            by_cases e1 : k = g.length + t
            · rw [if_pos e1, if_pos e1, HL1.out.1]
            · rw [if_neg e1, if_neg e1]; exact (HL1.out.2 k).symm
        · have HSAME : Hid (inE g.length (E.take (j + 1)) = inE g.length (E.take j)) := Lib.hid (by rw [HSN.out, if_neg hok])
          have hno : e.2.2 < 0 ∨ (g.length : Int) ≤ e.2.2 := by rw [okE_iff] at hok; omega
          have HGF : Hid (GAt Z gb tb fb g.length w.heap.size V (inE g.length (E.take (j + 1)))) := Lib.hid (by rw [HSAME.out]; exact ⟨(HGZ.out 0).trans HC0.out, (HGZ.out 1).trans HC1.out, (HGZ.out 2).trans HC2.out, HRZ.out, HTG0.out.lt, HTB.out⟩)
          clear hok
          by_cases hneg : e.2.2 < 0
          · have t3 : decide ((0 : Int) ≤ e.2.2) = false := by simp; omega
            clear hno hneg
            go_wp2
            go_roundg q
            case measure => omega
            case rel => exact ⟨j + 1, V, by omega, by go_num, HGF.out, HKP.out, HBZ.out, HTG0.out⟩
          · have t3 : decide ((0 : Int) ≤ e.2.2) = true := by simp; omega
            have t4 : decide (e.2.2 < (g.length : Int)) = false := by simp; omega
            clear hno hneg
            go_wp2
            go_roundg q
            case measure => omega
            case rel => exact ⟨j + 1, V, by omega, by go_num, HGF.out, HKP.out, HBZ.out, HTG0.out⟩
end Go.Proofs.Ytedajbpjokmlaaa
