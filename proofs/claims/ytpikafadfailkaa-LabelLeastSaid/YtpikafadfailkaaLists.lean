/- Slices of numbers that are read; Same; Near. -/
import Derived.Test.YtpikafadfailkaaRef3
namespace Go.Proofs.Ytpikafadfailkaa
open Go.RowKit P

/-- A slice of numbers that lies below block B. -/
def IntsAt (w : World) (B : Nat) (v : Value) (l : List Int) : Prop :=
  l.length ≤ 9223372036854775807 ∧ ∃ A c, v = .slice A l.length c ∧ (0 < l.length → ∃ b o, A = some ⟨b, o, none⟩ ∧ b < B ∧ ∀ (i : Nat) x, l[i]? = some x → w.cell? ⟨b, o + i, none⟩ = some (.int .i64 x))
section
variable {w w' : World} {B : Nat} {v : Value} {l : List Int}
theorem IntsAt.keep (h : IntsAt w B v l) (hc : ∀ p : Addr, p.block < B → w'.cell? p = w.cell? p) : IntsAt w' B v l := by
  obtain ⟨h0, A, c, rfl, h1⟩ := h
  refine ⟨h0, A, c, rfl, fun hp => ?_⟩
  obtain ⟨b, o, rfl, hb, h2⟩ := h1 hp
  exact ⟨b, o, rfl, hb, fun i x hx => (hc ⟨b, o + i, none⟩ hb).trans (h2 i x hx)⟩
theorem IntsAt.below (h : IntsAt w B v l) (hb : Below B w w') : IntsAt w' B v l := h.keep fun _ hp => hb.cell hp
theorem IntsAt.drewN (h : IntsAt w B v l) (k : Nat) : IntsAt (w.drewN k) B v l := h
theorem IntsAt.more {B' : Nat} (h : IntsAt w B v l) (hB : B ≤ B') : IntsAt w B' v l := by
  obtain ⟨h0, A, c, rfl, h1⟩ := h
  refine ⟨h0, A, c, rfl, fun hp => ?_⟩
  obtain ⟨b, o, rfl, hb, h2⟩ := h1 hp
  exact ⟨b, o, rfl, by omega, h2⟩
theorem IntsAt.of_own {base : Nat} (h : OwnInts w base v l) (hl : l.length ≤ 9223372036854775807) : IntsAt w w.heap.size v l := by
  refine ⟨hl, ?_⟩
  rcases Nat.eq_zero_or_pos l.length with h0 | h0
  · have hl0 : l = [] := List.eq_nil_of_length_eq_zero h0
    subst hl0
    rcases h.2 with ⟨rfl, _⟩ | ⟨g, cap, cur, rfl, _⟩
    · exact ⟨none, 0, rfl, fun h => absurd h (by simp)⟩
    · exact ⟨_, cap, rfl, fun h => absurd h (by simp)⟩
  · rcases h.2 with ⟨_, h1⟩ | ⟨g, cap, cur, hv, _, hg, _⟩
    · omega
    · have hlt : g < w.heap.size := by
        rcases Nat.lt_or_ge g w.heap.size with h2 | h2
        · exact h2
        · rw [Array.getElem?_eq_none h2] at hg; cases hg
      refine ⟨some ⟨g, 0, none⟩, cap, hv, fun _ => ⟨g, 0, rfl, hlt, fun i x hx => ?_⟩⟩
      have := World.ownsRow.cells h (g := g) (by rw [hv]; rfl) i (.int .i64 x) (by simp [ints, hx])
      rw [Addr.add_mid] at this; exact this
theorem OwnInts.mono {base base' : Nat} (h : OwnInts w base v l) (hb : base' ≤ base) : OwnInts w base' v l := by
  refine ⟨h.1, ?_⟩
  rcases h.2 with h1 | ⟨g, cap, cur, h1, h2, h3⟩
  · exact .inl h1
  · exact .inr ⟨g, cap, cur, h1, by omega, h3⟩
theorem OwnInts.kept_below {base : Nat} (h : OwnInts w base v l) (hb : Below w.heap.size w w') : OwnInts w' base v l :=
  World.ownsRow.kept h (row := none) ⟨hb.os, hb.tape, hb.output, hb.size, fun i hi _ => hb.block i hi⟩ (by cases e : v.ownBlock <;> simp)
end

set_option maxHeartbeats 1000000 in
theorem same_any (u v : Value) (a b : List Int) (B : Nat) (w : World) (ha : IntsAt w B u a) (hb : IntsAt w B v b) :
    Calls Try.prog 33 #[u, v] w fun e w' => e = .returned (.bool (a == b)) ∧ ∃ m, w' = w.drewN m := by
  obtain ⟨la, A, ca, rfl, ha⟩ := ha
  obtain ⟨lb, D, cb, rfl, hb⟩ := hb
  by_cases hlen : a.length = b.length
  · have h1 : ((a.length : Int) != (b.length : Int)) = false := by simp [hlen]
    have HA := Lib.hid ha
    have HB := Lib.hid hb
    have HL := Lib.hid hlen
    clear ha hb
    have hlen2 : a.length ≤ b.length ∧ b.length ≤ a.length := by omega
    obtain ⟨hl1, hl2⟩ := hlen2
    clear hlen
    go_enter Try.func33, Try.ntmps33
    go_wp2
    go_loopg [5] a.length (fun g i wr => ∃ k m : Nat, k + g = a.length ∧ i = .int .i64 k ∧ wr = w.drewN m ∧ a.take k = b.take k)
    case atStart => exact ⟨0, 0, by omega, rfl, rfl, rfl⟩
    case round =>
      obtain ⟨k, m, hk, rfl, rfl, heq⟩ := hrel
      have HEQ := Lib.hid heq
      clear heq
      cases gk with
      | zero =>
        have hge : ¬ ((k : Int) < (a.length : Int)) := by omega
        go_wp2
        go_ret
        refine ⟨ret_bool ?_, _, rfl⟩
        have := HEQ.out
        rw [List.take_of_length_le (by omega), List.take_of_length_le (by omega)] at this
        rw [this]; simp
      | succ g =>
        have hlt : (k : Int) < (a.length : Int) := by omega
        have hlt2 : (k : Int) < (b.length : Int) := by omega
        obtain ⟨b1, o1, rfl, _, c1⟩ := HA.out (by omega)
        obtain ⟨b2, o2, rfl, _, c2⟩ := HB.out (by omega)
        obtain ⟨x, e1⟩ : ∃ x, a[k]? = some x := ⟨_, List.getElem?_eq_getElem (by omega)⟩
        obtain ⟨y, e2⟩ : ∃ y, b[k]? = some y := ⟨_, List.getElem?_eq_getElem (by omega)⟩
        have d1 := c1 k _ e1
        have d2 := c2 k _ e2
        have T1 := Lib.hid (take_snoc e1)
        have T2 := Lib.hid (take_snoc e2)
        have HNE : Hid (x ≠ y → (a == b) = false) := by
          refine Lib.hid fun h => beq_eq_false_iff_ne.2 fun e => h ?_
          rw [e] at e1
          rw [e1] at e2
          exact Option.some.inj e2
        clear c1 c2 e1 e2
        by_cases hxy : x = y
        · subst hxy
          go_wp2
          go_quiet (fail)
          go_wp2
          go_roundg g
          case measure => omega
          case rel => exact ⟨k + 1, _, by omega, by go_num, rfl, by rw [T1.out, T2.out, HEQ.out]⟩
        · have hn : (x != y) = true := by simpa using hxy
          have HF := Lib.hid (HNE.out hxy)
          go_wp2
          go_quiet (fail)
          go_wp2
          go_ret
          exact ⟨ret_bool HF.out.symm, _, World.drewN_drewN _ _ _⟩
  · have h1 : ((a.length : Int) != (b.length : Int)) = true := by simp; omega
    have hE : (a == b) = false := beq_eq_false_iff_ne.2 fun e => hlen (by rw [e])
    have HE := Lib.hid hE
    clear ha hb hlen hE
    go_enter Try.func33, Try.ntmps33
    go_wp2
    go_ret
    exact ⟨ret_bool HE.out.symm, 0, rfl⟩

/-- the labels near one: from what the document says, from what the program answers -/
theorem near_up {n : Nat} {L : Rel} (hd : Dom n L) (h8 : n ≤ 8) (a : Int) : listTo (fun b => lqI n L a b) n = upL n L a := by
  unfold upL nearOf
  cases h : isL n a with
  | false =>
    have : listTo (fun b => lqI n L a b) n = listTo (fun b => lqI n L a b) 0 := listTo_skip _ 0 n (by omega) fun i _ _ => by unfold lqI; rw [h]; rfl
    rw [this]; rfl
  | true =>
    simp only [if_true]
    rw [listTo_skip (L a.toNat) n 8 h8 fun i h1 _ => dom_out2 hd h1]
    unfold listTo
    congr 1
    refine List.filter_congr fun b hb => ?_
    have hb := List.mem_range.1 hb
    unfold lqI; rw [h, isL_nat hb]; simp
theorem near_dn {n : Nat} {L : Rel} (hd : Dom n L) (h8 : n ≤ 8) (a : Int) : listTo (fun b => lqI n L b a) n = dnL n L a := by
  have := near_up (opp_dom hd) h8 a
  have e : (fun b : Nat => lqI n (opp L) a b) = fun b : Nat => lqI n L b a := by
    funext b; unfold lqI opp; rw [Bool.and_comm (isL n a)]
  rw [e] at this
  exact this

set_option maxHeartbeats 2000000 in
theorem rnear_up (n : Nat) (L : Rel) (a : Int) (w : World) (h8 : n ≤ 8) (hd : Dom n L) :
    Calls Try.prog 35 #[.agg (rv n L), .int .i64 a, .bool true] w (ListPost w (upL n L a)) := by
  rw [← near_up hd h8 a]
  have HM := Lib.hid (Rm.new w n L 27)
  have HB := Lib.hid ((Below.refl w.heap.size w).alloc (Nat.le_refl _) (.cells (rv n L) 27))
  have HS : w.heap.size < (w.alloc (.cells (rv n L) 27)).heap.size := by simp
  obtain ⟨i0, hi, hz0, hz1, hz2⟩ := info_parts info_int
  have HI := Lib.hid hi
  have HZ0 := Lib.hid hz0
  have HZ1 := Lib.hid hz1
  have HZ2 := Lib.hid hz2
  clear hi hz0 hz1 hz2 hd
  generalize hS : (fun b : Nat => lqI n L a b) = S
  have HSS : Hid (∀ b : Nat, lqI n L a b = S b) := Lib.hid fun b => congrFun hS b
  clear hS
  go_enter Try.func35, Try.ntmps35
  go_wp2
  generalize w.alloc (.cells (rv n L) 27) = W at *
  go_loopg [7, 8] n (fun g v i wr => ∃ k : Nat, k + g = n ∧ i = .int .i64 k ∧ OwnInts wr (w.heap.size + 1) v (listTo S k) ∧ Rm wr w.heap.size n L ∧ Below w.heap.size w wr ∧ w.heap.size < wr.heap.size)
  case atStart => exact ⟨0, by omega, rfl, own_nil _ _, HM.out, HB.out, HS⟩
  case round =>
    obtain ⟨k, hk, rfl, hown, hm, hb, hs⟩ := hrel
    have HO := Lib.hid hown
    have HM1 := Lib.hid hm
    have HB1 := Lib.hid hb
    have hn := hm.cn
    clear hown hm hb
    cases gk with
    | zero =>
      have hge : ¬ ((k : Int) < (n : Int)) := by omega
      obtain rfl : k = n := by omega
      go_wp2
      go_ret
      exact ⟨_, rfl, HO.out.mono (by omega), HB1.out⟩
    | succ g =>
      have hlt : (k : Int) < (n : Int) := by omega
      have hc := rleq_any n L a k wr h8
      rw [HSS.out] at hc
      have HC := Lib.hid hc
      clear hc
      cases hS : S k with
      | false =>
        have HSK := Lib.hid hS
        clear hS
        go_wp2_with (first | (refine wl_rload _ rfl ?hw w.heap.size n L rfl HM1.out ?_; case hw => first | (simp [Region.wanted]; done) | (go_simp; done)) | (go_at_call 29; refine HC.out.mono ?_; rintro e w1 ⟨rfl, hb⟩; rw [HSK.out]; have HB2 := Lib.hid hb; clear hb))
        go_roundg g
        case measure => omega
        case rel =>
          refine ⟨k + 1, by omega, by go_num, ?_, HM1.out.below HB2.out hs, HB1.out.trans (HB2.out.mono (by omega)), by have := HB2.out.size; omega⟩
          rw [listTo_skip S k (k + 1) (by omega) fun i h1 h2 => by rw [show i = k by omega]; exact HSK.out]
          exact HO.out.kept_below HB2.out
      | true =>
        have HSK := Lib.hid hS
        clear hS
        go_wp2_with (first | (refine wl_rload _ rfl ?hw w.heap.size n L rfl HM1.out ?_; case hw => first | (simp [Region.wanted]; done) | (go_simp; done)) | (go_at_call 29; refine HC.out.mono ?_; rintro e w1 ⟨rfl, hb⟩; rw [HSK.out]; have HB2 := Lib.hid hb; have HO2 := Lib.hid (HO.out.kept_below hb); clear hb) | (at_builtin; refine wpList_append_own _ rfl _ _ 50 rfl (w.heap.size + 1) 3 i0 (.int .i64 0) 1 8 Try.underlying50 HI.out HZ0.out HZ1.out HZ2.out rfl (by decide) _ _ _ rfl (World.ownsRow.alloc HO2.out _) ⟨w1.heap.size, 0, none⟩ 1 1 [.int .i64 k] rfl rfl ?c1 ?c2 ?c3 ?c4 ?c5 ?_))
        case c1 => exact cell_one_new _ _ _
        case c2 => intro u hu; simp at hu; subst hu; rfl
        case c3 => have := listTo_le S k; unfold maxLen; omega
        case c4 => have := listTo_le S k; omega
        case c5 => have := HB2.out.size; simp; omega
        intro v' w2 hown' hgrow _
        have h7 : OwnInts w2 (w.heap.size + 1) v' (listTo S (k + 1)) := by
          rw [listTo_hit S k HSK.out]; exact own_snoc hown'
        have h8 : Below wr.heap.size wr w2 ∨ True := .inr trivial
        have h9 : Below (w.heap.size + 1) wr w2 := by
          have hsz := HB2.out.size
          refine (((HB2.out.mono (show w.heap.size + 1 ≤ wr.heap.size by omega)).alloc (by omega) _)).grown hgrow (by simp; omega) ?_
          exact fun j hj => (HO2.out.lt j hj).1
        have H7 := Lib.hid h7
        have H9 := Lib.hid h9
        clear h7 h8 h9 hown' hgrow
        go_wp2
        go_roundg g
        case measure => omega
        case rel => exact ⟨k + 1, by omega, by go_num, H7.out, HM1.out.below H9.out (by omega), HB1.out.trans (H9.out.mono (by omega)), by have := H9.out.size; omega⟩

set_option maxHeartbeats 2000000 in
theorem rnear_dn (n : Nat) (L : Rel) (a : Int) (w : World) (h8 : n ≤ 8) (hd : Dom n L) :
    Calls Try.prog 35 #[.agg (rv n L), .int .i64 a, .bool false] w (ListPost w (dnL n L a)) := by
  rw [← near_dn hd h8 a]
  have HM := Lib.hid (Rm.new w n L 27)
  have HB := Lib.hid ((Below.refl w.heap.size w).alloc (Nat.le_refl _) (.cells (rv n L) 27))
  have HS : w.heap.size < (w.alloc (.cells (rv n L) 27)).heap.size := by simp
  obtain ⟨i0, hi, hz0, hz1, hz2⟩ := info_parts info_int
  have HI := Lib.hid hi
  have HZ0 := Lib.hid hz0
  have HZ1 := Lib.hid hz1
  have HZ2 := Lib.hid hz2
  clear hi hz0 hz1 hz2 hd
  generalize hS : (fun b : Nat => lqI n L b a) = S
  have HSS : Hid (∀ b : Nat, lqI n L b a = S b) := Lib.hid fun b => congrFun hS b
  clear hS
  go_enter Try.func35, Try.ntmps35
  go_wp2
  generalize w.alloc (.cells (rv n L) 27) = W at *
  go_loopg [7, 8] n (fun g v i wr => ∃ k : Nat, k + g = n ∧ i = .int .i64 k ∧ OwnInts wr (w.heap.size + 1) v (listTo S k) ∧ Rm wr w.heap.size n L ∧ Below w.heap.size w wr ∧ w.heap.size < wr.heap.size)
  case atStart => exact ⟨0, by omega, rfl, own_nil _ _, HM.out, HB.out, HS⟩
  case round =>
    obtain ⟨k, hk, rfl, hown, hm, hb, hs⟩ := hrel
    have HO := Lib.hid hown
    have HM1 := Lib.hid hm
    have HB1 := Lib.hid hb
    have hn := hm.cn
    clear hown hm hb
    cases gk with
    | zero =>
      have hge : ¬ ((k : Int) < (n : Int)) := by omega
      obtain rfl : k = n := by omega
      go_wp2
      go_ret
      exact ⟨_, rfl, HO.out.mono (by omega), HB1.out⟩
    | succ g =>
      have hlt : (k : Int) < (n : Int) := by omega
      have hc := rleq_any n L k a wr h8
      rw [HSS.out] at hc
      have HC := Lib.hid hc
      clear hc
      cases hS : S k with
      | false =>
        have HSK := Lib.hid hS
        clear hS
        go_wp2_with (first | (refine wl_rload _ rfl ?hw w.heap.size n L rfl HM1.out ?_; case hw => first | (simp [Region.wanted]; done) | (go_simp; done)) | (go_at_call 29; refine HC.out.mono ?_; rintro e w1 ⟨rfl, hb⟩; rw [HSK.out]; have HB2 := Lib.hid hb; clear hb))
        go_roundg g
        case measure => omega
        case rel =>
          refine ⟨k + 1, by omega, by go_num, ?_, HM1.out.below HB2.out hs, HB1.out.trans (HB2.out.mono (by omega)), by have := HB2.out.size; omega⟩
          rw [listTo_skip S k (k + 1) (by omega) fun i h1 h2 => by rw [show i = k by omega]; exact HSK.out]
          exact HO.out.kept_below HB2.out
      | true =>
        have HSK := Lib.hid hS
        clear hS
        go_wp2_with (first | (refine wl_rload _ rfl ?hw w.heap.size n L rfl HM1.out ?_; case hw => first | (simp [Region.wanted]; done) | (go_simp; done)) | (go_at_call 29; refine HC.out.mono ?_; rintro e w1 ⟨rfl, hb⟩; rw [HSK.out]; have HB2 := Lib.hid hb; have HO2 := Lib.hid (HO.out.kept_below hb); clear hb) | (at_builtin; refine wpList_append_own _ rfl _ _ 50 rfl (w.heap.size + 1) 3 i0 (.int .i64 0) 1 8 Try.underlying50 HI.out HZ0.out HZ1.out HZ2.out rfl (by decide) _ _ _ rfl (World.ownsRow.alloc HO2.out _) ⟨w1.heap.size, 0, none⟩ 1 1 [.int .i64 k] rfl rfl ?c1 ?c2 ?c3 ?c4 ?c5 ?_))
        case c1 => exact cell_one_new _ _ _
        case c2 => intro u hu; simp at hu; subst hu; rfl
        case c3 => have := listTo_le S k; unfold maxLen; omega
        case c4 => have := listTo_le S k; omega
        case c5 => have := HB2.out.size; simp; omega
        intro v' w2 hown' hgrow _
        have h7 : OwnInts w2 (w.heap.size + 1) v' (listTo S (k + 1)) := by
          rw [listTo_hit S k HSK.out]; exact own_snoc hown'
        have h8 : Below wr.heap.size wr w2 ∨ True := .inr trivial
        have h9 : Below (w.heap.size + 1) wr w2 := by
          have hsz := HB2.out.size
          refine (((HB2.out.mono (show w.heap.size + 1 ≤ wr.heap.size by omega)).alloc (by omega) _)).grown hgrow (by simp; omega) ?_
          exact fun j hj => (HO2.out.lt j hj).1
        have H7 := Lib.hid h7
        have H9 := Lib.hid h9
        clear h7 h8 h9 hown' hgrow
        go_wp2
        go_roundg g
        case measure => omega
        case rel => exact ⟨k + 1, by omega, by go_num, H7.out, HM1.out.below H9.out (by omega), HB1.out.trans (H9.out.mono (by omega)), by have := H9.out.size; omega⟩

end Go.Proofs.Ytpikafadfailkaa
