/- Parts of a proof: KeepS, IOwn, IRepl. -/
import Derived.Test.YtppmkehdhpgdcaaGreatPackP13
import Derived.Test.YtppmkehdhpgdcaaGreatPackP20
import Derived.Test.YtppmkehdhpgdcaaGreatPackP21
import Derived.Test.YtppmkehdhpgdcaaGreatPackP24
section
namespace Go.Proofs.YtppmkehdhpgdcaaGreat
open Go Go.RowKit
set_option linter.unusedVariables false
def KeptS (p : Nat → Prop) (w : World) (v : Value) (ns : List ByteArray) : Prop := SlAt (only w p) w.heap.size 1 StrR v ns
theorem KeptS.to {p q : Nat → Prop} {w w' : World} {v : Value} {ns : List ByteArray} (h : KeptS p w v ns) (hb : ∀ b, p b → b < w.heap.size → q b ∧ w'.heap[b]? = w.heap[b]?) (hs : w.heap.size ≤ w'.heap.size) : KeptS q w' v ns :=
  (SlAt.cells h (only_to hb) fun _ _ _ h => h).more hs
theorem own_lt {α : Type} {T : TypeId} {k base b : Nat} {enc : α → List Value} {w : World} {v : Value} {l : List α} (h : OwnSl T k enc w base v l) (hb : v.ownBlock = some b) : b < w.heap.size := by
  rcases h.2 with ⟨rfl, _⟩ | ⟨g, cap, cur, rfl, _, hg, _⟩
  · cases hb
  · have : g = b := by simpa [Value.ownBlock] using hb
    subst this
    rcases Nat.lt_or_ge g w.heap.size with h2 | h2
    · exact h2
    · rw [Array.getElem?_eq_none h2] at hg; cases hg
theorem keptS_own {w w' : World} {v : Value} {ns : List ByteArray} (hs : ∀ s ∈ ns, s.size ≤ maxLen) (hl : ns.length ≤ 9223372036854775807) (h : w'.ownsRow w.heap.size 9 1 v ns.length (ns.map (Value.string))) : KeptS (fun b => w.heap.size ≤ b) w' v ns := by
  refine ⟨hl, ?_⟩
  have h' : OwnSl 9 1 (fun s : ByteArray => [Value.string s]) w' w.heap.size v ns := by
    have e : ns.map (Value.string) = flat (fun s : ByteArray => [Value.string s]) ns := by
      clear hs hl h
      induction ns with
      | nil => rfl
      | cons a l ih =>
        show Value.string a :: l.map (Value.string) = Value.string a :: flat (fun s : ByteArray => [Value.string s]) l
        rw [ih]
    unfold OwnSl
    rw [← e]; exact h
  rcases h.2 with ⟨rfl, h0⟩ | ⟨g, cap, cur, hv, hg, _, _⟩
  · exact ⟨none, 0, by rw [h0], fun h1 => by omega⟩
  · refine ⟨some ⟨g, 0, none⟩, cap, hv, fun _ => ?_⟩
    have hown : v.ownBlock = some g := by rw [hv]; rfl
    refine ⟨g, 0, rfl, own_lt h' hown, fun i x hx => ⟨[.string x], rfl, fun j u hu => ?_, rfl, hs x (List.mem_of_getElem? hx)⟩⟩
    refine only_cell.2 ⟨hg, ?_⟩
    have := World.ownsRow.cells h' hown (i * 1 + j) u (flat_at (enc := fun s : ByteArray => [Value.string s]) (fun _ => rfl) ns i x hx j u hu)
    rw [Addr.add_mid] at this
    rw [show 0 + i * 1 + j = 0 + (i * 1 + j) by omega]; exact this
theorem clone_names (w : World) (vn : Value) (ns : List ByteArray) (h : SlAt w w.heap.size 1 StrR vn ns) (hl : ns.length * 16 ≤ reachBytes) :
    Calls Tryz.prog 49 #[vn] w fun e w' => ∃ v', e = .returned v' ∧ Below w.heap.size w w' ∧ KeptS (fun b => w.heap.size ≤ b) w' v' ns := by
  obtain ⟨h0, A, c, rfl, h1⟩ := h
  have hr : reachBytes = 140737488351232 := rfl
  rcases Nat.eq_zero_or_pos ns.length with hz | hz
  · obtain rfl : ns = [] := List.eq_nil_of_length_eq_zero hz
    cases A with
    | none => exact (Tryz.slices_Clone_string_nil _ _ _).mono fun e u' h => ⟨_, h.1, by rw [h.2]; exact Below.refl _ _, SlAt.nil _ _ _ _⟩
    | some ad => exact (Tryz.slices_Clone_string_zero ad c w).mono fun e u' ⟨v', h1, h2, _, h3⟩ => ⟨v', h1, h3, keptS_own (fun s hs => by cases hs) (by simp) h2⟩
  · obtain ⟨b, o, rfl, hb, h2⟩ := h1 hz
    refine (Tryz.slices_Clone_string b o ns.length c ns w (Nat.le_refl _) (by omega) fun j hj => ?_).mono fun e u' ⟨v', h5, h6, _, h7⟩ => ⟨v', h5, h7, keptS_own (fun s hs => ?_) h0 (by rwa [List.take_length] at h6)⟩
    · obtain ⟨cs, h3, h4, h5, h6⟩ := h2 j _ (List.getElem?_eq_getElem hj)
      subst h5
      have := h4 0 _ rfl
      rw [Nat.mul_one, Nat.add_zero] at this
      rw [List.getD_eq_getElem?_getD, List.getElem?_eq_getElem hj]
      exact this
    · obtain ⟨i, hi⟩ := List.mem_iff_getElem?.1 hs
      obtain ⟨cs, _, _, _, h6⟩ := h2 i s hi
      exact h6
end Go.Proofs.YtppmkehdhpgdcaaGreat
end
section
namespace Go.Proofs.YtppmkehdhpgdcaaGreat
open Go Go.RowKit
set_option linter.unusedVariables false
set_option linter.unusedSimpArgs false
inductive FitE : ET → Prop where
  | mk {k : Int} {s : ByteArray} {v : VT} {ns : List ByteArray} {its : List ET} (h1 : ns.length * 16 ≤ reachBytes) (h2 : its.length * 160 ≤ reachBytes) (h3 : ∀ x ∈ its, FitE x) : FitE (.mk k s v ns its)
theorem FitE.inv {k : Int} {s : ByteArray} {v : VT} {ns : List ByteArray} {its : List ET} (h : FitE (.mk k s v ns its)) : ns.length * 16 ≤ reachBytes ∧ its.length * 160 ≤ reachBytes ∧ ∀ x ∈ its, FitE x := by
  cases h with
  | mk h1 h2 h3 => exact ⟨h1, h2, h3⟩
structure C10 where
  cs : List Value
  len : cs.length = 10
def enc10 (q : C10) : List Value := q.cs
theorem enc10_len (q : C10) : (enc10 q).length = 10 := q.len
def KeptX (p : Nat → Prop) (w : World) (cs : List Value) (t : ET) : Prop := ExpAt (only w p) w.heap.size cs t
theorem KeptX.exp {p : Nat → Prop} {w : World} {cs : List Value} {t : ET} (h : KeptX p w cs t) : ExpAt w w.heap.size cs t := ExpAt.cells h fun a v hv => (only_cell.1 hv).2
theorem KeptX.to {p q : Nat → Prop} {w w' : World} {cs : List Value} {t : ET} (h : KeptX p w cs t) (hb : ∀ b, p b → b < w.heap.size → q b ∧ w'.heap[b]? = w.heap[b]?) (hs : w.heap.size ≤ w'.heap.size) : KeptX q w' cs t :=
  (ExpAt.cells h (only_to hb)).more hs
structure OwnE (TV : TypeId) (B : Nat) (W u : World) (v : Value) (l : List ET) (i : Nat) (KL : List C10) : Prop where
  own : OwnSl TV 10 enc10 u W.heap.size v KL
  len : KL.length = i
  bel : Below W.heap.size W u
  old : B ≤ W.heap.size
  els : ∀ (j : Nat) k x, KL[j]? = some k → l[j]? = some x → KeptX (fun b => (b < B ∨ W.heap.size ≤ b) ∧ some b ≠ v.ownBlock) u k.cs x
theorem OwnE.start (TV : TypeId) {B : Nat} (W : World) (l : List ET) (hB : B ≤ W.heap.size) : OwnE TV B W W (.slice none 0 0) l 0 [] := ⟨OwnSl.nil _ _, rfl, Below.refl _ _, hB, fun j k x hk _ => by cases hk⟩
theorem OwnE.next {TV : TypeId} {B : Nat} {W u u5 u6 u7 u8 : World} {v v' : Value} {l : List ET} {i : Nat} {KL : List C10} (h : OwnE TV B W u v l i KL) (h5 : Below u.heap.size u u5) (h6 : Below u5.heap.size u5 u6) (h7 : Below u6.heap.size u6 u7) {k : C10} {x : ET} (hx : l[i]? = some x)
    (hk : KeptX (fun b => b < B ∨ u5.heap.size ≤ b) u6 k.cs x) (hown : OwnSl TV 10 enc10 u8 W.heap.size v' (KL ++ [k])) (hg : u7.grownBy u8 v.ownBlock) (hb : v'.ownBlock = v.ownBlock ∨ v'.ownBlock = some u7.heap.size) :
    OwnE TV B W u8 v' l (i + 1) (KL ++ [k]) := by
  have h57 := h5.trans ((h6.trans (h7.mono h6.size)).mono h5.size)
  have hbase := h.bel.size
  have hold := h.old
  have hblk : ∀ b, b < u.heap.size → some b ≠ v.ownBlock → some b ≠ v'.ownBlock ∧ u8.heap[b]? = u.heap[b]? := fun b hlt hne => by
    have e1 := h57.block b hlt
    have e2 := hg.block b (Nat.lt_of_lt_of_le hlt h57.size) hne
    refine ⟨?_, e2.trans e1⟩
    rcases hb with hb | hb
    · rw [hb]; exact hne
    · rw [hb]
      intro e
      injection e with e
      have := h57.size
      omega
  have hnew : ∀ b, b < B ∨ u5.heap.size ≤ b → b < u6.heap.size → some b ≠ v'.ownBlock ∧ u8.heap[b]? = u6.heap[b]? := fun b hge hlt => by
    have hne : some b ≠ v.ownBlock := fun e => by
      have h1 := own_lt h.own e.symm
      have h2 := h.own.block e.symm
      have := h5.size
      omega
    have e1 := h7.block b hlt
    have e2 := hg.block b (Nat.lt_of_lt_of_le hlt h7.size) hne
    refine ⟨?_, e2.trans e1⟩
    rcases hb with hb | hb
    · rw [hb]; exact hne
    · rw [hb]
      intro e
      injection e with e
      have := h7.size
      omega
  refine ⟨hown, by rw [List.length_append, h.len]; rfl, ?_, hold, fun j k' y hk' hy => ?_⟩
  · refine ⟨hg.os.trans (h57.os.trans h.bel.os), hg.tape.trans (h57.tape.trans h.bel.tape), hg.output.trans (h57.output.trans h.bel.output), ?_, fun b hlt => ?_⟩
    · have := hg.size
      have := h57.size
      omega
    · have hne : some b ≠ v.ownBlock := fun e => by
        have := h.own.block e.symm
        omega
      exact (hblk b (by omega) hne).2.trans (h.bel.block b hlt)
  · rcases Nat.lt_or_ge j KL.length with hj | hj
    · rw [List.getElem?_append_left hj] at hk'
      refine (h.els j k' y hk' hy).to (fun b hp hlt => ⟨⟨hp.1, (hblk b hlt hp.2).1⟩, (hblk b hlt hp.2).2⟩) ?_
      have := hg.size
      have := h57.size
      omega
    · rw [List.getElem?_append_right hj] at hk'
      have hj2 : j = KL.length := by
        have := (List.getElem?_eq_some_iff.1 hk').1
        simp only [List.length_singleton] at this
        omega
      rw [hj2, Nat.sub_self] at hk'
      injection hk' with hk'
      subst hk'
      have e : y = x := by
        rw [hj2, h.len, hx] at hy
        injection hy with hy
        exact hy.symm
      subst e
      refine hk.to (fun b hp hlt => ⟨⟨?_, (hnew b hp hlt).1⟩, (hnew b hp hlt).2⟩) ?_
      · have := h5.size
        omega
      · have := hg.size
        have := h7.size
        omega
theorem OwnE.row {TV : TypeId} {B : Nat} {W u u' : World} {v : Value} {l : List ET} {KL : List C10} {B2 : Nat} (h : OwnE TV B W u v l l.length KL) (hl : l.length ≤ maxLen) (hB : B2 ≤ W.heap.size) (hk : ∀ b, b < B ∨ W.heap.size ≤ b → b < u.heap.size → u'.heap[b]? = u.heap[b]?) (hs : u.heap.size ≤ u'.heap.size) :
    SlAt (only u' (fun b => b < B ∨ B2 ≤ b)) u'.heap.size 10 (ExpAt (only u' (fun b => b < B ∨ B2 ≤ b)) u'.heap.size) v l := by
  refine ⟨Nat.le_trans hl maxLen_small, ?_⟩
  rcases h.own.2 with ⟨rfl, h0⟩ | ⟨g, cap, cur, hv, hg, _, _⟩
  · rw [h.len] at h0
    exact ⟨none, 0, by rw [h0], fun h1 => by omega⟩
  · refine ⟨some ⟨g, 0, none⟩, cap, by rw [hv, h.len], fun _ => ?_⟩
    have hown : v.ownBlock = some g := by rw [hv]; rfl
    have hlt := own_lt h.own hown
    refine ⟨g, 0, rfl, by omega, fun i y hy => ?_⟩
    have hi := (List.getElem?_eq_some_iff.1 hy).1
    have hki : KL[i]? = some (KL[i]'(by rw [h.len]; exact hi)) := List.getElem?_eq_getElem _
    refine ⟨_, (KL[i]'(by rw [h.len]; exact hi)).len, fun j c hc => ?_, ?_⟩
    · refine only_cell.2 ⟨?_, ?_⟩
      · show g < B ∨ B2 ≤ g
        omega
      · refine (World.cell?_of_block (a := ⟨g, _, none⟩) (hk g (.inr hg) hlt)).trans ?_
        have := World.ownsRow.cells h.own hown (i * 10 + j) c (flat_at enc10_len KL i _ hki j c hc)
        rw [Addr.add_mid] at this
        rw [show 0 + i * 10 + j = 0 + (i * 10 + j) by omega]; exact this
    · exact (h.els i _ y hki hy).to (fun b hp hb => ⟨hp.1.imp id (fun h => Nat.le_trans hB h), hk b hp.1 hb⟩) hs
theorem wl_push10 {α : Type} {P : Program} {ops : Array Oper} {rest : List Oper} {o : Oper} {a : Act} {w : World} {Q : Exit → Act → World → Prop} (hgd : o.guard = none) (s x : Operand) (t : TypeId) (ho : o.op = .call { callee := .builtin .append, args := #[s, x], argTypes := #[t, t] })
    (base : Nat) (e : TypeId) (i : TypeInfo) (z : Value) (k bytes : Nat) (enc : α → List Value) (ht : P.underlying t = some (.slice e)) (hi : P.info? e = some i) (hz : i.zero = some z)
    (hsize : i.size = k) (hby : i.bytes = bytes) (hzs : z.cells.size = k) (hsz : 0 < k) (hk : ∀ x, (enc x).length = k)
    (v : Value) (l : List α) (hs : a.eval s = v) (hown : OwnSl e k enc w base v l) (nb c : Nat) (y : α) (h1 : ∀ u ∈ enc y, u.oneCell' = true) (hx : a.eval x = .slice (some ⟨nb, 0, none⟩) 1 c)
    (hc : ∀ j u, (enc y)[j]? = some u → w.cell? ⟨nb, j, none⟩ = some u) (h63 : l.length + 1 ≤ maxLen) (hbytes : (l.length + 1) * bytes ≤ 140737488355328) (hbase : base ≤ w.heap.size)
    (h : ∀ v' w', OwnSl e k enc w' base v' (l ++ [y]) → w.grownBy w' v.ownBlock → (v'.ownBlock = v.ownBlock ∨ v'.ownBlock = some w.heap.size) → wpList P ops Q rest (a.put o.dst v') w') : wpList P ops Q (o :: rest) a w := by
  obtain ⟨v', w', hrun, k2, k3, _, k5⟩ := run_append_own_at (P := P) w base t o.type e i z k bytes ht hi hz hsize hby hzs hsz v l.length (flat enc l) hown ⟨nb, 0, none⟩ 1 c (enc y) (by rw [hk]; omega)
    (fun j u hu => by rw [Addr.add_mid, Nat.zero_add]; exact hc j u hu) h1 h63 hbytes hbase
  refine wpList_plain hgd fun _ hK => ?_
  unfold Oper.wp execOp
  simp only [ho, resolve, invoke, builtin, Sem.run_bind, Sem.run_pure, Result.andThen_ok, List.map_toArray, List.map_cons, List.map_nil, hs, hx, hrun]
  exact hK _ _ (h v' w' (by unfold OwnSl; rw [flat_snoc, List.length_append]; exact k2) k3 k5)
theorem info_exprO : (Tryz.prog.info? 30).map (fun i => (i.zero, i.size, i.bytes)) = some (some (.agg #[.int .i64 0, .string ⟨#[]⟩, .int .i64 0, .int .i64 0, .float .f64 0, .string ⟨#[]⟩, .slice none 0 0, .slice none 0 0, .slice none 0 0, .slice none 0 0]), 10, 160) := by kernel_rfl
theorem info_partsE {P : Program} {e : TypeId} {z : Option Value} {s b : Nat} (h : (P.info? e).map (fun i => (i.zero, i.size, i.bytes)) = some (z, s, b)) : ∃ i, P.info? e = some i ∧ i.zero = z ∧ i.size = s ∧ i.bytes = b := by
  cases h2 : P.info? e with
  | none => rw [h2] at h; cases h
  | some i =>
    rw [h2] at h
    injection h with h
    injection h with h3 h4
    injection h4 with h4 h5
    exact ⟨i, rfl, h3, h4, h5⟩
theorem Whole.put {T : TypeId} {w : World} {b : Nat} {cs : List Value} (h : Whole T w b cs) (i : Nat) (v : Value) : Whole T (w.setCell ⟨b, i, none⟩ v) b (cs.set i v) := by
  unfold Whole at h ⊢
  simp [World.setCell, Array.getElem?_modify, h]
theorem put_other (w : World) (b i k : Nat) (v : Value) (h : k ≠ b) : (w.setCell ⟨b, i, none⟩ v).heap[k]? = w.heap[k]? := Below.heap_setCell w ⟨b, i, none⟩ v k h
theorem put_sizeE (w : World) (p : Addr) (v : Value) : (w.setCell p v).heap.size = w.heap.size := by simp [World.setCell]
theorem own_formE {α : Type} {T : TypeId} {k base : Nat} {enc : α → List Value} {w : World} {v : Value} {l : List α} (h : OwnSl T k enc w base v l) : ∃ A c, v = .slice A l.length c := by
  rcases h.2 with ⟨rfl, h2⟩ | ⟨g, cap, cur, rfl, _⟩
  · exact ⟨none, 0, by rw [h2]⟩
  · exact ⟨_, _, rfl⟩
def OwnPost (B : Nat) (t : ET) (w : World) (e : Ending) (w' : World) : Prop := ∃ cs', e = .returned (.agg ⟨cs'⟩) ∧ KeptX (fun b => b < B ∨ w.heap.size ≤ b) w' cs' t ∧ Below w.heap.size w w'
theorem SlAt.cellsB {α : Type} {w w' : World} {B k : Nat} {R R' : List Value → α → Prop} {v : Value} {l : List α} (h : SlAt w B k R v l) (hc : ∀ a v, a.block < B → w.cell? a = some v → w'.cell? a = some v) (hR : ∀ cs x, x ∈ l → R cs x → R' cs x) : SlAt w' B k R' v l := by
  obtain ⟨h0, A, c, rfl, h1⟩ := h
  refine ⟨h0, A, c, rfl, fun hp => ?_⟩
  obtain ⟨b, o, rfl, hlt, h2⟩ := h1 hp
  refine ⟨b, o, rfl, hlt, fun i x hx => ?_⟩
  obtain ⟨cs, h3, h4, h5⟩ := h2 i x hx
  exact ⟨cs, h3, fun j u hu => hc _ _ hlt (h4 j u hu), hR cs x (List.mem_of_getElem? hx) h5⟩
theorem ValAt.cellsB {w w' : World} {B : Nat} {cs : List Value} {t : VT} (h : ValAt w B cs t) (hc : ∀ a v, a.block < B → w.cell? a = some v → w'.cell? a = some v) : ValAt w' B cs t := by
  induction h with
  | mk b o css hk hn hf hs hns hl hA hcc hi ih =>
    exact .mk b o css hk hn hf hs (hns.cellsB hc fun _ _ _ h => h) hl hA (fun i h => ⟨(hcc i h).1, fun j u hu => hc _ _ (hA (by omega)).2 ((hcc i h).2 j u hu)⟩) ih
structure TwoB (w W : World) (p q m : Nat) (cs : List Value) : Prop where
  wa : Whole 30 W p cs
  wb : ∃ z, z.length = 10 ∧ Whole 30 W q z
  bel : Below w.heap.size w W
  wp : w.heap.size ≤ p
  wq : w.heap.size ≤ q
  ne : p ≠ q
  pm : p < m
  qm : q < m
  mw : m ≤ W.heap.size
section
variable {w W W' : World} {p q m : Nat} {cs : List Value}
theorem TwoB.below (h : TwoB w W p q m cs) (hb : Below W.heap.size W W') : TwoB w W' p q m cs :=
  ⟨h.wa.keep (hb.block p (Nat.lt_of_lt_of_le h.pm h.mw)), by obtain ⟨z, hz, h2⟩ := h.wb; exact ⟨z, hz, h2.keep (hb.block q (Nat.lt_of_lt_of_le h.qm h.mw))⟩, h.bel.trans (hb.mono h.bel.size), h.wp, h.wq, h.ne, h.pm, h.qm, Nat.le_trans h.mw hb.size⟩
theorem TwoB.put (h : TwoB w W p q m cs) (i : Nat) (v : Value) : TwoB w (W.setCell ⟨p, i, none⟩ v) p q m (cs.set i v) :=
  ⟨h.wa.put i v, by obtain ⟨z, hz, h2⟩ := h.wb; exact ⟨z, hz, h2.keep (put_other W p i q v h.ne.symm)⟩, below_sets (vs := [v]) h.bel h.wp i, h.wp, h.wq, h.ne, h.pm, h.qm, by rw [put_sizeE]; exact h.mw⟩
theorem Whole.fz {T : TypeId} {b : Nat} (h : Whole T W b cs) (i : Nat) : W.frozen? ⟨b, i, none⟩ = false := by
  unfold World.frozen?
  have h2 : W.heap[b]? = some (.cells ⟨cs⟩ T (0, 0)) := h
  simp [h2]
theorem Whole.at {T : TypeId} {b : Nat} (h : Whole T W b cs) (k : Nat) {v : Value} (hv : cs[k]? = some v) : W.cell? ⟨b, k, none⟩ = some v := by
  have := h.range k v hv
  rwa [Nat.zero_add] at this
end
theorem twoB_start (w : World) (cs z : List Value) (hz : z.length = 10) : TwoB w ((w.alloc (.cells ⟨cs⟩ 30)).alloc (.cells ⟨z⟩ 30)) w.heap.size (w.heap.size + 1) (w.heap.size + 2) cs := by
  have h1 := Whole.new w cs 30
  have h2 := box_below w (.cells ⟨cs⟩ 30)
  have hs : (w.alloc (.cells ⟨cs⟩ 30)).heap.size = w.heap.size + 1 := by simp
  generalize w.alloc (.cells ⟨cs⟩ 30) = W1 at *
  have h3 := Whole.new W1 z 30
  have h4 := box_below W1 (.cells ⟨z⟩ 30)
  have h5 : (W1.alloc (.cells ⟨z⟩ 30)).heap.size = W1.heap.size + 1 := by simp
  rw [hs] at h3
  exact ⟨h1.keep (h4.block _ (by omega)), ⟨z, hz, h3⟩, h2.trans (h4.mono (by omega)), Nat.le_refl _, by omega, by omega, by omega, by omega, by omega⟩
theorem own_end {w W3 u u' : World} {B m : Nat} {k : Int} {s : ByteArray} {v : VT} {ns : List ByteArray} {l : List ET} {v0 v1 v2 v3 v4 v5 vn vi : Value} {KL : List C10} {W2 : World} (hk : wfI k) (hs : s.size ≤ maxLen) (hvv : ValAt w B [v0, v1, v2, v3, v4, v5] v) (hl : l.length ≤ maxLen) (hB : B ≤ w.heap.size)
    (hm : m ≤ W2.heap.size) (h23 : W2.heap.size ≤ W3.heap.size) (hns : KeptS (fun b => W2.heap.size ≤ b) W3 vn ns) (hI : OwnE 30 B W3 u vi l l.length KL) (hbel : Below w.heap.size w u')
    (hu : ∀ b, b < u.heap.size → b < B ∨ m ≤ b → u'.heap[b]? = u.heap[b]?) (hsz : u.heap.size ≤ u'.heap.size) (hwm : w.heap.size ≤ m) :
    KeptX (fun b => b < B ∨ w.heap.size ≤ b) u' [.int .i64 k, .string s, v0, v1, v2, v3, v4, v5, vn, vi] (.mk k s v ns l) := by
  have h3 := hI.bel
  refine ExpAt.of hk hs ?_ (hns.to (fun b hp hb => ⟨by right; omega, ?_⟩) ?_) hl (hI.row hl (by omega) (fun b hp hb => hu b hb (hp.imp id (by omega))) hsz)
  · refine (ValAt.cellsB hvv fun a v ha hv => only_cell.2 ⟨.inl ha, ?_⟩).more (Nat.le_trans hB hbel.size)
    exact (hbel.cell (by omega)).trans hv
  · have h4 := h3.size
    rw [hu b (by omega) (by right; omega)]
    exact h3.block b hb
  · have := h3.size
    omega
set_option maxHeartbeats 8000000 in
set_option maxRecDepth 100000 in
theorem iown_any : ∀ (t : ET) (B : Nat) (cs : List Value) (w : World), FitE t → B ≤ w.heap.size → ExpAt w B cs t → Calls Tryz.prog 48 #[.agg ⟨cs⟩] w (OwnPost B t w) := by
  intro t
  induction t using ET.ind with
  | h k s v ns its ih =>
    intro B cs w hfit hB hv
    obtain ⟨v0, v1, v2, v3, v4, v5, vn0, vi0, rfl, hk, hs, hvv, hns, hil, hi⟩ := hv.inv
    obtain ⟨hft1, hft2, hft3⟩ := hfit.inv
    obtain ⟨-, A, c, rfl, hA⟩ := hi
    obtain ⟨-, NA, nc, rfl, -⟩ := id hns
    have HA := Lib.hid hA
    have HNS := Lib.hid (hns.more hB)
    have HW := Lib.hid (And.intro hk (And.intro hs (And.intro hvv hil)))
    have HFN := Lib.hid hft1
    have HBW := Lib.hid hB
    have IH : Hid (∀ x ∈ its, ∀ cs w, B ≤ w.heap.size → ExpAt w B cs x → Calls Tryz.prog 48 #[.agg ⟨cs⟩] w (OwnPost B x w)) := Lib.hid fun x hx cs w h1 h => ih x hx B cs w (hft3 x hx) h1 h
    have HB88 : Hid (its.length * 160 ≤ 140737488351232) := Lib.hid hft2
    have HLN : Hid (its.length ≤ 9223372036854775807) := Lib.hid (Nat.le_trans hil maxLen_small)
    have HONV : Hid (∀ u ∈ [v0, v1, v2, v3, v4, v5], u.oneCell' = true) := Lib.hid hvv.one
    clear hA hv ih hfit hft1 hft2 hft3 hns hk hs hil hvv hB
    go_enter Tryz.func48, Tryz.ntmps48
    go_upto_region 1 with (fail)
    have HST := Lib.hid (twoB_start w [.int .i64 k, .string s, v0, v1, v2, v3, v4, v5, .slice NA ns.length nc, .slice A its.length c] [.int .i64 0, .string ⟨#[]⟩, .int .i64 0, .int .i64 0, .float .f64 0, .string ⟨#[]⟩, .slice none 0 0, .slice none 0 0, .slice none 0 0, .slice none 0 0] rfl)
    generalize ((w.alloc (.cells ⟨[.int .i64 k, .string s, v0, v1, v2, v3, v4, v5, .slice NA ns.length nc, .slice A its.length c]⟩ 30)).alloc (.cells ⟨[.int .i64 0, .string ⟨#[]⟩, .int .i64 0, .int .i64 0, .float .f64 0, .string ⟨#[]⟩, .slice none 0 0, .slice none 0 0, .slice none 0 0, .slice none 0 0]⟩ 30)) = W at *
    have HM : Hid (w.heap.size ≤ w.heap.size + 2) := Lib.hid (by omega)
    obtain ⟨m, hm⟩ : ∃ m, w.heap.size + 2 = m := ⟨_, rfl⟩
    obtain ⟨q, hq⟩ : ∃ q, w.heap.size + 1 = q := ⟨_, rfl⟩
    obtain ⟨p, hp⟩ : ∃ p, w.heap.size = p := ⟨_, rfl⟩
    rw [hm, hq] at HST
    rw [hm] at HM
    have HST' : Hid (TwoB w W p q m [.int .i64 k, .string s, v0, v1, v2, v3, v4, v5, .slice NA ns.length nc, .slice A its.length c]) := Lib.hid (hp ▸ HST.out)
    rw [hq, hp]
    clear HST hq hm hp
    have d8 : W.cell? ⟨p, 8, none⟩ = some (.slice NA ns.length nc) := HST'.out.wa.at 8 rfl
    have HCN := Lib.hid (clone_names W (.slice NA ns.length nc) ns ((HNS.out.below HST'.out.bel fun _ _ _ h => h).more HST'.out.bel.size) HFN.out)
    go_upto_region 2 with (go_at_call 49; refine HCN.out.mono ?_; rintro e z ⟨v', rfl, hb, hk⟩; obtain ⟨-, NA2, nc2, rfl, -⟩ := id hk; have HST3 := Lib.hid (HST'.out.below hb); have HKN := Lib.hid hk; have HBZ := Lib.hid hb; have e8 : z.cell? ⟨p, 8, none⟩ = some (.slice NA ns.length nc) := HST3.out.wa.at 8 rfl; have f8 : z.frozen? ⟨p, 8, none⟩ = false := HST3.out.wa.fz 8; clear hk hb)
    have HST4 : Hid (TwoB w (z.setCell ⟨p, 8, none⟩ (.slice NA2 ns.length nc2)) p q m [.int .i64 k, .string s, v0, v1, v2, v3, v4, v5, .slice NA2 ns.length nc2, .slice A its.length c]) := Lib.hid (HST3.out.put 8 (.slice NA2 ns.length nc2))
    have HK3 : Hid (KeptS (fun b => W.heap.size ≤ b) (z.setCell ⟨p, 8, none⟩ (.slice NA2 ns.length nc2)) (.slice NA2 ns.length nc2) ns) := Lib.hid (HKN.out.to (fun b hb hlt => ⟨hb, put_other z p 8 b _ (by
      have h1 := HST'.out.mw
      have h2 := HST'.out.pm
      show b ≠ p
      omega)⟩) (by rw [put_sizeE]; exact Nat.le_refl _))
    have HSZ3 : Hid (W.heap.size ≤ (z.setCell ⟨p, 8, none⟩ (.slice NA2 ns.length nc2)).heap.size) := Lib.hid (by rw [put_sizeE]; exact HBZ.out.size)
    have HM2 : Hid (m ≤ W.heap.size) := Lib.hid HST'.out.mw
    clear HST3 HKN HBZ e8 f8 HCN HNS HFN d8 HST'
    generalize z.setCell ⟨p, 8, none⟩ (.slice NA2 ns.length nc2) = W3 at *
    have d9 : W3.cell? ⟨p, 9, none⟩ = some (.slice A its.length c) := HST4.out.wa.at 9 rfl
    have HB3 : Hid (B ≤ W3.heap.size) := Lib.hid (Nat.le_trans HBW.out HST4.out.bel.size)
    go_upto_region 4 with (fail)
    clear d9
    go_loopg [3, 13] its.length (fun g v i u => ∃ (j : Nat) (KL : List C10), j + g = its.length ∧ i = .int .i64 j ∧ OwnE 30 B W3 u v its j KL)
    case atStart => exact ⟨0, [], by omega, rfl, OwnE.start _ _ _ HB3.out⟩
    case round =>
      obtain ⟨j, KL, hj, rfl, hI⟩ := hrel
      have HI := Lib.hid hI
      clear hI
      obtain ⟨UA, uc, rfl⟩ := own_formE HI.out.own
      have HST5 := Lib.hid (HST4.out.below HI.out.bel)
      cases gk with
      | zero =>
        have hge : ¬ ((j : Int) < (its.length : Int)) := by omega
        obtain rfl : j = its.length := by omega
        have g9 : wr.cell? ⟨p, 9, none⟩ = some (.slice A its.length c) := HST5.out.wa.at 9 rfl
        have f9 : wr.frozen? ⟨p, 9, none⟩ = false := HST5.out.wa.fz 9
        go_upto_region 9 with (fail)
        have HST6 : Hid (TwoB w (wr.setCell ⟨p, 9, none⟩ (.slice UA KL.length uc)) p q m [.int .i64 k, .string s, v0, v1, v2, v3, v4, v5, .slice NA2 ns.length nc2, .slice UA KL.length uc]) := Lib.hid (HST5.out.put 9 (.slice UA KL.length uc))
        have HP : Hid (∀ b, b < B ∨ m ≤ b → (wr.setCell ⟨p, 9, none⟩ (.slice UA KL.length uc)).heap[b]? = wr.heap[b]?) := Lib.hid fun b hb => put_other wr p 9 b _ (by
          have := HST5.out.pm
          have := HST5.out.wp
          have := HBW.out
          show b ≠ p
          omega)
        have HPS : Hid ((wr.setCell ⟨p, 9, none⟩ (.slice UA KL.length uc)).heap.size = wr.heap.size) := Lib.hid (put_sizeE _ _ _)
        clear g9 f9
        generalize wr.setCell ⟨p, 9, none⟩ (.slice UA KL.length uc) = W9 at *
        have HR9 : Hid (W9.rangeAt p 0 [.int .i64 k, .string s, v0, v1, v2, v3, v4, v5, .slice NA2 ns.length nc2, .slice UA KL.length uc]) := Lib.hid HST6.out.wa.range
        obtain ⟨z0, hz0, hz1⟩ := HST6.out.wb
        have HZ0 := Lib.hid (And.intro hz0 hz1)
        have HON : Hid (∀ v ∈ [.int .i64 k, .string s, v0, v1, v2, v3, v4, v5, .slice NA2 ns.length nc2, .slice UA KL.length uc], v.oneCell' = true) := Lib.hid (by
          intro u hu
          simp only [List.mem_cons, List.not_mem_nil, or_false] at hu
          rcases hu with rfl | rfl | h | h | h | h | h | h | rfl | rfl
          · rfl
          · rfl
          · exact HONV.out u (by rw [h]; simp)
          · exact HONV.out u (by rw [h]; simp)
          · exact HONV.out u (by rw [h]; simp)
          · exact HONV.out u (by rw [h]; simp)
          · exact HONV.out u (by rw [h]; simp)
          · exact HONV.out u (by rw [h]; simp)
          · rfl
          · rfl)
        clear hz0 hz1
        go_wp2_with (first | ((with_reducible refine wl_sload 30 _ rfl ?hwp p 0 [.int .i64 k, .string s, v0, v1, v2, v3, v4, v5, .slice NA2 ns.length nc2, .slice UA KL.length uc] _ rfl HR9.out Tryz.underlying30 rfl ?hip ?_); (case hwp => (first | exact wanted_none rfl | exact wanted_if rfl rfl rfl rfl)); (case hip => kernel_rfl)) | ((with_reducible refine wl_wstore 30 _ _ rfl rfl ?hwh q z0 [.int .i64 k, .string s, v0, v1, v2, v3, v4, v5, .slice NA2 ns.length nc2, .slice UA KL.length uc] HZ0.out.2 ?hlh ?hxh ?hyh ?hih ?h1h ?_); (case hwh => (first | exact wanted_none rfl | exact wanted_if rfl rfl rfl rfl)); (case hlh => rw [HZ0.out.1]; rfl); (case hxh => rfl); (case hyh => rfl); (case hih => kernel_rfl); (case h1h => exact HON.out); intro Z hZw hZb; have HZW := Lib.hid hZw; have HZB := Lib.hid hZb; clear hZw hZb))
        (try simp only [Exit.inBlock, Exit.then])
        refine bodyPost_ret (results_exp rfl _ _ q [.int .i64 k, .string s, v0, v1, v2, v3, v4, v5, .slice NA2 ns.length nc2, .slice UA KL.length uc] rfl rfl HZW.out) rfl ?_
        have hbel : Below w.heap.size w Z := ⟨HZB.out.os.trans HST6.out.bel.os, HZB.out.tape.trans HST6.out.bel.tape, HZB.out.output.trans HST6.out.bel.output, Nat.le_trans HST6.out.bel.size HZB.out.size, fun b hb => (HZB.out.block b (by have := HST6.out.bel.size; omega) (by have := HST6.out.wq; omega) (by have := HST6.out.wq; omega)).trans (HST6.out.bel.block b hb)⟩
        refine ⟨_, rfl, own_end HW.out.1 HW.out.2.1 HW.out.2.2.1 HW.out.2.2.2 HBW.out HM2.out HSZ3.out HK3.out HI.out hbel (fun b hlt hb => ?_) (by rw [← HPS.out]; exact HZB.out.size) HM.out, hbel⟩
        have hq : b ≠ q := by
          have h1 := HST6.out.qm
          have h2 := HST6.out.wq
          have h3 := HBW.out
          omega
        rw [HZB.out.block b (by rw [HPS.out]; exact hlt) hq hq]
        exact HP.out b hb
      | succ g =>
        have hlt : (j : Int) < (its.length : Int) := by omega
        have hln : its.length ≤ 9223372036854775807 := HLN.out
        obtain ⟨y, hy⟩ : ∃ y, its[j]? = some y := ⟨_, List.getElem?_eq_getElem (by omega)⟩
        obtain ⟨b, o, rfl, hbb, hc⟩ := HA.out (by omega)
        obtain ⟨ks, hkl, hr, hR⟩ := hc j y hy
        have HBw : Hid (Below B w wr) := Lib.hid (HST5.out.bel.mono HBW.out)
        have HR := Lib.hid (rangeAt_below hr HBw.out hbb)
        have HKL := Lib.hid hkl
        have HY := Lib.hid hy
        have HONE := Lib.hid hR.one
        have HV := Lib.hid (hR.under HBw.out)
        clear hc hr hR hy hkl
        go_upto_region 6 with (first | ((with_reducible refine wl_sload 30 _ rfl ?hwa b (o + j * 10) ks _ rfl HR.out Tryz.underlying30 rfl ?hia ?_); (case hwa => (first | exact wanted_none rfl | exact wanted_if rfl rfl rfl rfl)); (case hia => rw [HKL.out]; kernel_rfl)) | ((with_reducible refine wl_sbox 30 _ _ rfl ?hwx wr ?z ks ?hwld ?hz ?hx ?hy ?hi ?h1 ?_); (case hwld => rfl); (case hx => rfl); (case hy => rfl); (case hwx => (first | exact wanted_none rfl | exact wanted_if rfl rfl rfl rfl)); (case hz => rw [HKL.out]; rfl); (case hi => rw [HKL.out]; kernel_rfl); (case h1 => exact HONE.out); intro Z hZ; have HX := Lib.hid hZ; clear hZ))
        have HBZ : Hid (B ≤ wr.heap.size) := Lib.hid (Nat.le_trans HBW.out HST5.out.bel.size)
        have HIY := Lib.hid (IH.out y (List.mem_of_getElem? HY.out) ks Z (Nat.le_trans HBZ.out HX.out.below.size) (HV.out.under (HX.out.below.mono HBZ.out)))
        have HRZ := Lib.hid HX.out.range
        obtain ⟨j0, hi, hz0, hz1, hz2⟩ := info_partsE info_exprO
        have HJ0 := Lib.hid hi
        have HY0 := Lib.hid hz0
        have HY1 := Lib.hid hz1
        have HY2 := Lib.hid hz2
        clear hi hz0 hz1 hz2
        go_wp2_with (first | ((with_reducible refine wl_sload 30 _ rfl ?hwb wr.heap.size 0 ks _ rfl HRZ.out Tryz.underlying30 rfl ?hib ?_); (case hwb => (first | exact wanted_none rfl | exact wanted_if rfl rfl rfl rfl)); (case hib => rw [HKL.out]; kernel_rfl)) | (go_at_call 48; fail))
        refine HIY.out.mono ?_
        rintro e u6 ⟨cs', rfl, hk6, hb6⟩
        have HK6 := Lib.hid hk6
        have HB6 := Lib.hid hb6
        have HL6 := Lib.hid (eslen hk6.exp)
        have HO6 := Lib.hid hk6.exp.one
        clear hk6 hb6 HIY HRZ HR
        have HC7 : Hid (∀ i u, (enc10 ⟨cs', HL6.out⟩)[i]? = some u → (u6.alloc (.cells ⟨cs'⟩ 30)).cell? ⟨u6.heap.size, i, none⟩ = some u) := Lib.hid (cells_box u6 cs' 30)
        have HB7 := Lib.hid (box_below u6 (.cells ⟨cs'⟩ 30))
        have HS7 : Hid (W3.heap.size ≤ (u6.alloc (.cells ⟨cs'⟩ 30)).heap.size) := Lib.hid (Nat.le_trans HI.out.bel.size (Nat.le_trans HX.out.below.size (Nat.le_trans HB6.out.size HB7.out.size)))
        have HOW : Hid (OwnSl 30 10 enc10 (u6.alloc (.cells ⟨cs'⟩ 30)) W3.heap.size (.slice UA KL.length uc) KL) := Lib.hid (HI.out.own.below (HX.out.below.trans ((HB6.out.trans (HB7.out.mono HB6.out.size)).mono HX.out.below.size)))
        have HM63 : Hid (KL.length + 1 ≤ maxLen) := Lib.hid (by have := HI.out.len; have := HB88.out; unfold maxLen; omega)
        have HM88 : Hid ((KL.length + 1) * 160 ≤ 140737488355328) := Lib.hid (by have := HI.out.len; have := HB88.out; omega)
        go_wp2_with (first | ((with_reducible refine wl_build1 28 _ rfl ?hw3 30 j0 _ cs' ?hx3 Tryz.underlying28 HJ0.out HY0.out ?hs3 ?h03 ?hm3 ?_); (case hw3 => (first | exact wanted_none rfl | exact wanted_if rfl rfl rfl rfl)); (case hx3 => rfl); (case hs3 => rw [HL6.out, HY1.out]); (case h03 => rw [HL6.out]; decide); (case hm3 => rw [HL6.out]; decide)) | (at_builtin; refine wl_push10 rfl _ _ 28 rfl W3.heap.size 30 j0 _ 10 160 enc10 Tryz.underlying28 HJ0.out HY0.out HY1.out HY2.out rfl (by decide) enc10_len _ KL rfl HOW.out u6.heap.size 1 ⟨cs', HL6.out⟩ HO6.out rfl HC7.out HM63.out HM88.out HS7.out ?_; intro v' u8 hown8 hg8 hb8; have HN := Lib.hid (HI.out.next HX.out.below HB6.out HB7.out HY.out HK6.out hown8 hg8 hb8); clear hown8 hg8 hb8))
        go_roundg g
        case measure => omega
        case rel => exact ⟨j + 1, _, by omega, by go_num, HN.out⟩
end Go.Proofs.YtppmkehdhpgdcaaGreat
end
section
namespace Go.Proofs.YtppmkehdhpgdcaaGreat
open Go Go.RowKit
set_option linter.unusedVariables false
set_option linter.unusedSimpArgs false
mutual
def replE (nm : ByteArray) (y : ET) : ET → ET
  | .mk k s v ns its => if k = 2 ∧ (s.toList == nm.toList) = true then y else .mk k s v ns (replEL nm y its)
def replEL (nm : ByteArray) (y : ET) : List ET → List ET
  | [] => []
  | a :: l => replE nm y a :: replEL nm y l
end
theorem replEL_map (nm : ByteArray) (y : ET) : ∀ l : List ET, replEL nm y l = l.map (replE nm y)
  | [] => by rw [replEL]; rfl
  | a :: l => by rw [replEL, replEL_map nm y l]; rfl
theorem replEL_len (nm : ByteArray) (y : ET) (l : List ET) : (replEL nm y l).length = l.length := by rw [replEL_map, List.length_map]
theorem replEL_at {nm : ByteArray} {y : ET} {l : List ET} {i : Nat} {x : ET} (h : l[i]? = some x) : (replEL nm y l)[i]? = some (replE nm y x) := by rw [replEL_map, List.getElem?_map, h]; rfl
theorem repl_end {w W u z u' : World} {B m : Nat} {k : Int} {s : ByteArray} {v : VT} {ns : List ByteArray} {l : List ET} {v0 v1 v2 v3 v4 v5 vn vi : Value} {KL : List C10} (hk : wfI k) (hs : s.size ≤ maxLen) (hvv : ValAt w B [v0, v1, v2, v3, v4, v5] v) (hl : l.length ≤ maxLen) (hB : B ≤ w.heap.size)
    (hm : m ≤ W.heap.size) (hns : KeptS (fun b => u.heap.size ≤ b) z vn ns) (hI : OwnE 30 B W u vi l l.length KL) (hz : Below u.heap.size u z) (hbel : Below w.heap.size w u')
    (hu : ∀ b, b < z.heap.size → b < B ∨ m ≤ b → u'.heap[b]? = z.heap[b]?) (hsz : z.heap.size ≤ u'.heap.size) (hwm : w.heap.size ≤ m) :
    KeptX (fun b => b < B ∨ w.heap.size ≤ b) u' [.int .i64 k, .string s, v0, v1, v2, v3, v4, v5, vn, vi] (.mk k s v ns l) := by
  have h3 := hI.bel
  have h4 := h3.size
  have h5 := hz.size
  refine ExpAt.of hk hs ?_ (hns.to (fun b hp hb => ⟨by right; omega, hu b hb (by right; omega)⟩) hsz) hl (hI.row hl (by omega) (fun b hp hb => ?_) (by omega))
  · refine (ValAt.cellsB hvv fun a v ha hv => only_cell.2 ⟨.inl ha, ?_⟩).more (Nat.le_trans hB hbel.size)
    exact (hbel.cell (by omega)).trans hv
  · exact (hu b (by omega) (hp.imp id (by omega))).trans (hz.block b hb)
theorem threeB_start (w : World) (cs ca z : List Value) (hz : z.length = 10) : TwoB w (((w.alloc (.cells ⟨cs⟩ 30)).alloc (.cells ⟨ca⟩ 30)).alloc (.cells ⟨z⟩ 30)) w.heap.size (w.heap.size + 1 + 1) (w.heap.size + 3) cs ∧
    Whole 30 (((w.alloc (.cells ⟨cs⟩ 30)).alloc (.cells ⟨ca⟩ 30)).alloc (.cells ⟨z⟩ 30)) (w.heap.size + 1) ca := by
  have h1 := Whole.new w cs 30
  have h2 := box_below w (.cells ⟨cs⟩ 30)
  have hs : (w.alloc (.cells ⟨cs⟩ 30)).heap.size = w.heap.size + 1 := by simp
  generalize w.alloc (.cells ⟨cs⟩ 30) = W1 at *
  have h3 := Whole.new W1 ca 30
  have h4 := box_below W1 (.cells ⟨ca⟩ 30)
  have h5 : (W1.alloc (.cells ⟨ca⟩ 30)).heap.size = W1.heap.size + 1 := by simp
  rw [hs] at h3
  generalize W1.alloc (.cells ⟨ca⟩ 30) = W2 at *
  have h6 := Whole.new W2 z 30
  have h7 := box_below W2 (.cells ⟨z⟩ 30)
  have h8 : (W2.alloc (.cells ⟨z⟩ 30)).heap.size = W2.heap.size + 1 := by simp
  rw [show W2.heap.size = w.heap.size + 1 + 1 by omega] at h6
  exact ⟨⟨(h1.keep (h4.block _ (by omega))).keep (h7.block _ (by omega)), ⟨z, hz, h6⟩, (h2.trans (h4.mono (by omega))).trans (h7.mono (by omega)), Nat.le_refl _, by omega, by omega, by omega, by omega, by omega⟩, h3.keep (h7.block _ (by omega))⟩
set_option maxHeartbeats 8000000 in
set_option maxRecDepth 100000 in
theorem ireplace_any (nm : ByteArray) (ty : ET) (hfy : FitE ty) : ∀ (t : ET) (B : Nat) (cs ca : List Value) (w : World), FitE t → B ≤ w.heap.size → ExpAt w B cs t → ExpAt w B ca ty →
    Calls Tryz.prog 22 #[.agg ⟨cs⟩, .string nm, .agg ⟨ca⟩] w (OwnPost B (replE nm ty t) w) := by
  have HFY := Lib.hid hfy
  clear hfy
  intro t
  induction t using ET.ind with
  | h k s v ns its ih =>
    intro B cs ca w hfit hB hv hy
    obtain ⟨v0, v1, v2, v3, v4, v5, vn0, vi0, rfl, hk, hs, hvv, hns, hil, hi⟩ := hv.inv
    obtain ⟨hft1, hft2, hft3⟩ := hfit.inv
    obtain ⟨-, A, c, rfl, hA⟩ := hi
    obtain ⟨-, NA, nc, rfl, -⟩ := id hns
    have HA := Lib.hid hA
    have HNS := Lib.hid (hns.more hB)
    have HW := Lib.hid (And.intro hk (And.intro hs (And.intro hvv hil)))
    have HFN := Lib.hid hft1
    have HBW := Lib.hid hB
    have HYA := Lib.hid hy
    have HCA := Lib.hid (eslen hy)
    have IH : Hid (∀ x ∈ its, ∀ cs ca w, B ≤ w.heap.size → ExpAt w B cs x → ExpAt w B ca ty → Calls Tryz.prog 22 #[.agg ⟨cs⟩, .string nm, .agg ⟨ca⟩] w (OwnPost B (replE nm ty x) w)) := Lib.hid fun x hx cs ca w h1 h h2 => ih x hx B cs ca w (hft3 x hx) h1 h h2
    have HB88 : Hid (its.length * 160 ≤ 140737488351232) := Lib.hid hft2
    have HLN : Hid (its.length ≤ 9223372036854775807) := Lib.hid (Nat.le_trans hil maxLen_small)
    have HONV : Hid (∀ u ∈ [v0, v1, v2, v3, v4, v5], u.oneCell' = true) := Lib.hid hvv.one
    obtain ⟨R, hR⟩ : ∃ R, replE nm ty (.mk k s v ns its) = R := ⟨_, rfl⟩
    have HR0 : Hid (R = if k = 2 ∧ (s.toList == nm.toList) = true then ty else .mk k s v ns (replEL nm ty its)) := Lib.hid (by rw [← hR, replE])
    rw [hR]
    clear hA hv ih hfit hft1 hft2 hft3 hns hk hs hil hvv hB hy hR
    go_enter Tryz.func22, Tryz.ntmps22
    go_upto_region 1 with (fail)
    have HST := Lib.hid (threeB_start w [.int .i64 k, .string s, v0, v1, v2, v3, v4, v5, .slice NA ns.length nc, .slice A its.length c] ca [.int .i64 0, .string ⟨#[]⟩, .int .i64 0, .int .i64 0, .float .f64 0, .string ⟨#[]⟩, .slice none 0 0, .slice none 0 0, .slice none 0 0, .slice none 0 0] rfl)
    generalize (((w.alloc (.cells ⟨[.int .i64 k, .string s, v0, v1, v2, v3, v4, v5, .slice NA ns.length nc, .slice A its.length c]⟩ 30)).alloc (.cells ⟨ca⟩ 30)).alloc (.cells ⟨[.int .i64 0, .string ⟨#[]⟩, .int .i64 0, .int .i64 0, .float .f64 0, .string ⟨#[]⟩, .slice none 0 0, .slice none 0 0, .slice none 0 0, .slice none 0 0]⟩ 30)) = W at *
    have HM : Hid (w.heap.size ≤ w.heap.size + 3) := Lib.hid (by omega)
    have HPM : Hid (w.heap.size + 1 < w.heap.size + 3 ∧ w.heap.size + 1 ≠ w.heap.size) := Lib.hid (by omega)
    obtain ⟨m, hm⟩ : ∃ m, w.heap.size + 3 = m := ⟨_, rfl⟩
    obtain ⟨q, hq⟩ : ∃ q, w.heap.size + 1 + 1 = q := ⟨_, rfl⟩
    obtain ⟨p2, hp2⟩ : ∃ q, w.heap.size + 1 = q := ⟨_, rfl⟩
    obtain ⟨p, hp⟩ : ∃ p, w.heap.size = p := ⟨_, rfl⟩
    rw [hm, hq, hp2] at HST
    rw [hm] at HM
    rw [hm, hp2] at HPM
    have HST' : Hid (TwoB w W p q m [.int .i64 k, .string s, v0, v1, v2, v3, v4, v5, .slice NA ns.length nc, .slice A its.length c]) := Lib.hid (hp ▸ HST.out.1)
    have HWY : Hid (Whole 30 W p2 ca) := Lib.hid HST.out.2
    have HP2 : Hid (p2 < m ∧ p2 ≠ p) := Lib.hid ⟨HPM.out.1, hp ▸ HPM.out.2⟩
    rw [hq, hp2, hp]
    clear HST hq hm hp hp2 HPM
    have d0 : W.cell? ⟨p, 0, none⟩ = some (.int .i64 k) := HST'.out.wa.at 0 rfl
    have d1 : W.cell? ⟨p, 1, none⟩ = some (.string s) := HST'.out.wa.at 1 rfl
    obtain ⟨bm, hbm⟩ : ∃ b, (decide (k = 2) && (s.toList == nm.toList)) = b := ⟨_, rfl⟩
    have HBM := Lib.hid hbm
    clear hbm
    go_cut [18] (fun v z => v = .bool bm ∧ z = W)
    case first =>
      by_cases hk2 : k = 2
      · subst hk2
        have HV : Hid (bm = (s.toList == nm.toList)) := Lib.hid (by rw [← HBM.out]; rfl)
        go_wp2
        go_meet
        case rel => exact ⟨by rw [HV.out], rfl⟩
      · have hk2b : (k == 2) = false := by simpa using hk2
        have HV : Hid (bm = false) := Lib.hid (by rw [← HBM.out, decide_eq_false hk2]; rfl)
        clear hk2
        go_wp2
        go_meet
        case rel => exact ⟨by rw [HV.out], rfl⟩
    case rest =>
    obtain ⟨rfl, rfl⟩ := hcut
    clear d0 d1
    have HMW : Hid (m ≤ wc.heap.size) := Lib.hid HST'.out.mw
    have HPP : Hid (q < m ∧ w.heap.size ≤ q) := Lib.hid ⟨HST'.out.qm, HST'.out.wq⟩
    cases bm with
    | true =>
      have HRT : Hid (R = ty) := Lib.hid (by have h := HBM.out; rw [Bool.and_eq_true] at h; rw [HR0.out, if_pos ⟨of_decide_eq_true h.1, h.2⟩])
      have HRY := Lib.hid HWY.out.range
      have HCO := Lib.hid (iown_any ty B ca wc HFY.out (Nat.le_trans HBW.out HST'.out.bel.size) (HYA.out.under (HST'.out.bel.mono HBW.out)))
      go_wp2_with (first | ((with_reducible refine wl_sload 30 _ rfl ?hwy p2 0 ca _ rfl HRY.out Tryz.underlying30 rfl ?hiy ?_); (case hwy => (first | exact wanted_none rfl | exact wanted_if rfl rfl rfl rfl)); (case hiy => rw [HCA.out]; kernel_rfl)) | (go_at_call 48; fail))
      refine HCO.out.mono ?_
      rintro e u6 ⟨cs', rfl, hk6, hb6⟩
      have HK6 := Lib.hid hk6
      have HB6 := Lib.hid hb6
      have HL6 := Lib.hid (eslen hk6.exp)
      have HON : Hid (∀ v ∈ cs', v.oneCell' = true) := Lib.hid hk6.exp.one
      clear hk6 hb6 HCO
      have HST6 := Lib.hid (HST'.out.below HB6.out)
      obtain ⟨z0, hz0, hz1⟩ := HST6.out.wb
      have HZ0 := Lib.hid (And.intro hz0 hz1)
      clear hz0 hz1
      go_wp2_with ((with_reducible refine wl_wstore 30 _ _ rfl rfl ?hwh q z0 cs' HZ0.out.2 ?hlh ?hxh ?hyh ?hih ?h1h ?_); (case hwh => (first | exact wanted_none rfl | exact wanted_if rfl rfl rfl rfl)); (case hlh => rw [HZ0.out.1, HL6.out]); (case hxh => rfl); (case hyh => rfl); (case hih => rw [HL6.out]; kernel_rfl); (case h1h => exact HON.out); intro Z hZw hZb; have HZW := Lib.hid hZw; have HZB := Lib.hid hZb; clear hZw hZb)
      (try simp only [Exit.inBlock, Exit.then])
      refine bodyPost_ret (results_exp rfl _ _ q cs' HL6.out rfl HZW.out) rfl ?_
      have hbel : Below w.heap.size w Z := ⟨HZB.out.os.trans HST6.out.bel.os, HZB.out.tape.trans HST6.out.bel.tape, HZB.out.output.trans HST6.out.bel.output, Nat.le_trans HST6.out.bel.size HZB.out.size, fun b hb => (HZB.out.block b (by have := HST6.out.bel.size; omega) (by have := HST6.out.wq; omega) (by have := HST6.out.wq; omega)).trans (HST6.out.bel.block b hb)⟩
      refine ⟨_, rfl, ?_, hbel⟩
      rw [HRT.out]
      refine HK6.out.to (fun b hp hlt => ?_) HZB.out.size
      have h1 := HPP.out
      have h2 := HMW.out
      have h3 := HBW.out
      have h4 := HST'.out.bel.size
      have hq : b ≠ q := by omega
      exact ⟨by omega, HZB.out.block b hlt hq hq⟩
    | false =>
    have HRT : Hid (R = .mk k s v ns (replEL nm ty its)) := Lib.hid (by have h := HBM.out; rw [HR0.out, if_neg]; rintro ⟨h1, h2⟩; rw [decide_eq_true h1, h2] at h; cases h)
    have d9 : wc.cell? ⟨p, 9, none⟩ = some (.slice A its.length c) := HST'.out.wa.at 9 rfl
    have HB3 : Hid (B ≤ wc.heap.size) := Lib.hid (Nat.le_trans HBW.out HST'.out.bel.size)
    go_upto_region 5 with (fail)
    clear d9
    go_loopg [7, 24] its.length (fun g v i u => ∃ (j : Nat) (KL : List C10), j + g = its.length ∧ i = .int .i64 j ∧ OwnE 30 B wc u v (replEL nm ty its) j KL)
    case atStart => exact ⟨0, [], by omega, rfl, OwnE.start _ _ _ HB3.out⟩
    case round =>
      obtain ⟨j, KL, hj, rfl, hI⟩ := hrel
      have HI := Lib.hid hI
      clear hI
      obtain ⟨UA, uc, rfl⟩ := own_formE HI.out.own
      have HST5 := Lib.hid (HST'.out.below HI.out.bel)
      cases gk with
      | zero =>
        have hge : ¬ ((j : Int) < (its.length : Int)) := by omega
        obtain rfl : j = its.length := by omega
        have g8 : wr.cell? ⟨p, 8, none⟩ = some (.slice NA ns.length nc) := HST5.out.wa.at 8 rfl
        have HCN := Lib.hid (clone_names wr (.slice NA ns.length nc) ns ((HNS.out.below HST5.out.bel fun _ _ _ h => h).more HST5.out.bel.size) HFN.out)
        go_upto_region 10 with (go_at_call 49; refine HCN.out.mono ?_; rintro e z ⟨v', rfl, hb, hk⟩; obtain ⟨-, NA2, nc2, rfl, -⟩ := id hk; have HST7 := Lib.hid (HST5.out.below hb); have HKN := Lib.hid hk; have HBZ := Lib.hid hb; have e8 : z.cell? ⟨p, 8, none⟩ = some (.slice NA ns.length nc) := HST7.out.wa.at 8 rfl; have f8 : z.frozen? ⟨p, 8, none⟩ = false := HST7.out.wa.fz 8; have e9 : z.cell? ⟨p, 9, none⟩ = some (.slice A its.length c) := HST7.out.wa.at 9 rfl; have f9 : z.frozen? ⟨p, 9, none⟩ = false := HST7.out.wa.fz 9; clear hk hb)
        have HST6 : Hid (TwoB w ((z.setCell ⟨p, 8, none⟩ (.slice NA2 ns.length nc2)).setCell ⟨p, 9, none⟩ (.slice UA KL.length uc)) p q m [.int .i64 k, .string s, v0, v1, v2, v3, v4, v5, .slice NA2 ns.length nc2, .slice UA KL.length uc]) := Lib.hid ((HST7.out.put 8 (.slice NA2 ns.length nc2)).put 9 (.slice UA KL.length uc))
        have HP : Hid (∀ b, b < B ∨ m ≤ b → ((z.setCell ⟨p, 8, none⟩ (.slice NA2 ns.length nc2)).setCell ⟨p, 9, none⟩ (.slice UA KL.length uc)).heap[b]? = z.heap[b]?) := Lib.hid fun b hb => (put_other _ p 9 b _ (by
          have := HST5.out.pm
          have := HST5.out.wp
          have := HBW.out
          show b ≠ p
          omega)).trans (put_other z p 8 b _ (by
          have := HST5.out.pm
          have := HST5.out.wp
          have := HBW.out
          show b ≠ p
          omega))
        have HPS : Hid (((z.setCell ⟨p, 8, none⟩ (.slice NA2 ns.length nc2)).setCell ⟨p, 9, none⟩ (.slice UA KL.length uc)).heap.size = z.heap.size) := Lib.hid (by rw [put_sizeE, put_sizeE])
        clear g8 e8 f8 e9 f9
        generalize (z.setCell ⟨p, 8, none⟩ (.slice NA2 ns.length nc2)).setCell ⟨p, 9, none⟩ (.slice UA KL.length uc) = W9 at *
        have HR9 : Hid (W9.rangeAt p 0 [.int .i64 k, .string s, v0, v1, v2, v3, v4, v5, .slice NA2 ns.length nc2, .slice UA KL.length uc]) := Lib.hid HST6.out.wa.range
        obtain ⟨z0, hz0, hz1⟩ := HST6.out.wb
        have HZ0 := Lib.hid (And.intro hz0 hz1)
        have HON : Hid (∀ v ∈ [.int .i64 k, .string s, v0, v1, v2, v3, v4, v5, .slice NA2 ns.length nc2, .slice UA KL.length uc], v.oneCell' = true) := Lib.hid (by
          intro u hu
          simp only [List.mem_cons, List.not_mem_nil, or_false] at hu
          rcases hu with rfl | rfl | h | h | h | h | h | h | rfl | rfl
          · rfl
          · rfl
          · exact HONV.out u (by rw [h]; simp)
          · exact HONV.out u (by rw [h]; simp)
          · exact HONV.out u (by rw [h]; simp)
          · exact HONV.out u (by rw [h]; simp)
          · exact HONV.out u (by rw [h]; simp)
          · exact HONV.out u (by rw [h]; simp)
          · rfl
          · rfl)
        clear hz0 hz1
        go_wp2_with (first | ((with_reducible refine wl_sload 30 _ rfl ?hwp p 0 [.int .i64 k, .string s, v0, v1, v2, v3, v4, v5, .slice NA2 ns.length nc2, .slice UA KL.length uc] _ rfl HR9.out Tryz.underlying30 rfl ?hip ?_); (case hwp => (first | exact wanted_none rfl | exact wanted_if rfl rfl rfl rfl)); (case hip => kernel_rfl)) | ((with_reducible refine wl_wstore 30 _ _ rfl rfl ?hwh q z0 [.int .i64 k, .string s, v0, v1, v2, v3, v4, v5, .slice NA2 ns.length nc2, .slice UA KL.length uc] HZ0.out.2 ?hlh ?hxh ?hyh ?hih ?h1h ?_); (case hwh => (first | exact wanted_none rfl | exact wanted_if rfl rfl rfl rfl)); (case hlh => rw [HZ0.out.1]; rfl); (case hxh => rfl); (case hyh => rfl); (case hih => kernel_rfl); (case h1h => exact HON.out); intro Z hZw hZb; have HZW := Lib.hid hZw; have HZB := Lib.hid hZb; clear hZw hZb))
        (try simp only [Exit.inBlock, Exit.then])
        refine bodyPost_ret (results_exp rfl _ _ q [.int .i64 k, .string s, v0, v1, v2, v3, v4, v5, .slice NA2 ns.length nc2, .slice UA KL.length uc] rfl rfl HZW.out) rfl ?_
        have hbel : Below w.heap.size w Z := ⟨HZB.out.os.trans HST6.out.bel.os, HZB.out.tape.trans HST6.out.bel.tape, HZB.out.output.trans HST6.out.bel.output, Nat.le_trans HST6.out.bel.size HZB.out.size, fun b hb => (HZB.out.block b (by have := HST6.out.bel.size; omega) (by have := HST6.out.wq; omega) (by have := HST6.out.wq; omega)).trans (HST6.out.bel.block b hb)⟩
        have hI2 : OwnE 30 B wc wr (.slice UA KL.length uc) (replEL nm ty its) (replEL nm ty its).length KL := by rw [replEL_len]; exact HI.out
        refine ⟨_, rfl, ?_, hbel⟩
        rw [HRT.out]
        refine repl_end HW.out.1 HW.out.2.1 HW.out.2.2.1 (by rw [replEL_len]; exact HW.out.2.2.2) HBW.out HMW.out HKN.out hI2 HBZ.out hbel (fun b hlt hb => ?_) (by rw [← HPS.out]; exact HZB.out.size) HM.out
        have hq : b ≠ q := by
          have h1 := HST6.out.qm
          have h2 := HST6.out.wq
          have h3 := HBW.out
          omega
        rw [HZB.out.block b (by rw [HPS.out]; exact hlt) hq hq]
        exact HP.out b hb
      | succ g =>
        have hlt : (j : Int) < (its.length : Int) := by omega
        have hln : its.length ≤ 9223372036854775807 := HLN.out
        obtain ⟨y, hy⟩ : ∃ y, its[j]? = some y := ⟨_, List.getElem?_eq_getElem (by omega)⟩
        obtain ⟨b, o, rfl, hbb, hc⟩ := HA.out (by omega)
        obtain ⟨ks, hkl, hr, hR⟩ := hc j y hy
        have HBw : Hid (Below B w wr) := Lib.hid (HST5.out.bel.mono HBW.out)
        have HR := Lib.hid (rangeAt_below hr HBw.out hbb)
        have HKL := Lib.hid hkl
        have HY := Lib.hid hy
        have HYR := Lib.hid (replEL_at (nm := nm) (y := ty) hy)
        have HONE := Lib.hid hR.one
        have HV := Lib.hid (hR.under HBw.out)
        clear hc hr hR hy hkl
        go_upto_region 7 with (first | ((with_reducible refine wl_sload 30 _ rfl ?hwa b (o + j * 10) ks _ rfl HR.out Tryz.underlying30 rfl ?hia ?_); (case hwa => (first | exact wanted_none rfl | exact wanted_if rfl rfl rfl rfl)); (case hia => rw [HKL.out]; kernel_rfl)) | ((with_reducible refine wl_sbox 30 _ _ rfl ?hwx wr ?z ks ?hwld ?hz ?hx ?hy ?hi ?h1 ?_); (case hwld => rfl); (case hx => rfl); (case hy => rfl); (case hwx => (first | exact wanted_none rfl | exact wanted_if rfl rfl rfl rfl)); (case hz => rw [HKL.out]; rfl); (case hi => rw [HKL.out]; kernel_rfl); (case h1 => exact HONE.out); intro Z hZ; have HX := Lib.hid hZ; clear hZ))
        have HBZ : Hid (B ≤ wr.heap.size) := Lib.hid (Nat.le_trans HBW.out HST5.out.bel.size)
        have HIY := Lib.hid (IH.out y (List.mem_of_getElem? HY.out) ks ca Z (Nat.le_trans HBZ.out HX.out.below.size) (HV.out.under (HX.out.below.mono HBZ.out)) (HYA.out.under (HBw.out.trans (HX.out.below.mono HBZ.out))))
        have HRZ := Lib.hid HX.out.range
        have HRY : Hid (Z.rangeAt p2 0 ca) := Lib.hid (((HWY.out.keep (HI.out.bel.block p2 (Nat.lt_of_lt_of_le HP2.out.1 HMW.out))).keep (HX.out.below.block p2 (Nat.lt_of_lt_of_le HP2.out.1 (Nat.le_trans HMW.out HI.out.bel.size)))).range)
        obtain ⟨j0, hi, hz0, hz1, hz2⟩ := info_partsE info_exprO
        have HJ0 := Lib.hid hi
        have HY0 := Lib.hid hz0
        have HY1 := Lib.hid hz1
        have HY2 := Lib.hid hz2
        clear hi hz0 hz1 hz2
        go_wp2_with (first | ((with_reducible refine wl_sload 30 _ rfl ?hwb wr.heap.size 0 ks _ rfl HRZ.out Tryz.underlying30 rfl ?hib ?_); (case hwb => (first | exact wanted_none rfl | exact wanted_if rfl rfl rfl rfl)); (case hib => rw [HKL.out]; kernel_rfl)) | ((with_reducible refine wl_sload 30 _ rfl ?hwy p2 0 ca _ rfl HRY.out Tryz.underlying30 rfl ?hiy ?_); (case hwy => (first | exact wanted_none rfl | exact wanted_if rfl rfl rfl rfl)); (case hiy => rw [HCA.out]; kernel_rfl)) | (go_at_call 22; fail))
        refine HIY.out.mono ?_
        rintro e u6 ⟨cs', rfl, hk6, hb6⟩
        have HK6 := Lib.hid hk6
        have HB6 := Lib.hid hb6
        have HL6 := Lib.hid (eslen hk6.exp)
        have HO6 := Lib.hid hk6.exp.one
        clear hk6 hb6 HIY HRZ HR HRY
        have HC7 : Hid (∀ i u, (enc10 ⟨cs', HL6.out⟩)[i]? = some u → (u6.alloc (.cells ⟨cs'⟩ 30)).cell? ⟨u6.heap.size, i, none⟩ = some u) := Lib.hid (cells_box u6 cs' 30)
        have HB7 := Lib.hid (box_below u6 (.cells ⟨cs'⟩ 30))
        have HS7 : Hid (wc.heap.size ≤ (u6.alloc (.cells ⟨cs'⟩ 30)).heap.size) := Lib.hid (Nat.le_trans HI.out.bel.size (Nat.le_trans HX.out.below.size (Nat.le_trans HB6.out.size HB7.out.size)))
        have HOW : Hid (OwnSl 30 10 enc10 (u6.alloc (.cells ⟨cs'⟩ 30)) wc.heap.size (.slice UA KL.length uc) KL) := Lib.hid (HI.out.own.below (HX.out.below.trans ((HB6.out.trans (HB7.out.mono HB6.out.size)).mono HX.out.below.size)))
        have HM63 : Hid (KL.length + 1 ≤ maxLen) := Lib.hid (by have := HI.out.len; have := HB88.out; unfold maxLen; omega)
        have HM88 : Hid ((KL.length + 1) * 160 ≤ 140737488355328) := Lib.hid (by have := HI.out.len; have := HB88.out; omega)
        go_wp2_with (first | ((with_reducible refine wl_build1 28 _ rfl ?hw3 30 j0 _ cs' ?hx3 Tryz.underlying28 HJ0.out HY0.out ?hs3 ?h03 ?hm3 ?_); (case hw3 => (first | exact wanted_none rfl | exact wanted_if rfl rfl rfl rfl)); (case hx3 => rfl); (case hs3 => rw [HL6.out, HY1.out]); (case h03 => rw [HL6.out]; decide); (case hm3 => rw [HL6.out]; decide)) | (at_builtin; refine wl_push10 rfl _ _ 28 rfl wc.heap.size 30 j0 _ 10 160 enc10 Tryz.underlying28 HJ0.out HY0.out HY1.out HY2.out rfl (by decide) enc10_len _ KL rfl HOW.out u6.heap.size 1 ⟨cs', HL6.out⟩ HO6.out rfl HC7.out HM63.out HM88.out HS7.out ?_; intro v' u8 hown8 hg8 hb8; have HN := Lib.hid (HI.out.next HX.out.below HB6.out HB7.out HYR.out HK6.out hown8 hg8 hb8); clear hown8 hg8 hb8))
        go_roundg g
        case measure => omega
        case rel => exact ⟨j + 1, _, by omega, by go_num, HN.out⟩
end Go.Proofs.YtppmkehdhpgdcaaGreat
end
