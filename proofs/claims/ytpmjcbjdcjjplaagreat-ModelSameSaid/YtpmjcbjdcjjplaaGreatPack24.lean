/- Parts of a proof: TypK, JoinP, TJoinP. -/
import Derived.Test.YtpmjcbjdcjjplaaGreatPack4
import Derived.Test.YtpmjcbjdcjjplaaGreatPack12
import Derived.Test.YtpmjcbjdcjjplaaGreatPack13
import Derived.Test.YtpmjcbjdcjjplaaGreatPack14
import Derived.Test.YtpmjcbjdcjjplaaGreatPack15
import Derived.Test.YtpmjcbjdcjjplaaGreatPack16
import Derived.Test.YtpmjcbjdcjjplaaGreatPack17
import Derived.Test.YtpmjcbjdcjjplaaGreatPack18
import Derived.Test.YtpmjcbjdcjjplaaGreatPack23
section
namespace Go.Proofs.YtpmjcbjdcjjplaaGreat
open Go Go.RowKit
set_option linter.unusedVariables false
def KeptT (p : Nat → Prop) (w : World) (cs : List Value) (t : TT) : Prop := TypAt (only w p) w.heap.size cs t
theorem TypAt.cells {w w' : World} {B : Nat} {cs : List Value} {t : TT} (h : TypAt w B cs t) (hb : ∀ a v, w.cell? a = some v → w'.cell? a = some v) : TypAt w' B cs t := by
  induction h with
  | mk b o css hk hns hl hA hc hi ih =>
    refine .mk b o css hk ?_ hl hA (fun i h => ⟨(hc i h).1, fun j v hv => hb _ _ ((hc i h).2 j v hv)⟩) ih
    obtain ⟨h0, A, c, rfl, h1⟩ := hns
    refine ⟨h0, A, c, rfl, fun hp => ?_⟩
    obtain ⟨b, o, rfl, hlt, h2⟩ := h1 hp
    refine ⟨b, o, rfl, hlt, fun i x hx => ?_⟩
    obtain ⟨cs, h3, h4, h5⟩ := h2 i x hx
    exact ⟨cs, h3, fun j v hv => hb _ _ (h4 j v hv), h5⟩
theorem KeptT.typ {p : Nat → Prop} {w : World} {cs : List Value} {t : TT} (h : KeptT p w cs t) : TypAt w w.heap.size cs t := TypAt.cells h fun a v hv => (only_cell.1 hv).2
theorem only_toT {p q : Nat → Prop} {w w' : World} (hb : ∀ b, p b → b < w.heap.size → q b ∧ w'.heap[b]? = w.heap[b]?) : ∀ a v, (only w p).cell? a = some v → (only w' q).cell? a = some v := fun a v hv => by
  obtain ⟨h1, h2⟩ := only_cell.1 hv
  have hlt : a.block < w.heap.size := by
    rcases Nat.lt_or_ge a.block w.heap.size with h | h
    · exact h
    · unfold World.cell? at h2; rw [Array.getElem?_eq_none h] at h2; cases h2
  obtain ⟨h3, h4⟩ := hb a.block h1 hlt
  exact only_cell.2 ⟨h3, (World.cell?_of_block h4).trans h2⟩
theorem KeptT.to {p q : Nat → Prop} {w w' : World} {cs : List Value} {t : TT} (h : KeptT p w cs t) (hb : ∀ b, p b → b < w.heap.size → q b ∧ w'.heap[b]? = w.heap[b]?) (hs : w.heap.size ≤ w'.heap.size) : KeptT q w' cs t :=
  (TypAt.cells h (only_toT hb)).more hs
theorem KeptT.all {w : World} {cs : List Value} {t : TT} (h : TypAt w w.heap.size cs t) : KeptT (fun _ => True) w cs t := TypAt.cells h fun a v hv => only_cell.2 ⟨trivial, hv⟩
abbrev Cells3 := { cs : List Value // cs.length = 3 }
def enc3 (k : Cells3) : List Value := k.1
theorem enc3_len (k : Cells3) : (enc3 k).length = 3 := k.2
structure RowT (p : Nat → Prop) (B : Nat) (u : World) (v : Value) (vs : List TT) (KL : List Cells3) : Prop where
  own : OwnSl 45 3 enc3 u B v KL
  len : KL.length = vs.length
  sz : B ≤ u.heap.size
  els : ∀ (j : Nat) k x, KL[j]? = some k → vs[j]? = some x → KeptT (fun b => (p b ∨ B ≤ b) ∧ some b ≠ v.ownBlock) u k.1 x
theorem RowT.start (p : Nat → Prop) {B : Nat} {u : World} (h : B ≤ u.heap.size) : RowT p B u (.slice none 0 0) [] [] := ⟨OwnSl.nil _ _, rfl, h, fun j k x hk _ => by cases hk⟩
theorem RowT.next {p : Nat → Prop} {B : Nat} {u u6 u7 u8 : World} {v v' : Value} {vs : List TT} {KL : List Cells3} (h : RowT p B u v vs KL) (hpB : ∀ b, p b → b < B) (h6 : Below u.heap.size u u6) (h7 : Below u6.heap.size u6 u7) {k : Cells3} {x : TT}
    (hk : KeptT (fun b => p b ∨ u.heap.size ≤ b) u6 k.1 x) (hown : OwnSl 45 3 enc3 u8 B v' (KL ++ [k])) (hg : u7.grownBy u8 v.ownBlock) (hb : v'.ownBlock = v.ownBlock ∨ v'.ownBlock = some u7.heap.size) :
    RowT p B u8 v' (vs ++ [x]) (KL ++ [k]) := by
  have h57 := h6.trans (h7.mono h6.size)
  have hsz := h.sz
  have hblk : ∀ b, b < u.heap.size → some b ≠ v.ownBlock → some b ≠ v'.ownBlock ∧ u8.heap[b]? = u.heap[b]? := fun b hlt hne => by
    have e1 := h57.block b hlt
    have e2 := hg.block b (Nat.lt_of_lt_of_le hlt h57.size) hne
    refine ⟨?_, e2.trans e1⟩
    rcases hb with hb | hb
    · rw [hb]; exact hne
    · rw [hb]
      intro e
      injection e with e
      have := h57.size
      omega
  have hnew : ∀ b, (p b ∨ u.heap.size ≤ b) → b < u6.heap.size → some b ≠ v'.ownBlock ∧ u8.heap[b]? = u6.heap[b]? := fun b hge hlt => by
    have hne : some b ≠ v.ownBlock := fun e => by
      have h1 := own_lt h.own e.symm
      have h2 := h.own.block e.symm
      rcases hge with hp | hge
      · have := hpB b hp; omega
      · omega
    have e1 := h7.block b hlt
    have e2 := hg.block b (Nat.lt_of_lt_of_le hlt h7.size) hne
    refine ⟨?_, e2.trans e1⟩
    rcases hb with hb | hb
    · rw [hb]; exact hne
    · rw [hb]
      intro e
      injection e with e
      have := h7.size
      omega
  refine ⟨hown, by rw [List.length_append, List.length_append, h.len]; rfl, ?_, fun j k' y hk' hy => ?_⟩
  · have := hg.size
    have := h57.size
    omega
  · rcases Nat.lt_or_ge j KL.length with hj | hj
    · rw [List.getElem?_append_left hj] at hk'
      rw [List.getElem?_append_left (by rw [← h.len]; exact hj)] at hy
      refine (h.els j k' y hk' hy).to (fun b hp hlt => ⟨⟨hp.1, (hblk b hlt hp.2).1⟩, (hblk b hlt hp.2).2⟩) ?_
      have := hg.size
      have := h57.size
      omega
    · rw [List.getElem?_append_right hj] at hk'
      have hj2 : j = KL.length := by
        have := (List.getElem?_eq_some_iff.1 hk').1
        simp only [List.length_singleton] at this
        omega
      rw [hj2, Nat.sub_self] at hk'
      injection hk' with hk'
      subst hk'
      have e : y = x := by
        rw [hj2, h.len, List.getElem?_append_right (Nat.le_refl _), Nat.sub_self] at hy
        injection hy with hy
        exact hy.symm
      subst e
      refine hk.to (fun b hp hlt => ⟨⟨hp.imp id fun h => by omega, (hnew b hp hlt).1⟩, (hnew b hp hlt).2⟩) ?_
      have := hg.size
      have := h7.size
      omega
theorem RowT.store {p : Nat → Prop} {B q : Nat} {u u' : World} {v : Value} {vs : List TT} {KL : List Cells3} (h : RowT p B u v vs KL) (hb : But u u' q q) (hq : q < B) (hpq : ¬ p q) : RowT p B u' v vs KL := by
  refine ⟨World.ownsRow.kept h.own (row := some q) ⟨hb.os, hb.tape, hb.output, hb.size, fun i hi hne => hb.block i hi (fun e => hne (by rw [e])) (fun e => hne (by rw [e]))⟩ ?_, h.len, Nat.le_trans h.sz hb.size, fun j k x hk hx => ?_⟩
  · exact .inr fun e => by have := h.own.block e; omega
  · refine (h.els j k x hk hx).to (fun b hq2 hlt => ?_) hb.size
    have hne : b ≠ q := fun e => by
      subst e
      rcases hq2.1 with h | h
      · exact hpq h
      · omega
    exact ⟨hq2, hb.block b hlt hne hne⟩
theorem RowT.below {p : Nat → Prop} {B : Nat} {u u' : World} {v : Value} {vs : List TT} {KL : List Cells3} (h : RowT p B u v vs KL) (hb : Below u.heap.size u u') : RowT p B u' v vs KL :=
  ⟨h.own.below hb, h.len, Nat.le_trans h.sz hb.size, fun j k x hk hx => (h.els j k x hk hx).to (fun b hq hlt => ⟨hq, hb.block b hlt⟩) hb.size⟩
theorem RowT.row {p q : Nat → Prop} {B : Nat} {u u' : World} {v : Value} {vs : List TT} {KL : List Cells3} (h : RowT p B u v vs KL) (hl : vs.length ≤ maxLen) (hk : ∀ b, (p b ∨ B ≤ b) → b < u.heap.size → q b ∧ u'.heap[b]? = u.heap[b]?) (hs : u.heap.size ≤ u'.heap.size) :
    SlAt (only u' q) u'.heap.size 3 (TypAt (only u' q) u'.heap.size) v vs := by
  refine ⟨Nat.le_trans hl maxLen_small, ?_⟩
  rcases h.own.2 with ⟨rfl, h0⟩ | ⟨g, cap, cur, hv, hg, _, _⟩
  · rw [h.len] at h0
    exact ⟨none, 0, by rw [← h0], fun h1 => by omega⟩
  · refine ⟨some ⟨g, 0, none⟩, cap, by rw [hv, h.len], fun _ => ?_⟩
    have hown : v.ownBlock = some g := by rw [hv]; rfl
    have hlt := own_lt h.own hown
    refine ⟨g, 0, rfl, by omega, fun i x hx => ?_⟩
    have hi := (List.getElem?_eq_some_iff.1 hx).1
    have hki : KL[i]? = some (KL[i]'(by rw [h.len]; exact hi)) := List.getElem?_eq_getElem _
    refine ⟨_, (KL[i]'(by rw [h.len]; exact hi)).2, fun j c hc => ?_, ?_⟩
    · refine only_cell.2 ⟨(hk g (.inr hg) hlt).1, ?_⟩
      refine (World.cell?_of_block (a := ⟨g, _, none⟩) (hk g (.inr hg) hlt).2).trans ?_
      have := World.ownsRow.cells h.own hown (i * 3 + j) c (flat_at enc3_len KL i _ hki j c hc)
      rw [Addr.add_mid] at this
      rw [show 0 + i * 3 + j = 0 + (i * 3 + j) by omega]; exact this
    · exact (h.els i _ x hki hx).to (fun b hp hb => hk b hp.1 hb) hs
def tyC (k : Int) (vn vi : Value) : List Value := [.int .i64 k, vn, vi]
def zT3 : List Value := tyC 0 (.slice none 0 0) (.slice none 0 0)
theorem tyC_one (k : Int) (A B : Option Addr) (a b c d : Nat) : ∀ v ∈ tyC k (.slice A a b) (.slice B c d), v.oneCell' = true := by
  intro v hv
  simp only [tyC, List.mem_cons, List.not_mem_nil, or_false] at hv
  rcases hv with rfl | rfl | rfl <;> rfl
theorem mkT_kept {p : Nat → Prop} {w : World} {k : Int} {vn vi : Value} {ns : List ByteArray} {its : List TT} (hk : wfI k) (hn : KeptS p w vn ns) (hl : its.length ≤ maxLen) (hi : SlAt (only w p) w.heap.size 3 (TypAt (only w p) w.heap.size) vi its) : KeptT p w (tyC k vn vi) (.mk k ns its) := TypAt.of hk hn hl hi
theorem results_t1 {fn : Func} {p : Tmp} (h : fn.results = #[.cell p 45]) (tmps : Array Value) (w : World) (g : Nat) (cs : List Value) (hl : cs.length = 3)
    (hp : tmps.getD p undef = .pointer (some ⟨g, 0, none⟩)) (hm : Whole 45 w g cs) : (results fn tmps).run Tryz.prog w = .ok (.agg ⟨cs⟩) w := by
  have hp' : tmps[p]?.getD undef = .pointer (some ⟨g, 0, none⟩) := by simpa using hp
  have hl := run_loadVar_mid (P := Tryz.prog) w g 0 45 cs _ hm.range Tryz.underlying45 rfl (by rw [hl]; kernel_rfl)
  simp [results, h, hp', asAddr, hl]
theorem info_typ : (Tryz.prog.info? 45).map (fun i => (i.zero, i.size, i.bytes)) = some (some (.agg zT3.toArray), 3, 56) := by kernel_rfl
end Go.Proofs.YtpmjcbjdcjjplaaGreat
end
section
namespace Go.Proofs.YtpmjcbjdcjjplaaGreat
open Go Go.RowKit
set_option linter.unusedVariables false
def encN1 (s : ByteArray) : List Value := [.string s]
theorem encN1_len (s : ByteArray) : (encN1 s).length = 1 := rfl
structure JoinInv (p : Nat → Prop) (W U u : World) (q : Nat) (k : Int) (nv iv : Value) (ns : List ByteArray) (ts : List TT) (KL : List Cells3) : Prop where
  nown : OwnSl 9 1 encN1 u U.heap.size nv ns
  iown : OwnSl 45 3 enc3 u U.heap.size iv KL
  len : KL.length = ts.length
  sz : U.heap.size ≤ u.heap.size
  ap : Apart nv iv
  els : ∀ (j : Nat) c x, KL[j]? = some c → ts[j]? = some x → KeptT (fun b => (p b ∨ U.heap.size ≤ b) ∧ some b ≠ iv.ownBlock ∧ some b ≠ nv.ownBlock) u c.1 x
  box : Whole 45 u q (tyC k nv iv)
  bel : Below W.heap.size W u
  sam : ∀ b, b < U.heap.size → b ≠ q → u.heap[b]? = U.heap[b]?
  lo : W.heap.size ≤ q
  hi : q < U.heap.size
  WU : W.heap.size ≤ U.heap.size
  pq : ∀ b, p b → b < W.heap.size
theorem JoinInv.start {p : Nat → Prop} {W U : World} {q : Nat} {k : Int} (hbox : Whole 45 U q (tyC k (.slice none 0 0) (.slice none 0 0))) (hbel : Below W.heap.size W U) (hlo : W.heap.size ≤ q) (hp : ∀ b, p b → b < W.heap.size) : JoinInv p W U U q k (.slice none 0 0) (.slice none 0 0) [] [] [] :=
  ⟨OwnSl.nil _ _, OwnSl.nil _ _, rfl, Nat.le_refl _, fun b h => (by cases h), fun j c x h => (by cases h), hbox, hbel, fun _ _ _ => rfl, hlo, hbox.lt, hbel.size, hp⟩
section
variable {p : Nat → Prop} {W U u u7 u8 : World} {q : Nat} {k : Int} {nv iv v' : Value} {ns : List ByteArray} {ts : List TT} {KL : List Cells3}
theorem JoinInv.nb (h : JoinInv p W U u q k nv iv ns ts KL) {b : Nat} (hb : nv.ownBlock = some b) : U.heap.size ≤ b ∧ b < u.heap.size := ⟨h.nown.block hb, own_lt h.nown hb⟩
theorem JoinInv.ib (h : JoinInv p W U u q k nv iv ns ts KL) {b : Nat} (hb : iv.ownBlock = some b) : U.heap.size ≤ b ∧ b < u.heap.size := ⟨h.iown.block hb, own_lt h.iown hb⟩
theorem JoinInv.below (h : JoinInv p W U u q k nv iv ns ts KL) (hb : Below u.heap.size u u7) : JoinInv p W U u7 q k nv iv ns ts KL :=
  ⟨h.nown.below hb, h.iown.below hb, h.len, Nat.le_trans h.sz hb.size, h.ap, fun j c x hc hx => (h.els j c x hc hx).to (fun b hp hlt => ⟨hp, hb.block b hlt⟩) hb.size, h.box.keep (hb.block _ h.box.lt), h.bel.trans (hb.mono h.bel.size), fun b hb1 hne => (hb.block b (Nat.lt_of_lt_of_le hb1 h.sz)).trans (h.sam b hb1 hne), h.lo, h.hi, h.WU, h.pq⟩
theorem JoinInv.name (h : JoinInv p W U u q k nv iv ns ts KL) (hg : u.grownBy u8 nv.ownBlock) {s : ByteArray} {n7 : Nat} (hown : OwnSl 9 1 encN1 u8 U.heap.size v' (ns ++ [s])) (hblk : v'.ownBlock = nv.ownBlock ∨ v'.ownBlock = some n7) (hn7 : u.heap.size ≤ n7) :
    JoinInv p W U (u8.setCell ⟨q, 1, none⟩ v') q k v' iv (ns ++ [s]) ts KL := by
  have hbut := But.set1 u8 q q 1 v'
  have hqu : q < u.heap.size := Nat.lt_of_lt_of_le h.hi h.sz
  have hsame : ∀ b, b < u.heap.size → some b ≠ nv.ownBlock → b ≠ q → (u8.setCell ⟨q, 1, none⟩ v').heap[b]? = u.heap[b]? := fun b hb hne hq => (hbut.block b (Nat.lt_of_lt_of_le hb hg.size) hq hq).trans (hg.block b hb hne)
  have hqn : some q ≠ nv.ownBlock := fun e => by have := (h.nb e.symm).1; have := h.hi; omega
  have hgq : u8.grownBy (u8.setCell ⟨q, 1, none⟩ v') (some q) := ⟨hbut.os, hbut.tape, hbut.output, hbut.size, fun i hi hne => hbut.block i hi (fun e => hne (by rw [e])) (fun e => hne (by rw [e]))⟩
  have hnq : v'.ownBlock = none ∨ v'.ownBlock ≠ some q := .inr fun e => by have := hown.block e; have := h.hi; omega
  refine ⟨World.ownsRow.kept hown hgq hnq, World.ownsRow.kept (World.ownsRow.kept h.iown hg h.ap.ne) hgq (.inr fun e => by have := (h.ib e).1; have := h.hi; omega), h.len, Nat.le_trans h.sz (Nat.le_trans hg.size hbut.size), h.ap.next hblk (fun b hb => Nat.lt_of_lt_of_le (h.ib hb).2 hn7), fun j c x hc hx => ?_, ?_, ?_, fun b hb hne => ?_, h.lo, h.hi, h.WU, h.pq⟩
  · refine (h.els j c x hc hx).to (fun b hp hlt => ⟨⟨hp.1, hp.2.1, ?_⟩, hsame b hlt hp.2.2 ?_⟩) (Nat.le_trans hg.size hbut.size)
    · rcases hblk with e | e
      · rw [e]; exact hp.2.2
      · rw [e]; intro e; injection e with e; omega
    · intro e
      subst e
      rcases hp.1 with h1 | h1
      · have := h.pq _ h1; have := h.lo; omega
      · have := h.hi; omega
  · exact Whole.putM (pre := [.int .i64 k]) (post := [iv]) (h.box.keep (hg.block q hqu hqn))
  · refine ⟨hbut.os.trans (hg.os.trans h.bel.os), hbut.tape.trans (hg.tape.trans h.bel.tape), hbut.output.trans (hg.output.trans h.bel.output), Nat.le_trans h.bel.size (Nat.le_trans hg.size hbut.size), fun b hb => ?_⟩
    have h1 := h.bel.size
    exact (hsame b (Nat.lt_of_lt_of_le hb h1) (fun e => by have := (h.nb e.symm).1; have := h.WU; omega) (by have := h.lo; omega)).trans (h.bel.block b hb)
  · exact (hsame b (Nat.lt_of_lt_of_le hb h.sz) (fun e => by have := (h.nb e.symm).1; omega) hne).trans (h.sam b hb hne)
theorem JoinInv.done (h : JoinInv p W U u q k nv iv ns ts KL) (hk : wfI k) (hs : ∀ s ∈ ns, s.size ≤ maxLen) (hnl : ns.length ≤ 1000) (hl : ts.length ≤ 1000) {r : Nat} (hb : But u u8 r r) (hr : W.heap.size ≤ r) (hrU : r < U.heap.size) : KeptT (fun b => p b ∨ W.heap.size ≤ b) u8 (tyC k nv iv) (.mk k ns ts) := by
  have hWU := h.WU
  have hsame : ∀ b, (p b ∨ U.heap.size ≤ b) → b < u.heap.size → (p b ∨ W.heap.size ≤ b) ∧ u8.heap[b]? = u.heap[b]? := fun b hp hlt => by
    have hne : b ≠ r := fun e => by
      subst e
      rcases hp with h1 | h1
      · have := h.pq _ h1; omega
      · omega
    exact ⟨hp.imp id fun h => by omega, hb.block b hlt hne hne⟩
  refine mkT_kept hk ?_ (by unfold maxLen; omega) ?_
  · rcases h.nown.2 with ⟨rfl, h0⟩ | ⟨g, cap, cur, hv, hg, _, _⟩
    · have : ns = [] := List.eq_nil_of_length_eq_zero h0
      subst this
      exact SlAt.nil _ _ _ _
    · have hown : nv.ownBlock = some g := by rw [hv]; rfl
      have hlt := own_lt h.nown hown
      refine ⟨by omega, some ⟨g, 0, none⟩, cap, by rw [hv], fun _ => ⟨g, 0, rfl, Nat.lt_of_lt_of_le hlt hb.size, fun i s hx => ⟨[.string s], rfl, fun j c hc => ?_, rfl, hs s (List.mem_of_getElem? hx)⟩⟩⟩
      refine only_cell.2 ⟨(hsame g (.inr hg) hlt).1, ?_⟩
      refine (World.cell?_of_block (a := ⟨g, _, none⟩) (hsame g (.inr hg) hlt).2).trans ?_
      have := World.ownsRow.cells h.nown hown (i * 1 + j) c (flat_at encN1_len ns i _ hx j c hc)
      rw [Addr.add_mid] at this
      rw [show 0 + i * 1 + j = 0 + (i * 1 + j) by omega]; exact this
  · refine ⟨by omega, ?_⟩
    rcases h.iown.2 with ⟨rfl, h0⟩ | ⟨g, cap, cur, hv, hg, _, _⟩
    · rw [h.len] at h0
      exact ⟨none, 0, by rw [← h0], fun h1 => by omega⟩
    · have hown : iv.ownBlock = some g := by rw [hv]; rfl
      have hlt := own_lt h.iown hown
      refine ⟨some ⟨g, 0, none⟩, cap, by rw [hv, h.len], fun _ => ⟨g, 0, rfl, Nat.lt_of_lt_of_le hlt hb.size, fun i x hx => ?_⟩⟩
      have hi := (List.getElem?_eq_some_iff.1 hx).1
      have hki : KL[i]? = some (KL[i]'(by rw [h.len]; exact hi)) := List.getElem?_eq_getElem _
      refine ⟨_, (KL[i]'(by rw [h.len]; exact hi)).2, fun j c hc => ?_, ?_⟩
      · refine only_cell.2 ⟨(hsame g (.inr hg) hlt).1, ?_⟩
        refine (World.cell?_of_block (a := ⟨g, _, none⟩) (hsame g (.inr hg) hlt).2).trans ?_
        have := World.ownsRow.cells h.iown hown (i * 3 + j) c (flat_at enc3_len KL i _ hki j c hc)
        rw [Addr.add_mid] at this
        rw [show 0 + i * 3 + j = 0 + (i * 3 + j) by omega]; exact this
      · exact (h.els i _ x hki hx).to (fun b hp hlt => hsame b hp.1 hlt) hb.size
end
end Go.Proofs.YtpmjcbjdcjjplaaGreat
end
section
namespace Go.Proofs.YtpmjcbjdcjjplaaGreat
open Go Go.RowKit
set_option linter.unusedVariables false
set_option linter.unusedSimpArgs false
theorem KeptT.inv {p : Nat → Prop} {w : World} {cs : List Value} {k : Int} {ns : List ByteArray} {its : List TT} (h : KeptT p w cs (.mk k ns its)) : ∃ NA nc A c, cs = [.int .i64 k, .slice NA ns.length nc, .slice A its.length c] ∧ wfI k ∧
    (0 < ns.length → ∃ b o, NA = some ⟨b, o, none⟩ ∧ b < w.heap.size ∧ ∀ (i : Nat) s, ns[i]? = some s → w.cell? ⟨b, o + i, none⟩ = some (.string s)) ∧ (∀ s ∈ ns, s.size ≤ maxLen) ∧
    (0 < its.length → ∃ b o, A = some ⟨b, o, none⟩ ∧ b < w.heap.size ∧ ∀ (i : Nat) x, its[i]? = some x → ∃ ks : List Value, ks.length = 3 ∧ w.rangeAt b (o + i * 3) ks ∧ KeptT p w ks x) := by
  obtain ⟨vn, vi, rfl, hk, hns, _, hi⟩ := TypAt.inv h
  obtain ⟨_, NA, nc, rfl, h1⟩ := hns
  obtain ⟨_, A, c, rfl, h2⟩ := hi
  refine ⟨NA, nc, A, c, rfl, hk, fun h0 => ?_, fun s hs => ?_, fun h0 => ?_⟩
  · obtain ⟨b, o, e, hb, hc⟩ := h1 h0
    refine ⟨b, o, e, hb, fun i s hs => ?_⟩
    obtain ⟨ks, hl, hr, hks, _⟩ := hc i s hs
    have := hr 0 (.string s) (by rw [hks]; rfl)
    rw [Nat.mul_one, Nat.add_zero] at this
    exact (only_cell.1 this).2
  · obtain ⟨i, hi⟩ := List.mem_iff_getElem?.1 hs
    obtain ⟨b, o, e, hb, hc⟩ := h1 (by have := (List.getElem?_eq_some_iff.1 hi).1; omega)
    obtain ⟨ks, hl, hr, _, h⟩ := hc i s hi
    exact h
  · obtain ⟨b, o, e, hb, hc⟩ := h2 h0
    refine ⟨b, o, e, hb, fun i x hx => ?_⟩
    obtain ⟨ks, hl, hr, hks⟩ := hc i x hx
    exact ⟨ks, hl, fun j v hv => (only_cell.1 (hr j v hv)).2, hks⟩
theorem KeptT.next {p : Nat → Prop} {w u : World} {cs : List Value} {t : TT} (h : KeptT p w cs t) (hb : Below w.heap.size w u) : KeptT p u cs t := h.to (fun b hp hl => ⟨hp, hb.block b hl⟩) hb.size
end Go.Proofs.YtpmjcbjdcjjplaaGreat
end
