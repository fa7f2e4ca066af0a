/- Parts of a proof: RPutP. -/
import Derived.ArgAppend
import Derived.Sort.Walk0
import Derived.Test.YtppmkehdhpgdcaaGreatPack11
import Derived.Test.YtppmkehdhpgdcaaGreatPack15
import Derived.Test.YtppmkehdhpgdcaaGreatPack37
namespace Go.Proofs.YtppmkehdhpgdcaaGreat
open Go Go.RowKit
set_option linter.unusedVariables false
def txt (s : ByteArray) : List UInt8 := s.data.toList
def putB : List ByteArray → ByteArray → List ByteArray
  | [], s => [s]
  | a :: l, s => if Op.bytesLess a.toList s.toList = true then a :: putB l s else if (a.toList == s.toList) = true then a :: l else s :: a :: l
theorem less_txt (a s : ByteArray) : (Op.bytesLess a.toList s.toList = true) ↔ txt a < txt s := by
  rw [bytesLess_eq, Lib.toList_data, Lib.toList_data]; unfold txt; simp
theorem same_txt (a s : ByteArray) : ((a.toList == s.toList) = true) ↔ txt a = txt s := by
  rw [Lib.toList_data, Lib.toList_data]; unfold txt; simp
theorem putB_txt (s : ByteArray) : ∀ l : List ByteArray, (putB l s).map txt = putL (l.map txt) (txt s)
  | [] => rfl
  | a :: l => by
    unfold putB
    simp only [List.map_cons, putL]
    by_cases h1 : txt a < txt s
    · rw [if_pos ((less_txt a s).2 h1), if_pos h1, List.map_cons, putB_txt s l]
    · rw [if_neg (fun h => h1 ((less_txt a s).1 h)), if_neg h1]
      by_cases h2 : txt a = txt s
      · rw [if_pos ((same_txt a s).2 h2), if_pos h2]; rfl
      · rw [if_neg (fun h => h2 ((same_txt a s).1 h)), if_neg h2]; rfl
theorem putB_len (s : ByteArray) : ∀ l : List ByteArray, (putB l s).length ≤ l.length + 1
  | [] => by simp [putB]
  | a :: l => by
    have := putB_len s l
    unfold putB
    split
    · simp; omega
    · split <;> simp
theorem putB_at (s : ByteArray) : ∀ (l : List ByteArray) (k : Nat), k ≤ l.length → (∀ j a, j < k → l[j]? = some a → Op.bytesLess a.toList s.toList = true) →
    (∀ a, l[k]? = some a → Op.bytesLess a.toList s.toList = false) → putB l s = if (∃ a, l[k]? = some a ∧ (a.toList == s.toList) = true) then l else l.take k ++ ([s] ++ l.drop k)
  | [], k, hk, _, _ => by
    obtain rfl : k = 0 := by simpa using hk
    rw [if_neg (by rintro ⟨a, h, _⟩; simp at h)]; rfl
  | a :: l, 0, hk, _, hno => by
    have h := hno a rfl
    unfold putB
    rw [h, if_neg (by decide)]
    by_cases h2 : (a.toList == s.toList) = true
    · rw [if_pos h2, if_pos ⟨a, rfl, h2⟩]
    · rw [if_neg h2, if_neg (by rintro ⟨b, hb, h3⟩; simp at hb; subst hb; exact h2 h3)]; rfl
  | a :: l, k + 1, hk, hlt, hno => by
    have h := hlt 0 a (by omega) rfl
    have ih := putB_at s l k (by simpa using hk) (fun j b hj hb => hlt (j + 1) b (by omega) (by simpa using hb)) (fun b hb => hno b (by simpa using hb))
    unfold putB
    rw [if_pos h, ih]
    by_cases h2 : ∃ b, l[k]? = some b ∧ (b.toList == s.toList) = true
    · rw [if_pos h2, if_pos (by simpa using h2)]
    · rw [if_neg h2, if_neg (by simpa using h2)]; rfl
section
variable {P : Program} {a : Act} {o : Oper} {w : World}
theorem addr_add0 (A : Option Addr) : A.map (·.add 0) = A := by cases A <;> simp [Addr.add]
theorem elem_of {t e : TypeId} (h : P.underlying t = some (.slice e)) : P.underlying t = some (.slice (P.elem t)) ∧ P.elem t = e := by
  have : P.elem t = e := by unfold Program.elem; rw [h]
  exact ⟨by rw [this]; exact h, this⟩
theorem exec_slice_hm (t : TypeId) (x h m : Operand) (ho : o.op = .slice t x none (some h) (some m)) {e : TypeId} (ht0 : P.underlying t = some (.slice e)) (hi : ((P.info? e).map (·.size)).isSome = true) (A : Option Addr) (len cap i : Nat)
    (hx : a.eval x = .slice A len cap) (hh : a.eval h = .int .i64 i) (hm : a.eval m = .int .i64 i) (hle : i ≤ cap) : (execOp a.eval o).run P w = .ok (.value (.slice A i i)) w := by
  obtain ⟨ht, he⟩ := elem_of ht0
  rw [← he] at hi
  obtain ⟨j, hj⟩ := Option.isSome_iff_exists.1 hi
  have hsz : (sizeOf (P.elem t)).run P w = .ok j w := by
    cases hq : P.info? (P.elem t) with
    | none => rw [hq] at hj; cases hj
    | some q => rw [hq] at hj; simp at hj; simp [sizeOf, typeInfo, hq, hj]
  have hr := run_slice_hm (P := P) w t A len cap ht .i64 .i64 i i (by omega) (by omega) (by omega)
  unfold execOp
  simp only [ho, hx, hh, hm, Option.map_some, Option.map_none, run_sliceAt_slice w t _ _ _ _ ht, Sem.run_bind, hr, hsz, Result.andThen_ok, Sem.run_pure, sliced, Int.toNat_natCast, Nat.sub_zero, Nat.zero_mul, addr_add0, ite_self]
theorem exec_slice_l (t : TypeId) (x l : Operand) (ho : o.op = .slice t x (some l) none none) {e : TypeId} (ht0 : P.underlying t = some (.slice e)) (sz : Nat) (hi : (P.info? e).map (·.size) = some sz) (A : Option Addr) (len cap i : Nat)
    (hx : a.eval x = .slice A len cap) (hl : a.eval l = .int .i64 i) (hle : i ≤ len) : (execOp a.eval o).run P w = .ok (.value (.slice (if cap = i then A else A.map (·.add (i * sz))) (len - i) (cap - i))) w := by
  obtain ⟨ht, he⟩ := elem_of ht0
  rw [← he] at hi
  have hsz : (sizeOf (P.elem t)).run P w = .ok sz w := by
    cases hq : P.info? (P.elem t) with
    | none => rw [hq] at hi; cases hi
    | some q => rw [hq] at hi; simp at hi; simp [sizeOf, typeInfo, hq, hi]
  have hr := run_slice_l (P := P) w t A len cap ht .i64 i (by omega) (by omega)
  unfold execOp
  simp only [ho, hx, hl, Option.map_some, Option.map_none, run_sliceAt_slice w t _ _ _ _ ht, Sem.run_bind, hr, hsz, Result.andThen_ok, Sem.run_pure, sliced, Int.toNat_natCast]
theorem exec_append_new (s x : Operand) (t : TypeId) (ho : o.op = .call { callee := .builtin .append, args := #[s, x], argTypes := #[t, t] })
    (e : TypeId) (i : TypeInfo) (z : Value) (size bytes : Nat) (ht : P.underlying t = some (.slice e)) (hi : P.info? e = some i) (hz : i.zero = some z)
    (hsize : i.size = size) (hby : i.bytes = bytes) (hzs : z.cells.size = size) (hsz : 0 < size)
    (A : Option Addr) (n : Nat) (olds : List Value) (hs : a.eval s = .slice A n n) (hlo : olds.length = n * size) (hold : A = none → n = 0) (hc0 : ∀ ad, A = some ad → ∀ j u, olds[j]? = some u → w.cell? (ad.add j) = some u)
    (ad : Addr) (m c : Nat) (hm : 0 < m) (news : List Value) (hx : a.eval x = .slice (some ad) m c) (hl : news.length = m * size)
    (hr : ∀ j u, news[j]? = some u → w.cell? (ad.add j) = some u) (h1 : ∀ u ∈ news, u.oneCell' = true)
    (h63 : n + m ≤ maxLen) (hbytes : (n + m) * bytes ≤ 140737488355328) :
    ∃ v' w', (execOp a.eval o).run P w = .ok (.value v') w' ∧ w'.ownsRow w.heap.size e size v' (n + m) (olds ++ news) ∧ w.grownBy w' none := by
  have key : ∃ v' w', (Builtin.append_ #[t, t] o.type #[.slice A n n, .slice (some ad) m c]).run P w = .ok v' w' ∧ w'.ownsRow w.heap.size e size v' (n + m) (olds ++ news) ∧ w.grownBy w' none := by
    cases A with
    | none =>
      have h0 := hold rfl
      subst h0
      have hn : olds = [] := List.eq_nil_of_length_eq_zero (by simpa using hlo)
      subst hn
      obtain ⟨v', w', k1, k2, k3, _⟩ := run_append_own_at (P := P) w w.heap.size t o.type e i z size bytes ht hi hz hsize hby hzs hsz (.slice none 0 0) 0 [] ⟨by simp, .inl ⟨rfl, rfl⟩⟩ ad m c news hl hr h1 h63 hbytes (Nat.le_refl _)
      exact ⟨v', w', k1, k2, k3⟩
    | some b => exact run_append_arg_grows (P := P) w t o.type e i z size bytes ht hi hz hsize hby hzs hsz b n n olds hlo (hc0 b rfl) ad m c news hl hr (by omega) h63 hbytes
  obtain ⟨v', w', hrun, k2, k3⟩ := key
  refine ⟨v', w', ?_, k2, k3⟩
  unfold execOp
  simp only [ho, resolve, invoke, builtin, Sem.run_bind, Sem.run_pure, Result.andThen_ok, List.map_toArray, List.map_cons, List.map_nil, hs, hx, hrun]
theorem exec_app (s x : Operand) (t : TypeId)
    (ho : o.op = .call { callee := .builtin .append, args := #[s, x], argTypes := #[t, t] })
    (base : Nat) (e : TypeId) (i : TypeInfo) (z : Value) (size bytes : Nat) (ht : P.underlying t = some (.slice e)) (hi : P.info? e = some i) (hz : i.zero = some z)
    (hsize : i.size = size) (hby : i.bytes = bytes) (hzs : z.cells.size = size) (hsz : 0 < size)
    (v : Value) (n : Nat) (xs : List Value) (hs : a.eval s = v) (hown : w.ownsRow base e size v n xs)
    (A : Option Addr) (m c : Nat) (news : List Value) (hx : a.eval x = .slice A m c) (hl : news.length = m * size)
    (hr : 0 < m → ∃ ad, A = some ad ∧ ∀ j u, news[j]? = some u → w.cell? (ad.add j) = some u) (h1 : ∀ u ∈ news, u.oneCell' = true)
    (h63 : n + m ≤ maxLen) (hbytes : (n + m) * bytes ≤ 140737488355328) (hbase : base ≤ w.heap.size) :
    ∃ v' w', (execOp a.eval o).run P w = .ok (.value v') w' ∧ w'.ownsRow base e size v' (n + m) (xs ++ news) ∧ w.grownBy w' v.ownBlock := by
  have key : ∃ v' w', (Builtin.append_ #[t, t] o.type #[v, .slice A m c]).run P w = .ok v' w' ∧ w'.ownsRow base e size v' (n + m) (xs ++ news) ∧ w.grownBy w' v.ownBlock := by
    rcases Nat.eq_zero_or_pos m with h0 | h0
    · subst h0
      have hn : news = [] := List.eq_nil_of_length_eq_zero (by simpa using hl)
      subst hn
      cases A with
      | none => exact ⟨v, w, run_append_none w base t o.type e i size ht hi v n xs hown c, by simpa using hown, World.grownBy.refl w _⟩
      | some ad =>
        obtain ⟨v', w', k1, k2, k3, _⟩ := run_append_own_at (P := P) w base t o.type e i z size bytes ht hi hz hsize hby hzs hsz v n xs hown ad 0 c [] hl (fun j u hj => by simp at hj) h1 h63 hbytes hbase
        exact ⟨v', w', k1, k2, k3⟩
    · obtain ⟨ad, rfl, hc⟩ := hr h0
      obtain ⟨v', w', k1, k2, k3, _⟩ := run_append_own_at (P := P) w base t o.type e i z size bytes ht hi hz hsize hby hzs hsz v n xs hown ad m c news hl hc h1 h63 hbytes hbase
      exact ⟨v', w', k1, k2, k3⟩
  obtain ⟨v', w', hrun, k2, k3⟩ := key
  refine ⟨v', w', ?_, k2, k3⟩
  unfold execOp
  simp only [ho, resolve, invoke, builtin, Sem.run_bind, Sem.run_pure, Result.andThen_ok, List.map_toArray, List.map_cons, List.map_nil, hs, hx, hrun]
variable {ops : Array Oper} {S : World → Prop} {Q : Exit → Act → World → Prop} {i : Nat} {r : List (Nat × Bool)}
theorem ord_app (d : Option Tmp) (o : Oper) (s x : Operand) (t : TypeId) (hi0 : ops[i]? = some o)
    (ho : o.op = .call { callee := .builtin .append, args := #[s, x], argTypes := #[t, t] }) (hd : o.dst = d) (hw : Region.wanted o (yielded ops a.tmps) = true)
    (base : Nat) (e : TypeId) (j : TypeInfo) (z : Value) (size bytes : Nat) (ht : P.underlying t = some (.slice e)) (hi : P.info? e = some j) (hz : j.zero = some z)
    (hsize : j.size = size) (hby : j.bytes = bytes) (hzs : z.cells.size = size) (hsz : 0 < size)
    (v : Value) (n : Nat) (xs : List Value) (hs : a.eval s = v) (hown : w.ownsRow base e size v n xs)
    (A : Option Addr) (m c : Nat) (news : List Value) (hx : a.eval x = .slice A m c) (hl : news.length = m * size)
    (hr : 0 < m → ∃ ad, A = some ad ∧ ∀ j u, news[j]? = some u → w.cell? (ad.add j) = some u) (h1 : ∀ u ∈ news, u.oneCell' = true)
    (h63 : n + m ≤ maxLen) (hbytes : (n + m) * bytes ≤ 140737488355328) (hbase : base ≤ w.heap.size)
    (h : ∀ v' w', w'.ownsRow base e size v' (n + m) (xs ++ news) → w.grownBy w' v.ownBlock → S w' ∧ wpOrd P ops S Q r (a.put d v') w') : wpOrd P ops S Q ((i, false) :: r) a w := by
  obtain ⟨v', w', k1, k2, k3⟩ := exec_app s x t ho base e j z size bytes ht hi hz hsize hby hzs hsz v n xs hs hown A m c news hx hl hr h1 h63 hbytes hbase
  obtain ⟨h4, h5⟩ := h v' w' k2 k3
  exact ord_run d v' w' o hi0 hd hw k1 h4 h5
theorem ord_app_new (d : Option Tmp) (o : Oper) (s x : Operand) (t : TypeId) (hi0 : ops[i]? = some o)
    (ho : o.op = .call { callee := .builtin .append, args := #[s, x], argTypes := #[t, t] }) (hd : o.dst = d) (hw : Region.wanted o (yielded ops a.tmps) = true)
    (e : TypeId) (j : TypeInfo) (z : Value) (size bytes : Nat) (ht : P.underlying t = some (.slice e)) (hi : P.info? e = some j) (hz : j.zero = some z)
    (hsize : j.size = size) (hby : j.bytes = bytes) (hzs : z.cells.size = size) (hsz : 0 < size)
    (A : Option Addr) (n : Nat) (olds : List Value) (hs : a.eval s = .slice A n n) (hlo : olds.length = n * size) (hold : A = none → n = 0) (hc0 : ∀ ad, A = some ad → ∀ j u, olds[j]? = some u → w.cell? (ad.add j) = some u)
    (ad : Addr) (m c : Nat) (hm : 0 < m) (news : List Value) (hx : a.eval x = .slice (some ad) m c) (hl : news.length = m * size)
    (hr : ∀ j u, news[j]? = some u → w.cell? (ad.add j) = some u) (h1 : ∀ u ∈ news, u.oneCell' = true)
    (h63 : n + m ≤ maxLen) (hbytes : (n + m) * bytes ≤ 140737488355328)
    (h : ∀ v' w', w'.ownsRow w.heap.size e size v' (n + m) (olds ++ news) → w.grownBy w' none → S w' ∧ wpOrd P ops S Q r (a.put d v') w') : wpOrd P ops S Q ((i, false) :: r) a w := by
  obtain ⟨v', w', k1, k2, k3⟩ := exec_append_new s x t ho e j z size bytes ht hi hz hsize hby hzs hsz A n olds hs hlo hold hc0 ad m c hm news hx hl hr h1 h63 hbytes
  obtain ⟨h4, h5⟩ := h v' w' k2 k3
  exact ord_run d v' w' o hi0 hd hw k1 h4 h5
theorem own_one (w : World) (E : TypeId) (u : Value) (base : Nat) (hb : base ≤ w.heap.size) : (w.alloc (.cells #[u] E)).ownsRow base E 1 (.slice (some ⟨w.heap.size, 0, none⟩) 1 1) 1 [u] :=
  ⟨rfl, .inr ⟨w.heap.size, 1, #[u], rfl, hb, heap_alloc_new w _, by omega, by unfold maxLen; omega, by simp, by simp⟩⟩
theorem own_addr {base : Nat} {e : TypeId} {size n : Nat} {v : Value} {xs : List Value} (h : w.ownsRow base e size v n xs) (hn : 0 < n) :
    ∃ g c, v = .slice (some ⟨g, 0, none⟩) n c ∧ n ≤ c ∧ base ≤ g ∧ g < w.heap.size ∧ ∀ j u, xs[j]? = some u → w.cell? ((⟨g, 0, none⟩ : Addr).add j) = some u := by
  rcases h.2 with ⟨_, h0⟩ | ⟨g, cap, cur, hv, hb, hg, hc, _⟩
  · omega
  · refine ⟨g, cap, hv, hc, hb, ?_, fun j u hu => World.ownsRow.cells h (g := g) (by rw [hv]; rfl) j u hu⟩
    rcases Nat.lt_or_ge g w.heap.size with h2 | h2
    · exact h2
    · rw [Array.getElem?_eq_none h2] at hg; cases hg
theorem grown_none {B : Nat} {w w1 w2 : World} (h : Below B w w1) (hg : w1.grownBy w2 none) (hB : B ≤ w1.heap.size) : Below B w w2 :=
  h.grown hg hB fun j hj => by cases hj
end
end Go.Proofs.YtppmkehdhpgdcaaGreat
