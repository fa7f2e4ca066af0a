/- region.Order. -/
import Derived.Test.YtedajbpjokmlaaaNLoops
namespace Go.Proofs.Ytedajbpjokmlaaa
open Go Go.RowKit
set_option linter.unusedVariables false

def okOf (g : List GN) : Bool := (orderOf g.length (graphE g)).length == g.length
def ordL (g : List GN) : List Int := if okOf g = true then natsI (orderOf g.length (graphE g)) else []
/-- a list and whether it is one -/
def TwoPost (w : World) (l : List Int) (ok : Bool) (e : Ending) (w' : World) : Prop :=
  ∃ v, e = .returned (.tuple #[v, .bool ok]) ∧ OwnSl 3 1 encI w' w.heap.size v l ∧ Below w.heap.size w w'
theorem graphE_len (g : List GN) : (graphE g).length ≤ (edgesOf g).length := inE_len _ _

set_option maxHeartbeats 4000000 in
set_option maxRecDepth 100000 in
theorem order_any (g : List GN) (c0 c1 c2 c3 c4 v5 : Value) (w : World) (hg : GraphAt w w.heap.size v5 g) (hlen : (edgesOf g).length ≤ 10000) (hgn : g.length ≤ 10000) :
    Calls Try.prog 15 #[.agg ⟨[c0, c1, c2, c3, c4, v5]⟩] w (TwoPost w (ordL g) (okOf g)) := by
  have HG := Lib.hid hg
  have HLEN := Lib.hid hlen
  have HGN := Lib.hid hgn
  have HEL := Lib.hid (Nat.le_trans (graphE_len g) hlen)
  clear hg hlen
  go_enter Try.func15, Try.ntmps15
  go_upto_region 1 with (fail)
  have HB := Lib.hid (box_below w (.cells ⟨[c0, c1, c2, c3, c4, v5]⟩ 27))
  have HSZ := Lib.hid (box_size w (.cells ⟨[c0, c1, c2, c3, c4, v5]⟩ 27))
  have HR := Lib.hid (range_box w [c0, c1, c2, c3, c4, v5] 27)
  generalize w.alloc (.cells ⟨[c0, c1, c2, c3, c4, v5]⟩ 27) = W at *
  have HC1 := Lib.hid (graphOf_any g c0 c1 c2 c3 c4 v5 w.heap.size W (HG.out.next HB.out) HR.out HSZ.out HLEN.out HGN.out)
  cases hok : okOf g with
  | true =>
    have HOK : Hid (((orderOf g.length (graphE g)).length == g.length) = true) := Lib.hid hok
    have HL : Hid (ordL g = natsI (orderOf g.length (graphE g))) := Lib.hid (by unfold ordL; rw [if_pos hok])
    have HT := Lib.hid hok
    clear hok
    go_wp2_with (first | (go_at_call 33; refine HC1.out.mono ?_; rintro e w3 ⟨gb, tb, fb, V, rfl, hgat, hb3⟩; have HB3 := Lib.hid hb3; have HC2 := Lib.hid (gorder_any gb tb fb g.length _ V (graphE g) w3 hgat HGN.out HEL.out graphE_lt); clear hgat hb3) | (go_at_call 42; refine HC2.out.mono ?_; rintro e w4 ⟨v4, rfl, hown4, hb4⟩; rw [HOK.out]; have HO4 := Lib.hid hown4; have HB4 := Lib.hid hb4; clear hown4 hb4))
    go_ret2
    exact ⟨v4, by rw [HT.out]; rfl, by rw [HL.out]; exact HO4.out.mono (Nat.le_trans HB.out.size HB3.out.size), HB.out.trans ((HB3.out.trans (HB4.out.mono HB3.out.size)).mono HB.out.size)⟩
  | false =>
    have HOK : Hid (((orderOf g.length (graphE g)).length == g.length) = false) := Lib.hid hok
    have HL : Hid (ordL g = []) := Lib.hid (by unfold ordL; rw [if_neg (by rw [hok]; simp)])
    have HT := Lib.hid hok
    clear hok
    go_wp2_with (first | (go_at_call 33; refine HC1.out.mono ?_; rintro e w3 ⟨gb, tb, fb, V, rfl, hgat, hb3⟩; have HB3 := Lib.hid hb3; have HC2 := Lib.hid (gorder_any gb tb fb g.length _ V (graphE g) w3 hgat HGN.out HEL.out graphE_lt); clear hgat hb3) | (go_at_call 42; refine HC2.out.mono ?_; rintro e w4 ⟨v4, rfl, hown4, hb4⟩; rw [HOK.out]; have HO4 := Lib.hid hown4; have HB4 := Lib.hid hb4; clear hown4 hb4))
    go_ret2
    exact ⟨.slice none 0 0, by rw [HT.out]; rfl, by rw [HL.out]; exact OwnSl.nil _ _, HB.out.trans ((HB3.out.trans (HB4.out.mono HB3.out.size)).mono HB.out.size)⟩
end Go.Proofs.Ytedajbpjokmlaaa
