/- A fact hidden, under a short name. -/
import Derived.Lib.Hide
namespace Go.Proofs.YteolfamhmfidbaaGreatDoor
theorem I {p : Prop} (h : p) : Go.RowKit.Hid p := Go.Lib.hid h
end Go.Proofs.YteolfamhmfidbaaGreatDoor
theorem Go.RowKit.Hid.o {p : Prop} (h : Go.RowKit.Hid p) : p := h.out
