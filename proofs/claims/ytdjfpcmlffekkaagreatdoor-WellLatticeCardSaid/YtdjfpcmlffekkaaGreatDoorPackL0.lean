/- A fact hidden, under a short name. -/
import Derived.Lib.Hide
namespace Go.Proofs.YtdjfpcmlffekkaaGreatDoor
theorem I {p : Prop} (h : p) : Go.RowKit.Hid p := Go.Lib.hid h
end Go.Proofs.YtdjfpcmlffekkaaGreatDoor
theorem Go.RowKit.Hid.o {p : Prop} (h : Go.RowKit.Hid p) : p := h.out
