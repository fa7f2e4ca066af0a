/- A fact hidden, under a short name. -/
import Derived.Lib.Hide
import Derived.Test.YtpmjcbjdcjjplaaGreatDoorProg
namespace Go.Proofs.YtpmjcbjdcjjplaaGreatDoor
theorem I {p : Prop} (h : p) : Go.RowKit.Hid p := Go.Lib.hid h
theorem zg {P:Go.Program} {f:Go.FuncId} {args:Array Go.Value} {w:Go.World} {v:Go.Ending} {R:Go.World->Prop} {Q:Go.Ending->Go.World->Prop} (h:Go.Calls P f args w fun e w'=>e= v/\R w') (k:∀ w',Go.RowKit.Hid (R w')->Q v w'):Go.Calls P f args w Q:=h.mono fun e w' q=>by rw[q.1];exact k w' (Go.Lib.hid q.2)
theorem ze {P:Go.Program} {f:Go.FuncId} {args:Array Go.Value} {w:Go.World} {v:Go.Ending} {Q:Go.Ending->Go.World->Prop} (h:Go.Calls P f args w fun e w'=>e= v/\w'= w) (k:Q v w):Go.Calls P f args w Q:=h.mono fun e w' q=>by rw[q.1,q.2];exact k
theorem beT {w w1 w2:Go.World} (h:Go.RowKit.Below w.heap.size w w1) (k:Go.RowKit.Below w1.heap.size w1 w2):Go.RowKit.Below w.heap.size w w2:=h.trans (k.mono h.size)
end Go.Proofs.YtpmjcbjdcjjplaaGreatDoor
theorem Go.RowKit.Hid.o {p : Prop} (h : Go.RowKit.Hid p) : p := h.out
