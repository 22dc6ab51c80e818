import Derived.Shelf.Unicode.DecodeSlow
import Derived.Test.YthigbklhngihkaaGreatDoorProg
set_option linter.unusedVariables false
set_option linter.unusedSimpArgs false
namespace Go.Proofs.YthigbklhngihkaaGreatDoor.P
open Go.RowKit
def LaidW (w : World) : Prop := Lib.Utf8Tabs 1 2 w
theorem LaidW.below {w w' : World} (h : LaidW w) (hb : Below w.heap.size w w') : LaidW w' := Utf8Tabs_below h hb
theorem LaidW.drewN {w : World} (h : LaidW w) (n : Nat) : LaidW (w.drewN n) := h
theorem LaidW.drew {w : World} (h : LaidW w) : LaidW w.drew := h
end Go.Proofs.YthigbklhngihkaaGreatDoor.P
