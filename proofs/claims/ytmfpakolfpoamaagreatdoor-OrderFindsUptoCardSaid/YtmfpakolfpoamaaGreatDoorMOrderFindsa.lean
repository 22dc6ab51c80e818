/- Texts of this claim, one behind the other. -/
import Derived.Shelf.Unicode.DecodeSlow
import Derived.Test.YtmfpakolfpoamaaGreatDoorProg
namespace Go.Proofs.YtmfpakolfpoamaaGreatDoor.P
set_option linter.unusedVariables false
set_option linter.unusedSimpArgs false
open Go.RowKit
def LaidW (w : World) : Prop := Lib.Utf8Tabs 0 1 w
theorem LaidW.below {w w' : World} (h : LaidW w) (hb : Below w.heap.size w w') : LaidW w' := Utf8Tabs_below h hb
theorem LaidW.drewN {w : World} (h : LaidW w) (n : Nat) : LaidW (w.drewN n) := h
theorem LaidW.drew {w : World} (h : LaidW w) : LaidW w.drew := h
end Go.Proofs.YtmfpakolfpoamaaGreatDoor.P
