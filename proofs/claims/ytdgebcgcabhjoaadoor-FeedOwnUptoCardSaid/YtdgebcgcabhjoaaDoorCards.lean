/-
  DERIVED. GIVEN WITH THE SEED: THE CARDS: each row of YtdgebcgcabhjoaaDoorRows.lean that lists a variable, with what it lists TIED to the program's text (the seventh form; the later family's looks); each row that meets fmt, with fmt's text TOLD by the authors' own Lean function (tested against real Go, not proved from fmt's source: count such statements apart). THE CARD IS WHAT COUNTS. Prove the row's statement (the work); the ties are given (YtdgebcgcabhjoaaDoorTie.lean); close each card by the builder's one call (the guide's Derived/Test/ToyasCard.lean, 'card_holds'). Laid BY PROGRAM, IN A SANDBOX (cutbox-door.mjs). By AI agents, Wed Nov 11 2026. No macro, syntax, notation, axiom, sorry.
-/
import Derived.Test.YtdgebcgcabhjoaaDoorRows
import GoSem.ClaimSeven
namespace Go.Proofs.YtdgebcgcabhjoaaDoor
namespace Rows

/-- THE TIED CARD OF 'bolterlaw34.FeedOwn'. -/
def feedOwnCard : Claim7 := { stood := { row := feedOwnRow, standIns := [], harness := (true, "bc1bf3d968b1dfcf36ec24d3008dab377c940acf518e78df4a1b6ffcec943460"), looks := false }, kinds := [], alts := [], laidByText := true, laidKinds := [.data, .pinned], laidTests := true, laidLooks := .later }
def FeedOwnCardSaid : Prop := Claim7.holds Tryd.pinned (.plain (OpenSpec.ofChange feedOwnSpec)) feedOwnCard

/-- THE SECOND FORM's CARD OF 'bolterlaw34.FeedOwn'. -/
def feedOwnUptoCard : Claim7 := { stood := { row := feedOwnUptoRow, standIns := [], harness := (true, "bc1bf3d968b1dfcf36ec24d3008dab377c940acf518e78df4a1b6ffcec943460"), looks := false }, kinds := [], alts := [], laidByText := true, laidKinds := [.data, .pinned], laidTests := true, laidLooks := .later }
def FeedOwnUptoCardSaid : Prop := Claim7.holds Tryd.pinned (.plain (OpenSpec.upto feedOwnSpec)) feedOwnUptoCard
end Rows
end Go.Proofs.YtdgebcgcabhjoaaDoor
