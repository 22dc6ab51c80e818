/-
  DERIVED. GIVEN WITH THE SEED: THE CARDS: each row of YthekpajbffjfmaaDoorRows.lean that lists a variable, with what it lists TIED to the program's text (the seventh form; the later family's looks); each row that meets fmt, with fmt's text TOLD by the authors' own Lean function (tested against real Go, not proved from fmt's source: count such statements apart). THE CARD IS WHAT COUNTS. Prove the row's statement (the work); the ties are given (YthekpajbffjfmaaDoorTie.lean); close each card by the builder's one call (the guide's Derived/Test/ToyasCard.lean, 'card_holds'). Laid BY PROGRAM, IN A SANDBOX (cutbox-door.mjs). By AI agents, Wed Nov 11 2026. No macro, syntax, notation, axiom, sorry.
-/
import Derived.Test.YthekpajbffjfmaaDoorRows
import GoSem.ClaimSeven
namespace Go.Proofs.YthekpajbffjfmaaDoor
namespace Rows

/-- THE TIED CARD OF 'bolterlaw04.UtfBack'. -/
def utfBackCard : Claim7 := { stood := { row := utfBackRow, standIns := [], harness := (true, "c4ea62bdc4fcf78f39fed6f36960a3f203e8acd046beff7d50b04d3fc5d4abac"), looks := false }, kinds := [], alts := [], laidByText := true, laidKinds := [.data, .pinned], laidTests := true, laidLooks := .later }
def UtfBackCardSaid : Prop := Claim7.holds Tryd.pinned (.plain (OpenSpec.ofChange utfBackSpec)) utfBackCard

/-- THE TIED CARD OF 'bolterlaw04.UtfMakes'. -/
def utfMakesCard : Claim7 := { stood := { row := utfMakesRow, standIns := [], harness := (true, "c4ea62bdc4fcf78f39fed6f36960a3f203e8acd046beff7d50b04d3fc5d4abac"), looks := false }, kinds := [], alts := [], laidByText := true, laidKinds := [.data, .pinned], laidTests := true, laidLooks := .later }
def UtfMakesCardSaid : Prop := Claim7.holds Tryd.pinned (.plain (OpenSpec.ofChange utfMakesSpec)) utfMakesCard

/-- THE TIED CARD OF 'bolterlaw04.UtfMends'. -/
def utfMendsCard : Claim7 := { stood := { row := utfMendsRow, standIns := [], harness := (true, "c4ea62bdc4fcf78f39fed6f36960a3f203e8acd046beff7d50b04d3fc5d4abac"), looks := false }, kinds := [], alts := [], laidByText := true, laidKinds := [.data, .pinned], laidTests := true, laidLooks := .later }
def UtfMendsCardSaid : Prop := Claim7.holds Tryd.pinned (.plain (OpenSpec.ofChange utfMendsSpec)) utfMendsCard

/-- THE TIED CARD OF 'bolterlaw04.UtfCuts'. -/
def utfCutsCard : Claim7 := { stood := { row := utfCutsRow, standIns := [], harness := (true, "c4ea62bdc4fcf78f39fed6f36960a3f203e8acd046beff7d50b04d3fc5d4abac"), looks := false }, kinds := [], alts := [], laidByText := true, laidKinds := [.data, .pinned], laidTests := true, laidLooks := .later }
def UtfCutsCardSaid : Prop := Claim7.holds Tryd.pinned (.plain (OpenSpec.ofChange utfCutsSpec)) utfCutsCard

/-- THE TIED CARD OF 'bolterlaw04.UtfFinds'. -/
def utfFindsCard : Claim7 := { stood := { row := utfFindsRow, standIns := [], harness := (true, "c4ea62bdc4fcf78f39fed6f36960a3f203e8acd046beff7d50b04d3fc5d4abac"), looks := false }, kinds := [], alts := [], laidByText := true, laidKinds := [.data, .pinned], laidTests := true, laidLooks := .later }
def UtfFindsCardSaid : Prop := Claim7.holds Tryd.pinned (.plain (OpenSpec.ofChange utfFindsSpec)) utfFindsCard

/-- THE TIED CARD OF 'bolterlaw04.UtfTells'. -/
def utfTellsCard : Claim7 := { stood := { row := utfTellsRow, standIns := [], harness := (true, "c4ea62bdc4fcf78f39fed6f36960a3f203e8acd046beff7d50b04d3fc5d4abac"), looks := false }, kinds := [], alts := [], laidByText := true, laidKinds := [.data, .pinned], laidTests := true, laidLooks := .later }
def UtfTellsCardSaid : Prop := Claim7.holds Tryd.pinned (.plain (OpenSpec.ofChange utfTellsSpec)) utfTellsCard

/-- THE SECOND FORM's CARD OF 'bolterlaw04.UtfBack'. -/
def utfBackUptoCard : Claim7 := { stood := { row := utfBackUptoRow, standIns := [], harness := (true, "c4ea62bdc4fcf78f39fed6f36960a3f203e8acd046beff7d50b04d3fc5d4abac"), looks := false }, kinds := [], alts := [], laidByText := true, laidKinds := [.data, .pinned], laidTests := true, laidLooks := .later }
def UtfBackUptoCardSaid : Prop := Claim7.holds Tryd.pinned (.plain (OpenSpec.upto utfBackSpec)) utfBackUptoCard

/-- THE SECOND FORM's CARD OF 'bolterlaw04.UtfMakes'. -/
def utfMakesUptoCard : Claim7 := { stood := { row := utfMakesUptoRow, standIns := [], harness := (true, "c4ea62bdc4fcf78f39fed6f36960a3f203e8acd046beff7d50b04d3fc5d4abac"), looks := false }, kinds := [], alts := [], laidByText := true, laidKinds := [.data, .pinned], laidTests := true, laidLooks := .later }
def UtfMakesUptoCardSaid : Prop := Claim7.holds Tryd.pinned (.plain (OpenSpec.upto utfMakesSpec)) utfMakesUptoCard

/-- THE SECOND FORM's CARD OF 'bolterlaw04.UtfMends'. -/
def utfMendsUptoCard : Claim7 := { stood := { row := utfMendsUptoRow, standIns := [], harness := (true, "c4ea62bdc4fcf78f39fed6f36960a3f203e8acd046beff7d50b04d3fc5d4abac"), looks := false }, kinds := [], alts := [], laidByText := true, laidKinds := [.data, .pinned], laidTests := true, laidLooks := .later }
def UtfMendsUptoCardSaid : Prop := Claim7.holds Tryd.pinned (.plain (OpenSpec.upto utfMendsSpec)) utfMendsUptoCard

/-- THE SECOND FORM's CARD OF 'bolterlaw04.UtfCuts'. -/
def utfCutsUptoCard : Claim7 := { stood := { row := utfCutsUptoRow, standIns := [], harness := (true, "c4ea62bdc4fcf78f39fed6f36960a3f203e8acd046beff7d50b04d3fc5d4abac"), looks := false }, kinds := [], alts := [], laidByText := true, laidKinds := [.data, .pinned], laidTests := true, laidLooks := .later }
def UtfCutsUptoCardSaid : Prop := Claim7.holds Tryd.pinned (.plain (OpenSpec.upto utfCutsSpec)) utfCutsUptoCard

/-- THE SECOND FORM's CARD OF 'bolterlaw04.UtfFinds'. -/
def utfFindsUptoCard : Claim7 := { stood := { row := utfFindsUptoRow, standIns := [], harness := (true, "c4ea62bdc4fcf78f39fed6f36960a3f203e8acd046beff7d50b04d3fc5d4abac"), looks := false }, kinds := [], alts := [], laidByText := true, laidKinds := [.data, .pinned], laidTests := true, laidLooks := .later }
def UtfFindsUptoCardSaid : Prop := Claim7.holds Tryd.pinned (.plain (OpenSpec.upto utfFindsSpec)) utfFindsUptoCard

/-- THE SECOND FORM's CARD OF 'bolterlaw04.UtfTells'. -/
def utfTellsUptoCard : Claim7 := { stood := { row := utfTellsUptoRow, standIns := [], harness := (true, "c4ea62bdc4fcf78f39fed6f36960a3f203e8acd046beff7d50b04d3fc5d4abac"), looks := false }, kinds := [], alts := [], laidByText := true, laidKinds := [.data, .pinned], laidTests := true, laidLooks := .later }
def UtfTellsUptoCardSaid : Prop := Claim7.holds Tryd.pinned (.plain (OpenSpec.upto utfTellsSpec)) utfTellsUptoCard
end Rows
end Go.Proofs.YthekpajbffjfmaaDoor
