/-
  DERIVED. GIVEN WITH THE SEED: THE CARDS: each row of YtmfpakolfpoamaaGreatDoorRows.lean that lists a variable, with what it lists TIED to the program's text (the seventh form; the later family's looks); each row that meets fmt, with fmt's text TOLD by the authors' own Lean function (tested against real Go, not proved from fmt's source: count such statements apart). THE CARD IS WHAT COUNTS. Prove the row's statement (the work); the ties are given (YtmfpakolfpoamaaGreatDoorTie.lean); close each card by the builder's one call (the guide's Derived/Test/ToyasCard.lean, 'card_holds'). Laid BY PROGRAM, IN A SANDBOX (cutbox-door.mjs). By AI agents, Wed Nov 11 2026. No macro, syntax, notation, axiom, sorry.
-/
import Derived.Test.YtmfpakolfpoamaaGreatDoorRows
import GoSem.ClaimSeven
namespace Go.Proofs.YtmfpakolfpoamaaGreatDoor
namespace Rows

/-- THE TIED CARD OF 'bolterlaw06.OrderOwn'. -/
def orderOwnCard : Claim7 := { stood := { row := orderOwnRow, standIns := [], harness := (true, "37b95480591d2d01dcc9fb37ce60546c34900511bfb612cd61219c511f7408af"), looks := false }, kinds := [], alts := [], laidByText := true, laidKinds := [.data, .pinned], laidTests := true, laidLooks := .later }
def OrderOwnCardSaid : Prop := Claim7.holds Tryz.pinned (.plain (OpenSpec.ofChange orderOwnSpec)) orderOwnCard

/-- THE TIED CARD OF 'bolterlaw06.OrderKeeps'. -/
def orderKeepsCard : Claim7 := { stood := { row := orderKeepsRow, standIns := [], harness := (true, "37b95480591d2d01dcc9fb37ce60546c34900511bfb612cd61219c511f7408af"), looks := false }, kinds := [], alts := [], laidByText := true, laidKinds := [.data, .pinned], laidTests := true, laidLooks := .later }
def OrderKeepsCardSaid : Prop := Claim7.holds Tryz.pinned (.plain (OpenSpec.ofChange orderKeepsSpec)) orderKeepsCard

/-- THE TIED CARD OF 'bolterlaw06.OrderEnds'. -/
def orderEndsCard : Claim7 := { stood := { row := orderEndsRow, standIns := [], harness := (true, "37b95480591d2d01dcc9fb37ce60546c34900511bfb612cd61219c511f7408af"), looks := false }, kinds := [], alts := [], laidByText := true, laidKinds := [.data, .pinned], laidTests := true, laidLooks := .later }
def OrderEndsCardSaid : Prop := Claim7.holds Tryz.pinned (.plain (OpenSpec.ofChange orderEndsSpec)) orderEndsCard

/-- THE TIED CARD OF 'bolterlaw06.OrderGroups'. -/
def orderGroupsCard : Claim7 := { stood := { row := orderGroupsRow, standIns := [], harness := (true, "37b95480591d2d01dcc9fb37ce60546c34900511bfb612cd61219c511f7408af"), looks := false }, kinds := [], alts := [], laidByText := true, laidKinds := [.data, .pinned], laidTests := true, laidLooks := .later }
def OrderGroupsCardSaid : Prop := Claim7.holds Tryz.pinned (.plain (OpenSpec.ofChange orderGroupsSpec)) orderGroupsCard

/-- THE TIED CARD OF 'bolterlaw06.OrderFinds'. -/
def orderFindsCard : Claim7 := { stood := { row := orderFindsRow, standIns := [], harness := (true, "37b95480591d2d01dcc9fb37ce60546c34900511bfb612cd61219c511f7408af"), looks := false }, kinds := [], alts := [], laidByText := true, laidKinds := [.data, .pinned], laidTests := true, laidLooks := .later }
def OrderFindsCardSaid : Prop := Claim7.holds Tryz.pinned (.plain (OpenSpec.ofChange orderFindsSpec)) orderFindsCard

/-- THE TIED CARD OF 'bolterlaw06.OrderTells'. -/
def orderTellsCard : Claim7 := { stood := { row := orderTellsRow, standIns := [], harness := (true, "37b95480591d2d01dcc9fb37ce60546c34900511bfb612cd61219c511f7408af"), looks := false }, kinds := [], alts := [], laidByText := true, laidKinds := [.data, .pinned], laidTests := true, laidLooks := .later }
def OrderTellsCardSaid : Prop := Claim7.holds Tryz.pinned (.plain (OpenSpec.ofChange orderTellsSpec)) orderTellsCard

/-- THE SECOND FORM's CARD OF 'bolterlaw06.OrderOwn'. -/
def orderOwnUptoCard : Claim7 := { stood := { row := orderOwnUptoRow, standIns := [], harness := (true, "37b95480591d2d01dcc9fb37ce60546c34900511bfb612cd61219c511f7408af"), looks := false }, kinds := [], alts := [], laidByText := true, laidKinds := [.data, .pinned], laidTests := true, laidLooks := .later }
def OrderOwnUptoCardSaid : Prop := Claim7.holds Tryz.pinned (.plain (OpenSpec.upto orderOwnSpec)) orderOwnUptoCard

/-- THE SECOND FORM's CARD OF 'bolterlaw06.OrderKeeps'. -/
def orderKeepsUptoCard : Claim7 := { stood := { row := orderKeepsUptoRow, standIns := [], harness := (true, "37b95480591d2d01dcc9fb37ce60546c34900511bfb612cd61219c511f7408af"), looks := false }, kinds := [], alts := [], laidByText := true, laidKinds := [.data, .pinned], laidTests := true, laidLooks := .later }
def OrderKeepsUptoCardSaid : Prop := Claim7.holds Tryz.pinned (.plain (OpenSpec.upto orderKeepsSpec)) orderKeepsUptoCard

/-- THE SECOND FORM's CARD OF 'bolterlaw06.OrderEnds'. -/
def orderEndsUptoCard : Claim7 := { stood := { row := orderEndsUptoRow, standIns := [], harness := (true, "37b95480591d2d01dcc9fb37ce60546c34900511bfb612cd61219c511f7408af"), looks := false }, kinds := [], alts := [], laidByText := true, laidKinds := [.data, .pinned], laidTests := true, laidLooks := .later }
def OrderEndsUptoCardSaid : Prop := Claim7.holds Tryz.pinned (.plain (OpenSpec.upto orderEndsSpec)) orderEndsUptoCard

/-- THE SECOND FORM's CARD OF 'bolterlaw06.OrderGroups'. -/
def orderGroupsUptoCard : Claim7 := { stood := { row := orderGroupsUptoRow, standIns := [], harness := (true, "37b95480591d2d01dcc9fb37ce60546c34900511bfb612cd61219c511f7408af"), looks := false }, kinds := [], alts := [], laidByText := true, laidKinds := [.data, .pinned], laidTests := true, laidLooks := .later }
def OrderGroupsUptoCardSaid : Prop := Claim7.holds Tryz.pinned (.plain (OpenSpec.upto orderGroupsSpec)) orderGroupsUptoCard

/-- THE SECOND FORM's CARD OF 'bolterlaw06.OrderFinds'. -/
def orderFindsUptoCard : Claim7 := { stood := { row := orderFindsUptoRow, standIns := [], harness := (true, "37b95480591d2d01dcc9fb37ce60546c34900511bfb612cd61219c511f7408af"), looks := false }, kinds := [], alts := [], laidByText := true, laidKinds := [.data, .pinned], laidTests := true, laidLooks := .later }
def OrderFindsUptoCardSaid : Prop := Claim7.holds Tryz.pinned (.plain (OpenSpec.upto orderFindsSpec)) orderFindsUptoCard

/-- THE SECOND FORM's CARD OF 'bolterlaw06.OrderTells'. -/
def orderTellsUptoCard : Claim7 := { stood := { row := orderTellsUptoRow, standIns := [], harness := (true, "37b95480591d2d01dcc9fb37ce60546c34900511bfb612cd61219c511f7408af"), looks := false }, kinds := [], alts := [], laidByText := true, laidKinds := [.data, .pinned], laidTests := true, laidLooks := .later }
def OrderTellsUptoCardSaid : Prop := Claim7.holds Tryz.pinned (.plain (OpenSpec.upto orderTellsSpec)) orderTellsUptoCard
end Rows
end Go.Proofs.YtmfpakolfpoamaaGreatDoor
