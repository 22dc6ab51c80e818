/-
  DERIVED. GIVEN WITH THE SEED: THE CARDS: each row of YthigbklhngihkaaGreatDoorRows.lean that lists a variable, with what it lists TIED to the program's text (the seventh form; the later family's looks); each row that meets fmt, with fmt's text TOLD by the authors' own Lean function (tested against real Go, not proved from fmt's source: count such statements apart). THE CARD IS WHAT COUNTS. Prove the row's statement (the work); the ties are given (YthigbklhngihkaaGreatDoorTie.lean); close each card by the builder's one call (the guide's Derived/Test/ToyasCard.lean, 'card_holds'). Laid BY PROGRAM, IN A SANDBOX (cutbox-door.mjs). By AI agents, Wed Nov 11 2026. No macro, syntax, notation, axiom, sorry.
-/
import Derived.Test.YthigbklhngihkaaGreatDoorRows
import GoSem.ClaimSeven
namespace Go.Proofs.YthigbklhngihkaaGreatDoor
namespace Rows

/-- THE TIED CARD OF 'bolterlaw05.ValueOrder'. -/
def valueOrderCard : Claim7 := { stood := { row := valueOrderRow, standIns := [], harness := (true, "b9b4f67dba2c0ad46a54c3b6098e580e1bfec9602c1ba208151da67df2210a66"), looks := false }, kinds := [], alts := [], laidByText := true, laidKinds := [.data, .pinned], laidTests := true, laidLooks := .later }
def ValueOrderCardSaid : Prop := Claim7.holds Tryz.pinned (.plain (OpenSpec.ofChange valueOrderSpec)) valueOrderCard

/-- THE TIED CARD OF 'bolterlaw05.ValueKinds'. -/
def valueKindsCard : Claim7 := { stood := { row := valueKindsRow, standIns := [], harness := (true, "b9b4f67dba2c0ad46a54c3b6098e580e1bfec9602c1ba208151da67df2210a66"), looks := false }, kinds := [], alts := [], laidByText := true, laidKinds := [.data, .pinned], laidTests := true, laidLooks := .later }
def ValueKindsCardSaid : Prop := Claim7.holds Tryz.pinned (.plain (OpenSpec.ofChange valueKindsSpec)) valueKindsCard

/-- THE TIED CARD OF 'bolterlaw05.ValueOwn'. -/
def valueOwnCard : Claim7 := { stood := { row := valueOwnRow, standIns := [], harness := (true, "b9b4f67dba2c0ad46a54c3b6098e580e1bfec9602c1ba208151da67df2210a66"), looks := false }, kinds := [], alts := [], laidByText := true, laidKinds := [.data, .pinned], laidTests := true, laidLooks := .later }
def ValueOwnCardSaid : Prop := Claim7.holds Tryz.pinned (.plain (OpenSpec.ofChange valueOwnSpec)) valueOwnCard

/-- THE TIED CARD OF 'bolterlaw05.ValueMakes'. -/
def valueMakesCard : Claim7 := { stood := { row := valueMakesRow, standIns := [], harness := (true, "b9b4f67dba2c0ad46a54c3b6098e580e1bfec9602c1ba208151da67df2210a66"), looks := false }, kinds := [], alts := [], laidByText := true, laidKinds := [.data, .pinned], laidTests := true, laidLooks := .later }
def ValueMakesCardSaid : Prop := Claim7.holds Tryz.pinned (.plain (OpenSpec.ofChange valueMakesSpec)) valueMakesCard

/-- THE TIED CARD OF 'bolterlaw05.ValueKeys'. -/
def valueKeysCard : Claim7 := { stood := { row := valueKeysRow, standIns := [], harness := (true, "b9b4f67dba2c0ad46a54c3b6098e580e1bfec9602c1ba208151da67df2210a66"), looks := false }, kinds := [], alts := [], laidByText := true, laidKinds := [.data, .pinned], laidTests := true, laidLooks := .later }
def ValueKeysCardSaid : Prop := Claim7.holds Tryz.pinned (.plain (OpenSpec.ofChange valueKeysSpec)) valueKeysCard

/-- THE TIED CARD OF 'bolterlaw06.OrderOwn'. -/
def orderOwnCard : Claim7 := { stood := { row := orderOwnRow, standIns := [], harness := (true, "b9b4f67dba2c0ad46a54c3b6098e580e1bfec9602c1ba208151da67df2210a66"), looks := false }, kinds := [], alts := [], laidByText := true, laidKinds := [.data, .pinned], laidTests := true, laidLooks := .later }
def OrderOwnCardSaid : Prop := Claim7.holds Tryz.pinned (.plain (OpenSpec.ofChange orderOwnSpec)) orderOwnCard

/-- THE TIED CARD OF 'bolterlaw06.OrderTells'. -/
def orderTellsCard : Claim7 := { stood := { row := orderTellsRow, standIns := [], harness := (true, "b9b4f67dba2c0ad46a54c3b6098e580e1bfec9602c1ba208151da67df2210a66"), looks := false }, kinds := [], alts := [], laidByText := true, laidKinds := [.data, .pinned], laidTests := true, laidLooks := .later }
def OrderTellsCardSaid : Prop := Claim7.holds Tryz.pinned (.plain (OpenSpec.ofChange orderTellsSpec)) orderTellsCard

/-- THE TIED CARD OF 'bolterlaw15.EventsBack'. -/
def eventsBackCard : Claim7 := { stood := { row := eventsBackRow, standIns := [], harness := (true, "b9b4f67dba2c0ad46a54c3b6098e580e1bfec9602c1ba208151da67df2210a66"), looks := false }, kinds := [], alts := [], laidByText := true, laidKinds := [.data, .pinned], laidTests := true, laidLooks := .later }
def EventsBackCardSaid : Prop := Claim7.holds Tryz.pinned (.plain (OpenSpec.ofChange eventsBackSpec)) eventsBackCard

/-- THE TIED CARD OF 'bolterlaw15.EventsOwn'. -/
def eventsOwnCard : Claim7 := { stood := { row := eventsOwnRow, standIns := [], harness := (true, "b9b4f67dba2c0ad46a54c3b6098e580e1bfec9602c1ba208151da67df2210a66"), looks := false }, kinds := [], alts := [], laidByText := true, laidKinds := [.data, .pinned], laidTests := true, laidLooks := .later }
def EventsOwnCardSaid : Prop := Claim7.holds Tryz.pinned (.plain (OpenSpec.ofChange eventsOwnSpec)) eventsOwnCard

/-- THE TIED CARD OF 'bolterlaw15.EventsCount'. -/
def eventsCountCard : Claim7 := { stood := { row := eventsCountRow, standIns := [], harness := (true, "b9b4f67dba2c0ad46a54c3b6098e580e1bfec9602c1ba208151da67df2210a66"), looks := false }, kinds := [], alts := [], laidByText := true, laidKinds := [.data, .pinned], laidTests := true, laidLooks := .later }
def EventsCountCardSaid : Prop := Claim7.holds Tryz.pinned (.plain (OpenSpec.ofChange eventsCountSpec)) eventsCountCard

/-- THE TIED CARD OF 'bolterlaw15.EventsDeeper'. -/
def eventsDeeperCard : Claim7 := { stood := { row := eventsDeeperRow, standIns := [], harness := (true, "b9b4f67dba2c0ad46a54c3b6098e580e1bfec9602c1ba208151da67df2210a66"), looks := false }, kinds := [], alts := [], laidByText := true, laidKinds := [.data, .pinned], laidTests := true, laidLooks := .later }
def EventsDeeperCardSaid : Prop := Claim7.holds Tryz.pinned (.plain (OpenSpec.ofChange eventsDeeperSpec)) eventsDeeperCard

/-- THE TIED CARD OF 'bolterlaw15.EventsTells'. -/
def eventsTellsCard : Claim7 := { stood := { row := eventsTellsRow, standIns := [], harness := (true, "b9b4f67dba2c0ad46a54c3b6098e580e1bfec9602c1ba208151da67df2210a66"), looks := false }, kinds := [], alts := [], laidByText := true, laidKinds := [.data, .pinned], laidTests := true, laidLooks := .later }
def EventsTellsCardSaid : Prop := Claim7.holds Tryz.pinned (.plain (OpenSpec.ofChange eventsTellsSpec)) eventsTellsCard

/-- THE SECOND FORM's CARD OF 'bolterlaw05.ValueOrder'. -/
def valueOrderUptoCard : Claim7 := { stood := { row := valueOrderUptoRow, standIns := [], harness := (true, "b9b4f67dba2c0ad46a54c3b6098e580e1bfec9602c1ba208151da67df2210a66"), looks := false }, kinds := [], alts := [], laidByText := true, laidKinds := [.data, .pinned], laidTests := true, laidLooks := .later }
def ValueOrderUptoCardSaid : Prop := Claim7.holds Tryz.pinned (.plain (OpenSpec.upto valueOrderSpec)) valueOrderUptoCard

/-- THE SECOND FORM's CARD OF 'bolterlaw05.ValueKinds'. -/
def valueKindsUptoCard : Claim7 := { stood := { row := valueKindsUptoRow, standIns := [], harness := (true, "b9b4f67dba2c0ad46a54c3b6098e580e1bfec9602c1ba208151da67df2210a66"), looks := false }, kinds := [], alts := [], laidByText := true, laidKinds := [.data, .pinned], laidTests := true, laidLooks := .later }
def ValueKindsUptoCardSaid : Prop := Claim7.holds Tryz.pinned (.plain (OpenSpec.upto valueKindsSpec)) valueKindsUptoCard

/-- THE SECOND FORM's CARD OF 'bolterlaw05.ValueOwn'. -/
def valueOwnUptoCard : Claim7 := { stood := { row := valueOwnUptoRow, standIns := [], harness := (true, "b9b4f67dba2c0ad46a54c3b6098e580e1bfec9602c1ba208151da67df2210a66"), looks := false }, kinds := [], alts := [], laidByText := true, laidKinds := [.data, .pinned], laidTests := true, laidLooks := .later }
def ValueOwnUptoCardSaid : Prop := Claim7.holds Tryz.pinned (.plain (OpenSpec.upto valueOwnSpec)) valueOwnUptoCard

/-- THE SECOND FORM's CARD OF 'bolterlaw05.ValueMakes'. -/
def valueMakesUptoCard : Claim7 := { stood := { row := valueMakesUptoRow, standIns := [], harness := (true, "b9b4f67dba2c0ad46a54c3b6098e580e1bfec9602c1ba208151da67df2210a66"), looks := false }, kinds := [], alts := [], laidByText := true, laidKinds := [.data, .pinned], laidTests := true, laidLooks := .later }
def ValueMakesUptoCardSaid : Prop := Claim7.holds Tryz.pinned (.plain (OpenSpec.upto valueMakesSpec)) valueMakesUptoCard

/-- THE SECOND FORM's CARD OF 'bolterlaw05.ValueKeys'. -/
def valueKeysUptoCard : Claim7 := { stood := { row := valueKeysUptoRow, standIns := [], harness := (true, "b9b4f67dba2c0ad46a54c3b6098e580e1bfec9602c1ba208151da67df2210a66"), looks := false }, kinds := [], alts := [], laidByText := true, laidKinds := [.data, .pinned], laidTests := true, laidLooks := .later }
def ValueKeysUptoCardSaid : Prop := Claim7.holds Tryz.pinned (.plain (OpenSpec.upto valueKeysSpec)) valueKeysUptoCard

/-- THE SECOND FORM's CARD OF 'bolterlaw06.OrderOwn'. -/
def orderOwnUptoCard : Claim7 := { stood := { row := orderOwnUptoRow, standIns := [], harness := (true, "b9b4f67dba2c0ad46a54c3b6098e580e1bfec9602c1ba208151da67df2210a66"), looks := false }, kinds := [], alts := [], laidByText := true, laidKinds := [.data, .pinned], laidTests := true, laidLooks := .later }
def OrderOwnUptoCardSaid : Prop := Claim7.holds Tryz.pinned (.plain (OpenSpec.upto orderOwnSpec)) orderOwnUptoCard

/-- THE SECOND FORM's CARD OF 'bolterlaw06.OrderTells'. -/
def orderTellsUptoCard : Claim7 := { stood := { row := orderTellsUptoRow, standIns := [], harness := (true, "b9b4f67dba2c0ad46a54c3b6098e580e1bfec9602c1ba208151da67df2210a66"), looks := false }, kinds := [], alts := [], laidByText := true, laidKinds := [.data, .pinned], laidTests := true, laidLooks := .later }
def OrderTellsUptoCardSaid : Prop := Claim7.holds Tryz.pinned (.plain (OpenSpec.upto orderTellsSpec)) orderTellsUptoCard

/-- THE SECOND FORM's CARD OF 'bolterlaw15.EventsBack'. -/
def eventsBackUptoCard : Claim7 := { stood := { row := eventsBackUptoRow, standIns := [], harness := (true, "b9b4f67dba2c0ad46a54c3b6098e580e1bfec9602c1ba208151da67df2210a66"), looks := false }, kinds := [], alts := [], laidByText := true, laidKinds := [.data, .pinned], laidTests := true, laidLooks := .later }
def EventsBackUptoCardSaid : Prop := Claim7.holds Tryz.pinned (.plain (OpenSpec.upto eventsBackSpec)) eventsBackUptoCard

/-- THE SECOND FORM's CARD OF 'bolterlaw15.EventsOwn'. -/
def eventsOwnUptoCard : Claim7 := { stood := { row := eventsOwnUptoRow, standIns := [], harness := (true, "b9b4f67dba2c0ad46a54c3b6098e580e1bfec9602c1ba208151da67df2210a66"), looks := false }, kinds := [], alts := [], laidByText := true, laidKinds := [.data, .pinned], laidTests := true, laidLooks := .later }
def EventsOwnUptoCardSaid : Prop := Claim7.holds Tryz.pinned (.plain (OpenSpec.upto eventsOwnSpec)) eventsOwnUptoCard

/-- THE SECOND FORM's CARD OF 'bolterlaw15.EventsCount'. -/
def eventsCountUptoCard : Claim7 := { stood := { row := eventsCountUptoRow, standIns := [], harness := (true, "b9b4f67dba2c0ad46a54c3b6098e580e1bfec9602c1ba208151da67df2210a66"), looks := false }, kinds := [], alts := [], laidByText := true, laidKinds := [.data, .pinned], laidTests := true, laidLooks := .later }
def EventsCountUptoCardSaid : Prop := Claim7.holds Tryz.pinned (.plain (OpenSpec.upto eventsCountSpec)) eventsCountUptoCard

/-- THE SECOND FORM's CARD OF 'bolterlaw15.EventsDeeper'. -/
def eventsDeeperUptoCard : Claim7 := { stood := { row := eventsDeeperUptoRow, standIns := [], harness := (true, "b9b4f67dba2c0ad46a54c3b6098e580e1bfec9602c1ba208151da67df2210a66"), looks := false }, kinds := [], alts := [], laidByText := true, laidKinds := [.data, .pinned], laidTests := true, laidLooks := .later }
def EventsDeeperUptoCardSaid : Prop := Claim7.holds Tryz.pinned (.plain (OpenSpec.upto eventsDeeperSpec)) eventsDeeperUptoCard

/-- THE SECOND FORM's CARD OF 'bolterlaw15.EventsTells'. -/
def eventsTellsUptoCard : Claim7 := { stood := { row := eventsTellsUptoRow, standIns := [], harness := (true, "b9b4f67dba2c0ad46a54c3b6098e580e1bfec9602c1ba208151da67df2210a66"), looks := false }, kinds := [], alts := [], laidByText := true, laidKinds := [.data, .pinned], laidTests := true, laidLooks := .later }
def EventsTellsUptoCardSaid : Prop := Claim7.holds Tryz.pinned (.plain (OpenSpec.upto eventsTellsSpec)) eventsTellsUptoCard
end Rows
end Go.Proofs.YthigbklhngihkaaGreatDoor
