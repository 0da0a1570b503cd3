/-
  DERIVED. GIVEN WITH THE SEED: THE CARDS: each row of YtmeejlgnhfkeaaaGreatDoorRows.lean that lists a variable, with what it lists TIED to the program's text (the seventh form; the later family's looks); each row that meets fmt, with fmt's text TOLD by the authors' own Lean function (tested against real Go, not proved from fmt's source: count such statements apart). THE CARD IS WHAT COUNTS. Prove the row's statement (the work); the ties are given (YtmeejlgnhfkeaaaGreatDoorTie.lean); close each card by the builder's one call (the guide's Derived/Test/ToyasCard.lean, 'card_holds'). Laid BY PROGRAM, IN A SANDBOX (cutbox-door.mjs). By AI agents, Wed Nov 11 2026. No macro, syntax, notation, axiom, sorry.
-/
import Derived.Test.YtmeejlgnhfkeaaaGreatDoorRows
import GoSem.ClaimSeven
namespace Go.Proofs.YtmeejlgnhfkeaaaGreatDoor
namespace Rows

/-- THE TIED CARD OF 'tinkerlaw09.BenchOrders'. -/
def benchOrdersCard : Claim7 := { stood := { row := benchOrdersRow, standIns := [], harness := (true, "42bbe6523ebe0468920f67d170ddf0cfe1c02f387aff4bb8d65fb3dd7233192e"), looks := true }, kinds := [], alts := [], laidByText := true, laidKinds := [.data, .data, .data, .data, .handle, .sentinel, .sentinel, .pinned], laidTests := true, laidLooks := .later }
def BenchOrdersCardSaid : Prop := Claim7.holds Tryz.pinned (.plain (OpenSpec.ofChange benchOrdersSpec)) benchOrdersCard

/-- THE TIED CARD OF 'tinkerlaw09.BenchReplays'. -/
def benchReplaysCard : Claim7 := { stood := { row := benchReplaysRow, standIns := [], harness := (true, "42bbe6523ebe0468920f67d170ddf0cfe1c02f387aff4bb8d65fb3dd7233192e"), looks := true }, kinds := [], alts := [], laidByText := true, laidKinds := [.data, .data, .data, .data, .handle, .sentinel, .sentinel, .pinned], laidTests := true, laidLooks := .later }
def BenchReplaysCardSaid : Prop := Claim7.holds Tryz.pinned (.plain (OpenSpec.ofChange benchReplaysSpec)) benchReplaysCard

/-- THE TIED CARD OF 'tinkerlaw09.BenchBooks'. -/
def benchBooksCard : Claim7 := { stood := { row := benchBooksRow, standIns := [], harness := (true, "42bbe6523ebe0468920f67d170ddf0cfe1c02f387aff4bb8d65fb3dd7233192e"), looks := true }, kinds := [], alts := [], laidByText := true, laidKinds := [.data, .data, .data, .data, .handle, .sentinel, .sentinel, .pinned], laidTests := true, laidLooks := .later }
def BenchBooksCardSaid : Prop := Claim7.holds Tryz.pinned (.plain (OpenSpec.ofChange benchBooksSpec)) benchBooksCard

/-- THE TIED CARD OF 'tinkerlaw09.BenchRefuses'. -/
def benchRefusesCard : Claim7 := { stood := { row := benchRefusesRow, standIns := [], harness := (true, "42bbe6523ebe0468920f67d170ddf0cfe1c02f387aff4bb8d65fb3dd7233192e"), looks := true }, kinds := [], alts := [], laidByText := true, laidKinds := [.data, .data, .data, .data, .handle, .sentinel, .sentinel, .pinned], laidTests := true, laidLooks := .later }
def BenchRefusesCardSaid : Prop := Claim7.holds Tryz.pinned (.plain (OpenSpec.ofChange benchRefusesSpec)) benchRefusesCard

/-- THE TIED CARD OF 'tinkerlaw09.BenchNews'. -/
def benchNewsCard : Claim7 := { stood := { row := benchNewsRow, standIns := [], harness := (true, "42bbe6523ebe0468920f67d170ddf0cfe1c02f387aff4bb8d65fb3dd7233192e"), looks := true }, kinds := [], alts := [], laidByText := true, laidKinds := [.data, .data, .data, .data, .handle, .sentinel, .sentinel, .pinned], laidTests := true, laidLooks := .later }
def BenchNewsCardSaid : Prop := Claim7.holds Tryz.pinned (.plain (OpenSpec.ofChange benchNewsSpec)) benchNewsCard

/-- THE SECOND FORM's CARD OF 'tinkerlaw09.BenchOrders'. -/
def benchOrdersUptoCard : Claim7 := { stood := { row := benchOrdersUptoRow, standIns := [], harness := (true, "42bbe6523ebe0468920f67d170ddf0cfe1c02f387aff4bb8d65fb3dd7233192e"), looks := true }, kinds := [], alts := [], laidByText := true, laidKinds := [.data, .data, .data, .data, .handle, .sentinel, .sentinel, .pinned], laidTests := true, laidLooks := .later }
def BenchOrdersUptoCardSaid : Prop := Claim7.holds Tryz.pinned (.plain (OpenSpec.upto benchOrdersSpec)) benchOrdersUptoCard

/-- THE SECOND FORM's CARD OF 'tinkerlaw09.BenchReplays'. -/
def benchReplaysUptoCard : Claim7 := { stood := { row := benchReplaysUptoRow, standIns := [], harness := (true, "42bbe6523ebe0468920f67d170ddf0cfe1c02f387aff4bb8d65fb3dd7233192e"), looks := true }, kinds := [], alts := [], laidByText := true, laidKinds := [.data, .data, .data, .data, .handle, .sentinel, .sentinel, .pinned], laidTests := true, laidLooks := .later }
def BenchReplaysUptoCardSaid : Prop := Claim7.holds Tryz.pinned (.plain (OpenSpec.upto benchReplaysSpec)) benchReplaysUptoCard

/-- THE SECOND FORM's CARD OF 'tinkerlaw09.BenchBooks'. -/
def benchBooksUptoCard : Claim7 := { stood := { row := benchBooksUptoRow, standIns := [], harness := (true, "42bbe6523ebe0468920f67d170ddf0cfe1c02f387aff4bb8d65fb3dd7233192e"), looks := true }, kinds := [], alts := [], laidByText := true, laidKinds := [.data, .data, .data, .data, .handle, .sentinel, .sentinel, .pinned], laidTests := true, laidLooks := .later }
def BenchBooksUptoCardSaid : Prop := Claim7.holds Tryz.pinned (.plain (OpenSpec.upto benchBooksSpec)) benchBooksUptoCard

/-- THE SECOND FORM's CARD OF 'tinkerlaw09.BenchRefuses'. -/
def benchRefusesUptoCard : Claim7 := { stood := { row := benchRefusesUptoRow, standIns := [], harness := (true, "42bbe6523ebe0468920f67d170ddf0cfe1c02f387aff4bb8d65fb3dd7233192e"), looks := true }, kinds := [], alts := [], laidByText := true, laidKinds := [.data, .data, .data, .data, .handle, .sentinel, .sentinel, .pinned], laidTests := true, laidLooks := .later }
def BenchRefusesUptoCardSaid : Prop := Claim7.holds Tryz.pinned (.plain (OpenSpec.upto benchRefusesSpec)) benchRefusesUptoCard

/-- THE SECOND FORM's CARD OF 'tinkerlaw09.BenchNews'. -/
def benchNewsUptoCard : Claim7 := { stood := { row := benchNewsUptoRow, standIns := [], harness := (true, "42bbe6523ebe0468920f67d170ddf0cfe1c02f387aff4bb8d65fb3dd7233192e"), looks := true }, kinds := [], alts := [], laidByText := true, laidKinds := [.data, .data, .data, .data, .handle, .sentinel, .sentinel, .pinned], laidTests := true, laidLooks := .later }
def BenchNewsUptoCardSaid : Prop := Claim7.holds Tryz.pinned (.plain (OpenSpec.upto benchNewsSpec)) benchNewsUptoCard
end Rows
end Go.Proofs.YtmeejlgnhfkeaaaGreatDoor
