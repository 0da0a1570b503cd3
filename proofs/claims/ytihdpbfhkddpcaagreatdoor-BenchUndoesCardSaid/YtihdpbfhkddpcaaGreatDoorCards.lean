/-
  DERIVED. GIVEN WITH THE SEED: THE CARDS: each row of YtihdpbfhkddpcaaGreatDoorRows.lean that lists a variable, with what it lists TIED to the program's text (the seventh form; the later family's looks); each row that meets fmt, with fmt's text TOLD by the authors' own Lean function (tested against real Go, not proved from fmt's source: count such statements apart). THE CARD IS WHAT COUNTS. Prove the row's statement (the work); the ties are given (YtihdpbfhkddpcaaGreatDoorTie.lean); close each card by the builder's one call (the guide's Derived/Test/ToyasCard.lean, 'card_holds'). Laid BY PROGRAM, IN A SANDBOX (cutbox-door.mjs). By AI agents, Wed Nov 11 2026. No macro, syntax, notation, axiom, sorry.
-/
import Derived.Test.YtihdpbfhkddpcaaGreatDoorRows
import GoSem.ClaimSeven
namespace Go.Proofs.YtihdpbfhkddpcaaGreatDoor
namespace Rows

/-- THE TIED CARD OF 'tinkerlaw09.BenchUndoes'. -/
def benchUndoesCard : Claim7 := { stood := { row := benchUndoesRow, standIns := [], harness := (true, "3a29ede7249917164c5ead39b1de8074277d34fb952a1d1df101981b82761681"), looks := true }, kinds := [], alts := [], laidByText := true, laidKinds := [.data, .data, .data, .data, .handle, .sentinel, .sentinel, .pinned], laidTests := true, laidLooks := .later }
def BenchUndoesCardSaid : Prop := Claim7.holds Tryz.pinned (.plain (OpenSpec.ofChange benchUndoesSpec)) benchUndoesCard

/-- THE TIED CARD OF 'tinkerlaw09.BenchReads'. -/
def benchReadsCard : Claim7 := { stood := { row := benchReadsRow, standIns := [], harness := (true, "3a29ede7249917164c5ead39b1de8074277d34fb952a1d1df101981b82761681"), looks := true }, kinds := [], alts := [], laidByText := true, laidKinds := [.data, .data, .data, .data, .handle, .sentinel, .sentinel, .pinned], laidTests := true, laidLooks := .later }
def BenchReadsCardSaid : Prop := Claim7.holds Tryz.pinned (.plain (OpenSpec.ofChange benchReadsSpec)) benchReadsCard

/-- THE TIED CARD OF 'tinkerlaw09.BenchWrites'. -/
def benchWritesCard : Claim7 := { stood := { row := benchWritesRow, standIns := [], harness := (true, "3a29ede7249917164c5ead39b1de8074277d34fb952a1d1df101981b82761681"), looks := true }, kinds := [], alts := [], laidByText := true, laidKinds := [.data, .data, .data, .data, .handle, .sentinel, .sentinel, .pinned], laidTests := true, laidLooks := .later }
def BenchWritesCardSaid : Prop := Claim7.holds Tryz.pinned (.plain (OpenSpec.ofChange benchWritesSpec)) benchWritesCard

/-- THE TIED CARD OF 'tinkerlaw09.BenchMerges'. -/
def benchMergesCard : Claim7 := { stood := { row := benchMergesRow, standIns := [], harness := (true, "3a29ede7249917164c5ead39b1de8074277d34fb952a1d1df101981b82761681"), looks := true }, kinds := [], alts := [], laidByText := true, laidKinds := [.data, .data, .data, .data, .handle, .sentinel, .sentinel, .pinned], laidTests := true, laidLooks := .later }
def BenchMergesCardSaid : Prop := Claim7.holds Tryz.pinned (.plain (OpenSpec.ofChange benchMergesSpec)) benchMergesCard

/-- THE TIED CARD OF 'tinkerlaw09.BenchAudits'. -/
def benchAuditsCard : Claim7 := { stood := { row := benchAuditsRow, standIns := [], harness := (true, "3a29ede7249917164c5ead39b1de8074277d34fb952a1d1df101981b82761681"), looks := true }, kinds := [], alts := [], laidByText := true, laidKinds := [.data, .data, .data, .data, .handle, .sentinel, .sentinel, .pinned], laidTests := true, laidLooks := .later }
def BenchAuditsCardSaid : Prop := Claim7.holds Tryz.pinned (.plain (OpenSpec.ofChange benchAuditsSpec)) benchAuditsCard

/-- THE SECOND FORM's CARD OF 'tinkerlaw09.BenchUndoes'. -/
def benchUndoesUptoCard : Claim7 := { stood := { row := benchUndoesUptoRow, standIns := [], harness := (true, "3a29ede7249917164c5ead39b1de8074277d34fb952a1d1df101981b82761681"), looks := true }, kinds := [], alts := [], laidByText := true, laidKinds := [.data, .data, .data, .data, .handle, .sentinel, .sentinel, .pinned], laidTests := true, laidLooks := .later }
def BenchUndoesUptoCardSaid : Prop := Claim7.holds Tryz.pinned (.plain (OpenSpec.upto benchUndoesSpec)) benchUndoesUptoCard

/-- THE SECOND FORM's CARD OF 'tinkerlaw09.BenchReads'. -/
def benchReadsUptoCard : Claim7 := { stood := { row := benchReadsUptoRow, standIns := [], harness := (true, "3a29ede7249917164c5ead39b1de8074277d34fb952a1d1df101981b82761681"), looks := true }, kinds := [], alts := [], laidByText := true, laidKinds := [.data, .data, .data, .data, .handle, .sentinel, .sentinel, .pinned], laidTests := true, laidLooks := .later }
def BenchReadsUptoCardSaid : Prop := Claim7.holds Tryz.pinned (.plain (OpenSpec.upto benchReadsSpec)) benchReadsUptoCard

/-- THE SECOND FORM's CARD OF 'tinkerlaw09.BenchWrites'. -/
def benchWritesUptoCard : Claim7 := { stood := { row := benchWritesUptoRow, standIns := [], harness := (true, "3a29ede7249917164c5ead39b1de8074277d34fb952a1d1df101981b82761681"), looks := true }, kinds := [], alts := [], laidByText := true, laidKinds := [.data, .data, .data, .data, .handle, .sentinel, .sentinel, .pinned], laidTests := true, laidLooks := .later }
def BenchWritesUptoCardSaid : Prop := Claim7.holds Tryz.pinned (.plain (OpenSpec.upto benchWritesSpec)) benchWritesUptoCard

/-- THE SECOND FORM's CARD OF 'tinkerlaw09.BenchMerges'. -/
def benchMergesUptoCard : Claim7 := { stood := { row := benchMergesUptoRow, standIns := [], harness := (true, "3a29ede7249917164c5ead39b1de8074277d34fb952a1d1df101981b82761681"), looks := true }, kinds := [], alts := [], laidByText := true, laidKinds := [.data, .data, .data, .data, .handle, .sentinel, .sentinel, .pinned], laidTests := true, laidLooks := .later }
def BenchMergesUptoCardSaid : Prop := Claim7.holds Tryz.pinned (.plain (OpenSpec.upto benchMergesSpec)) benchMergesUptoCard

/-- THE SECOND FORM's CARD OF 'tinkerlaw09.BenchAudits'. -/
def benchAuditsUptoCard : Claim7 := { stood := { row := benchAuditsUptoRow, standIns := [], harness := (true, "3a29ede7249917164c5ead39b1de8074277d34fb952a1d1df101981b82761681"), looks := true }, kinds := [], alts := [], laidByText := true, laidKinds := [.data, .data, .data, .data, .handle, .sentinel, .sentinel, .pinned], laidTests := true, laidLooks := .later }
def BenchAuditsUptoCardSaid : Prop := Claim7.holds Tryz.pinned (.plain (OpenSpec.upto benchAuditsSpec)) benchAuditsUptoCard
end Rows
end Go.Proofs.YtihdpbfhkddpcaaGreatDoor
