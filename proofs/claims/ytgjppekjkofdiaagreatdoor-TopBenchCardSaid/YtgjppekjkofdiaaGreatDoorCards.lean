/-
  DERIVED. GIVEN WITH THE SEED: THE CARDS: each row of YtgjppekjkofdiaaGreatDoorRows.lean that lists a variable, with what it lists TIED to the program's text (the seventh form; the later family's looks); each row that meets fmt, with fmt's text TOLD by the authors' own Lean function (tested against real Go, not proved from fmt's source: count such statements apart). THE CARD IS WHAT COUNTS. Prove the row's statement (the work); the ties are given (YtgjppekjkofdiaaGreatDoorTie.lean); close each card by the builder's one call (the guide's Derived/Test/ToyasCard.lean, 'card_holds'). Laid BY PROGRAM, IN A SANDBOX (cutbox-door.mjs). By AI agents, Wed Nov 11 2026. No macro, syntax, notation, axiom, sorry.
-/
import Derived.Test.YtgjppekjkofdiaaGreatDoorRows
import GoSem.ClaimSeven
namespace Go.Proofs.YtgjppekjkofdiaaGreatDoor
namespace Rows

/-- THE TIED CARD OF 'tinkerlaw09.BenchFixes'. -/
def benchFixesCard : Claim7 := { stood := { row := benchFixesRow, standIns := [], harness := (true, "ea58d69b92070e2fa9513aa3374554723843aea54cb4d549963566dded3ca65f"), looks := true }, kinds := [], alts := [], laidByText := true, laidKinds := [.data, .data, .data, .data, .handle, .sentinel, .sentinel, .pinned], laidTests := true, laidLooks := .later }
def BenchFixesCardSaid : Prop := Claim7.holds Tryz.pinned (.plain (OpenSpec.ofChange benchFixesSpec)) benchFixesCard

/-- THE TIED CARD OF 'tinkerlaw09.BenchStands'. -/
def benchStandsCard : Claim7 := { stood := { row := benchStandsRow, standIns := [], harness := (true, "ea58d69b92070e2fa9513aa3374554723843aea54cb4d549963566dded3ca65f"), looks := true }, kinds := [], alts := [], laidByText := true, laidKinds := [.data, .data, .data, .data, .handle, .sentinel, .sentinel, .pinned], laidTests := true, laidLooks := .later }
def BenchStandsCardSaid : Prop := Claim7.holds Tryz.pinned (.plain (OpenSpec.ofChange benchStandsSpec)) benchStandsCard

/-- THE TIED CARD OF 'tinkerlaw09.BenchRuns'. -/
def benchRunsCard : Claim7 := { stood := { row := benchRunsRow, standIns := [], harness := (true, "ea58d69b92070e2fa9513aa3374554723843aea54cb4d549963566dded3ca65f"), looks := true }, kinds := [], alts := [], laidByText := true, laidKinds := [.data, .data, .data, .data, .handle, .sentinel, .sentinel, .pinned], laidTests := true, laidLooks := .later }
def BenchRunsCardSaid : Prop := Claim7.holds Tryz.pinned (.plain (OpenSpec.ofChange benchRunsSpec)) benchRunsCard

/-- THE TIED CARD OF 'tinkertop.TopBook'. -/
def topBookCard : Claim7 := { stood := { row := topBookRow, standIns := [], harness := (true, "ea58d69b92070e2fa9513aa3374554723843aea54cb4d549963566dded3ca65f"), looks := true }, kinds := [], alts := [], laidByText := true, laidKinds := [.data, .data, .data, .data, .handle, .sentinel, .sentinel, .pinned], laidTests := true, laidLooks := .later }
def TopBookCardSaid : Prop := Claim7.holds Tryz.pinned (.plain (OpenSpec.ofChange topBookSpec)) topBookCard

/-- THE TIED CARD OF 'tinkertop.TopReplay'. -/
def topReplayCard : Claim7 := { stood := { row := topReplayRow, standIns := [], harness := (true, "ea58d69b92070e2fa9513aa3374554723843aea54cb4d549963566dded3ca65f"), looks := true }, kinds := [], alts := [], laidByText := true, laidKinds := [.data, .data, .data, .data, .handle, .sentinel, .sentinel, .pinned], laidTests := true, laidLooks := .later }
def TopReplayCardSaid : Prop := Claim7.holds Tryz.pinned (.plain (OpenSpec.ofChange topReplaySpec)) topReplayCard

/-- THE TIED CARD OF 'tinkertop.TopBench'. -/
def topBenchCard : Claim7 := { stood := { row := topBenchRow, standIns := [], harness := (true, "ea58d69b92070e2fa9513aa3374554723843aea54cb4d549963566dded3ca65f"), looks := true }, kinds := [], alts := [], laidByText := true, laidKinds := [.data, .data, .data, .data, .handle, .sentinel, .sentinel, .pinned], laidTests := true, laidLooks := .later }
def TopBenchCardSaid : Prop := Claim7.holds Tryz.pinned (.plain (OpenSpec.ofChange topBenchSpec)) topBenchCard

/-- THE SECOND FORM's CARD OF 'tinkerlaw09.BenchFixes'. -/
def benchFixesUptoCard : Claim7 := { stood := { row := benchFixesUptoRow, standIns := [], harness := (true, "ea58d69b92070e2fa9513aa3374554723843aea54cb4d549963566dded3ca65f"), looks := true }, kinds := [], alts := [], laidByText := true, laidKinds := [.data, .data, .data, .data, .handle, .sentinel, .sentinel, .pinned], laidTests := true, laidLooks := .later }
def BenchFixesUptoCardSaid : Prop := Claim7.holds Tryz.pinned (.plain (OpenSpec.upto benchFixesSpec)) benchFixesUptoCard

/-- THE SECOND FORM's CARD OF 'tinkerlaw09.BenchStands'. -/
def benchStandsUptoCard : Claim7 := { stood := { row := benchStandsUptoRow, standIns := [], harness := (true, "ea58d69b92070e2fa9513aa3374554723843aea54cb4d549963566dded3ca65f"), looks := true }, kinds := [], alts := [], laidByText := true, laidKinds := [.data, .data, .data, .data, .handle, .sentinel, .sentinel, .pinned], laidTests := true, laidLooks := .later }
def BenchStandsUptoCardSaid : Prop := Claim7.holds Tryz.pinned (.plain (OpenSpec.upto benchStandsSpec)) benchStandsUptoCard

/-- THE SECOND FORM's CARD OF 'tinkerlaw09.BenchRuns'. -/
def benchRunsUptoCard : Claim7 := { stood := { row := benchRunsUptoRow, standIns := [], harness := (true, "ea58d69b92070e2fa9513aa3374554723843aea54cb4d549963566dded3ca65f"), looks := true }, kinds := [], alts := [], laidByText := true, laidKinds := [.data, .data, .data, .data, .handle, .sentinel, .sentinel, .pinned], laidTests := true, laidLooks := .later }
def BenchRunsUptoCardSaid : Prop := Claim7.holds Tryz.pinned (.plain (OpenSpec.upto benchRunsSpec)) benchRunsUptoCard

/-- THE SECOND FORM's CARD OF 'tinkertop.TopBook'. -/
def topBookUptoCard : Claim7 := { stood := { row := topBookUptoRow, standIns := [], harness := (true, "ea58d69b92070e2fa9513aa3374554723843aea54cb4d549963566dded3ca65f"), looks := true }, kinds := [], alts := [], laidByText := true, laidKinds := [.data, .data, .data, .data, .handle, .sentinel, .sentinel, .pinned], laidTests := true, laidLooks := .later }
def TopBookUptoCardSaid : Prop := Claim7.holds Tryz.pinned (.plain (OpenSpec.upto topBookSpec)) topBookUptoCard

/-- THE SECOND FORM's CARD OF 'tinkertop.TopReplay'. -/
def topReplayUptoCard : Claim7 := { stood := { row := topReplayUptoRow, standIns := [], harness := (true, "ea58d69b92070e2fa9513aa3374554723843aea54cb4d549963566dded3ca65f"), looks := true }, kinds := [], alts := [], laidByText := true, laidKinds := [.data, .data, .data, .data, .handle, .sentinel, .sentinel, .pinned], laidTests := true, laidLooks := .later }
def TopReplayUptoCardSaid : Prop := Claim7.holds Tryz.pinned (.plain (OpenSpec.upto topReplaySpec)) topReplayUptoCard

/-- THE SECOND FORM's CARD OF 'tinkertop.TopBench'. -/
def topBenchUptoCard : Claim7 := { stood := { row := topBenchUptoRow, standIns := [], harness := (true, "ea58d69b92070e2fa9513aa3374554723843aea54cb4d549963566dded3ca65f"), looks := true }, kinds := [], alts := [], laidByText := true, laidKinds := [.data, .data, .data, .data, .handle, .sentinel, .sentinel, .pinned], laidTests := true, laidLooks := .later }
def TopBenchUptoCardSaid : Prop := Claim7.holds Tryz.pinned (.plain (OpenSpec.upto topBenchSpec)) topBenchUptoCard
end Rows
end Go.Proofs.YtgjppekjkofdiaaGreatDoor
