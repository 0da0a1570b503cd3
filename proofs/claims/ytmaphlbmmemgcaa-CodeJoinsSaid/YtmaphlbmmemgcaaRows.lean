/-
  No cell of these rows narrows 'for every input' (looked for: loops, veiled, ifaces, maps, wideKeys, modest, calm, conditions, laid).
  DERIVED. THE GIVEN ROWS OF THIS SEAT. 12 by the template 'for every input the law returns true; each argument reads behind the call as it read before'; 0 by the template 'total and deterministic' (their statements: YtmaphlbmmemgcaaTotals.lean).
  GIVEN WITH THE SEED: the statements are not yours to turn. If you find one false, say at which input.
  Laid BY PROGRAM, IN A SANDBOX (cutbox-rows.mjs): the forced cells as the released guide's own fill.sh prints them over the translation cba087a3bdbd2339… (all of the seat's roots in one cut). By AI agents, Wed Nov 11 2026. No macro, syntax, notation, axiom, sorry.
-/
import Derived.Test.YtmaphlbmmemgcaaChecked
import GoSem.Claim
import GoSem.ClaimJoined
import GoSem.ClaimMapViews
import Derived.JoinedTies
import Derived.KernelRfl
namespace Go.Proofs.Ytmaphlbmmemgcaa
/- THE CELL 'sum', in the pinned program and in every row, IS THE sha256 OF THE DUMP (.gsa) THAT YtmaphlbmmemgcaaProg.lean LOADS. Nothing in Lean hashes anything: it is a label: what it is worth is what the hold of that sum in a sandbox is worth. -/
noncomputable def Try.pinned : Pinned := { name := "ytmaphlbmmemgcaa", sum := "cba087a3bdbd2339bfdba9508b2566b883141668101742b62530ee7bed1c13df", checked := Try.checked }
namespace Rows
def none {H : Type} : Left H := { results := [], args := [] }

/-- 'tinkerlaw01.CodeSlices': WHATEVER THE INPUT: true; the input reads as it did. -/
def codeSlicesSpec : ChangeSpec := { name := "codeSlices", fn := fun _ => fun
  | [d1, d2, d3] => { results := [.lit (.bool true)], args := [d1, d2, d3] }
  | _ => none }
def codeSlicesRow : OpenClaim := { program := "ytmaphlbmmemgcaa", sum := "cba087a3bdbd2339bfdba9508b2566b883141668101742b62530ee7bed1c13df", func := "tinker/tinkerlaw01.CodeSlices", spec := "codeSlices", unfollowed := true, recurses := true, apart := false }
def CodeSlicesSaid : Prop := codeSlicesRow.holds Try.pinned (OpenSpec.ofChange codeSlicesSpec)

/-- ITS FALSE NEIGHBOUR: 'it returns false'. Refute it at one input. -/
def codeSlicesWrong : ChangeSpec := { name := "codeSlices", fn := fun _ => fun
  | [d1, d2, d3] => { results := [.lit (.bool false)], args := [d1, d2, d3] }
  | _ => none }
def CodeSlicesWrongFalsely : Prop := codeSlicesRow.holds Try.pinned (OpenSpec.ofChange codeSlicesWrong)

/-- 'tinkerlaw01.CodeRuns': WHATEVER THE INPUT: true; the input reads as it did. -/
def codeRunsSpec : ChangeSpec := { name := "codeRuns", fn := fun _ => fun
  | [d1, d2] => { results := [.lit (.bool true)], args := [d1, d2] }
  | _ => none }
def codeRunsRow : OpenClaim := { program := "ytmaphlbmmemgcaa", sum := "cba087a3bdbd2339bfdba9508b2566b883141668101742b62530ee7bed1c13df", func := "tinker/tinkerlaw01.CodeRuns", spec := "codeRuns", unfollowed := true, recurses := true, apart := false }
def CodeRunsSaid : Prop := codeRunsRow.holds Try.pinned (OpenSpec.ofChange codeRunsSpec)

/-- ITS FALSE NEIGHBOUR: 'it returns false'. Refute it at one input. -/
def codeRunsWrong : ChangeSpec := { name := "codeRuns", fn := fun _ => fun
  | [d1, d2] => { results := [.lit (.bool false)], args := [d1, d2] }
  | _ => none }
def CodeRunsWrongFalsely : Prop := codeRunsRow.holds Try.pinned (OpenSpec.ofChange codeRunsWrong)

/-- 'tinkerlaw01.CodeLines': WHATEVER THE INPUT: true; the input reads as it did. -/
def codeLinesSpec : ChangeSpec := { name := "codeLines", fn := fun _ => fun
  | [d] => { results := [.lit (.bool true)], args := [d] }
  | _ => none }
def codeLinesRow : OpenClaim := { program := "ytmaphlbmmemgcaa", sum := "cba087a3bdbd2339bfdba9508b2566b883141668101742b62530ee7bed1c13df", func := "tinker/tinkerlaw01.CodeLines", spec := "codeLines", unfollowed := true, recurses := true, apart := false }
def CodeLinesSaid : Prop := codeLinesRow.holds Try.pinned (OpenSpec.ofChange codeLinesSpec)

/-- ITS FALSE NEIGHBOUR: 'it returns false'. Refute it at one input. -/
def codeLinesWrong : ChangeSpec := { name := "codeLines", fn := fun _ => fun
  | [d] => { results := [.lit (.bool false)], args := [d] }
  | _ => none }
def CodeLinesWrongFalsely : Prop := codeLinesRow.holds Try.pinned (OpenSpec.ofChange codeLinesWrong)

/-- 'tinkerlaw01.CodePuts': WHATEVER THE INPUT: true; the input reads as it did. -/
def codePutsSpec : ChangeSpec := { name := "codePuts", fn := fun _ => fun
  | [d1, d2, d3] => { results := [.lit (.bool true)], args := [d1, d2, d3] }
  | _ => none }
def codePutsRow : OpenClaim := { program := "ytmaphlbmmemgcaa", sum := "cba087a3bdbd2339bfdba9508b2566b883141668101742b62530ee7bed1c13df", func := "tinker/tinkerlaw01.CodePuts", spec := "codePuts", unfollowed := true, recurses := true, apart := false }
def CodePutsSaid : Prop := codePutsRow.holds Try.pinned (OpenSpec.ofChange codePutsSpec)

/-- ITS FALSE NEIGHBOUR: 'it returns false'. Refute it at one input. -/
def codePutsWrong : ChangeSpec := { name := "codePuts", fn := fun _ => fun
  | [d1, d2, d3] => { results := [.lit (.bool false)], args := [d1, d2, d3] }
  | _ => none }
def CodePutsWrongFalsely : Prop := codePutsRow.holds Try.pinned (OpenSpec.ofChange codePutsWrong)

/-- 'tinkerlaw01.CodeBefores': WHATEVER THE INPUT: true; the input reads as it did. -/
def codeBeforesSpec : ChangeSpec := { name := "codeBefores", fn := fun _ => fun
  | [d1, d2, d3] => { results := [.lit (.bool true)], args := [d1, d2, d3] }
  | _ => none }
def codeBeforesRow : OpenClaim := { program := "ytmaphlbmmemgcaa", sum := "cba087a3bdbd2339bfdba9508b2566b883141668101742b62530ee7bed1c13df", func := "tinker/tinkerlaw01.CodeBefores", spec := "codeBefores", unfollowed := true, recurses := true, apart := false }
def CodeBeforesSaid : Prop := codeBeforesRow.holds Try.pinned (OpenSpec.ofChange codeBeforesSpec)

/-- ITS FALSE NEIGHBOUR: 'it returns false'. Refute it at one input. -/
def codeBeforesWrong : ChangeSpec := { name := "codeBefores", fn := fun _ => fun
  | [d1, d2, d3] => { results := [.lit (.bool false)], args := [d1, d2, d3] }
  | _ => none }
def CodeBeforesWrongFalsely : Prop := codeBeforesRow.holds Try.pinned (OpenSpec.ofChange codeBeforesWrong)

/-- 'tinkerlaw01.CodeIndependent': WHATEVER THE INPUT: true; the input reads as it did. -/
def codeIndependentSpec : ChangeSpec := { name := "codeIndependent", fn := fun _ => fun
  | [d1, d2] => { results := [.lit (.bool true)], args := [d1, d2] }
  | _ => none }
def codeIndependentRow : OpenClaim := { program := "ytmaphlbmmemgcaa", sum := "cba087a3bdbd2339bfdba9508b2566b883141668101742b62530ee7bed1c13df", func := "tinker/tinkerlaw01.CodeIndependent", spec := "codeIndependent", unfollowed := true, recurses := true, apart := false }
def CodeIndependentSaid : Prop := codeIndependentRow.holds Try.pinned (OpenSpec.ofChange codeIndependentSpec)

/-- ITS FALSE NEIGHBOUR: 'it returns false'. Refute it at one input. -/
def codeIndependentWrong : ChangeSpec := { name := "codeIndependent", fn := fun _ => fun
  | [d1, d2] => { results := [.lit (.bool false)], args := [d1, d2] }
  | _ => none }
def CodeIndependentWrongFalsely : Prop := codeIndependentRow.holds Try.pinned (OpenSpec.ofChange codeIndependentWrong)

/-- 'tinkerlaw01.CodeJoins': WHATEVER THE INPUT: true; the input reads as it did. -/
def codeJoinsSpec : ChangeSpec := { name := "codeJoins", fn := fun _ => fun
  | [d1, d2, d3] => { results := [.lit (.bool true)], args := [d1, d2, d3] }
  | _ => none }
def codeJoinsRow : OpenClaim := { program := "ytmaphlbmmemgcaa", sum := "cba087a3bdbd2339bfdba9508b2566b883141668101742b62530ee7bed1c13df", func := "tinker/tinkerlaw01.CodeJoins", spec := "codeJoins", unfollowed := true, recurses := true, apart := false }
def CodeJoinsSaid : Prop := codeJoinsRow.holds Try.pinned (OpenSpec.ofChange codeJoinsSpec)

/-- ITS FALSE NEIGHBOUR: 'it returns false'. Refute it at one input. -/
def codeJoinsWrong : ChangeSpec := { name := "codeJoins", fn := fun _ => fun
  | [d1, d2, d3] => { results := [.lit (.bool false)], args := [d1, d2, d3] }
  | _ => none }
def CodeJoinsWrongFalsely : Prop := codeJoinsRow.holds Try.pinned (OpenSpec.ofChange codeJoinsWrong)

/-- 'tinkerlaw01.CodeSteps': WHATEVER THE INPUT: true; the input reads as it did. -/
def codeStepsSpec : ChangeSpec := { name := "codeSteps", fn := fun _ => fun
  | [d1, d2] => { results := [.lit (.bool true)], args := [d1, d2] }
  | _ => none }
def codeStepsRow : OpenClaim := { program := "ytmaphlbmmemgcaa", sum := "cba087a3bdbd2339bfdba9508b2566b883141668101742b62530ee7bed1c13df", func := "tinker/tinkerlaw01.CodeSteps", spec := "codeSteps", unfollowed := true, recurses := true, apart := false }
def CodeStepsSaid : Prop := codeStepsRow.holds Try.pinned (OpenSpec.ofChange codeStepsSpec)

/-- ITS FALSE NEIGHBOUR: 'it returns false'. Refute it at one input. -/
def codeStepsWrong : ChangeSpec := { name := "codeSteps", fn := fun _ => fun
  | [d1, d2] => { results := [.lit (.bool false)], args := [d1, d2] }
  | _ => none }
def CodeStepsWrongFalsely : Prop := codeStepsRow.holds Try.pinned (OpenSpec.ofChange codeStepsWrong)

/-- 'tinkerlaw01.CodeExchanges': WHATEVER THE INPUT: true; the input reads as it did. -/
def codeExchangesSpec : ChangeSpec := { name := "codeExchanges", fn := fun _ => fun
  | [d1, d2, d3] => { results := [.lit (.bool true)], args := [d1, d2, d3] }
  | _ => none }
def codeExchangesRow : OpenClaim := { program := "ytmaphlbmmemgcaa", sum := "cba087a3bdbd2339bfdba9508b2566b883141668101742b62530ee7bed1c13df", func := "tinker/tinkerlaw01.CodeExchanges", spec := "codeExchanges", unfollowed := true, recurses := true, apart := false }
def CodeExchangesSaid : Prop := codeExchangesRow.holds Try.pinned (OpenSpec.ofChange codeExchangesSpec)

/-- ITS FALSE NEIGHBOUR: 'it returns false'. Refute it at one input. -/
def codeExchangesWrong : ChangeSpec := { name := "codeExchanges", fn := fun _ => fun
  | [d1, d2, d3] => { results := [.lit (.bool false)], args := [d1, d2, d3] }
  | _ => none }
def CodeExchangesWrongFalsely : Prop := codeExchangesRow.holds Try.pinned (OpenSpec.ofChange codeExchangesWrong)

/-- 'tinkerlaw01.CodeForces': WHATEVER THE INPUT: true; the input reads as it did. -/
def codeForcesSpec : ChangeSpec := { name := "codeForces", fn := fun _ => fun
  | [d1, d2, d3] => { results := [.lit (.bool true)], args := [d1, d2, d3] }
  | _ => none }
def codeForcesRow : OpenClaim := { program := "ytmaphlbmmemgcaa", sum := "cba087a3bdbd2339bfdba9508b2566b883141668101742b62530ee7bed1c13df", func := "tinker/tinkerlaw01.CodeForces", spec := "codeForces", unfollowed := true, recurses := true, apart := false }
def CodeForcesSaid : Prop := codeForcesRow.holds Try.pinned (OpenSpec.ofChange codeForcesSpec)

/-- ITS FALSE NEIGHBOUR: 'it returns false'. Refute it at one input. -/
def codeForcesWrong : ChangeSpec := { name := "codeForces", fn := fun _ => fun
  | [d1, d2, d3] => { results := [.lit (.bool false)], args := [d1, d2, d3] }
  | _ => none }
def CodeForcesWrongFalsely : Prop := codeForcesRow.holds Try.pinned (OpenSpec.ofChange codeForcesWrong)

/-- 'tinkerlaw01.CodeOutside': WHATEVER THE INPUT: true; the input reads as it did. -/
def codeOutsideSpec : ChangeSpec := { name := "codeOutside", fn := fun _ => fun
  | [d1, d2, d3] => { results := [.lit (.bool true)], args := [d1, d2, d3] }
  | _ => none }
def codeOutsideRow : OpenClaim := { program := "ytmaphlbmmemgcaa", sum := "cba087a3bdbd2339bfdba9508b2566b883141668101742b62530ee7bed1c13df", func := "tinker/tinkerlaw01.CodeOutside", spec := "codeOutside", unfollowed := true, recurses := true, apart := false }
def CodeOutsideSaid : Prop := codeOutsideRow.holds Try.pinned (OpenSpec.ofChange codeOutsideSpec)

/-- ITS FALSE NEIGHBOUR: 'it returns false'. Refute it at one input. -/
def codeOutsideWrong : ChangeSpec := { name := "codeOutside", fn := fun _ => fun
  | [d1, d2, d3] => { results := [.lit (.bool false)], args := [d1, d2, d3] }
  | _ => none }
def CodeOutsideWrongFalsely : Prop := codeOutsideRow.holds Try.pinned (OpenSpec.ofChange codeOutsideWrong)

/-- 'tinkerlaw01.CodeRenames': WHATEVER THE INPUT: true; the input reads as it did. -/
def codeRenamesSpec : ChangeSpec := { name := "codeRenames", fn := fun _ => fun
  | [d1, d2, d3] => { results := [.lit (.bool true)], args := [d1, d2, d3] }
  | _ => none }
def codeRenamesRow : OpenClaim := { program := "ytmaphlbmmemgcaa", sum := "cba087a3bdbd2339bfdba9508b2566b883141668101742b62530ee7bed1c13df", func := "tinker/tinkerlaw01.CodeRenames", spec := "codeRenames", unfollowed := true, recurses := true, apart := false }
def CodeRenamesSaid : Prop := codeRenamesRow.holds Try.pinned (OpenSpec.ofChange codeRenamesSpec)

/-- ITS FALSE NEIGHBOUR: 'it returns false'. Refute it at one input. -/
def codeRenamesWrong : ChangeSpec := { name := "codeRenames", fn := fun _ => fun
  | [d1, d2, d3] => { results := [.lit (.bool false)], args := [d1, d2, d3] }
  | _ => none }
def CodeRenamesWrongFalsely : Prop := codeRenamesRow.holds Try.pinned (OpenSpec.ofChange codeRenamesWrong)

/- THE SECOND FORM. 'bulk': how many values and letters a reading holds, each counted each time it is reached (what is shared counts as often as it is met; a slice's spare places count too). A statement '..UptoSaid' is the law's where the arguments, and the package variables that the reading takes, are together of bulk at most 1048576: NARROWER than '..Said'. Prove '..Said' where nothing that the law and all that it calls make is longer than what came in: it says more and counts as full. Else prove '..UptoSaid'. A law counts once. -/
mutual
def uptoBulk {H : Type} : DataW H → Nat
  | .lit (.string bytes) => bytes.length + 1
  | .lit _ => 1
  | .nil => 1
  | .ptr d => uptoBulk d + 1
  | .slice elems spare => uptoBulkAll elems + uptoBulkAll spare + 1
  | .agg parts => uptoBulkAll parts + 1
  | .iface _ d => uptoBulk d + 1
  | .map entries => uptoBulkEntries entries + 1
  | .held _ => 1
def uptoBulkAll {H : Type} : List (DataW H) → Nat
  | [] => 0
  | d :: r => uptoBulk d + uptoBulkAll r
def uptoBulkEntries {H : Type} : List (Lit × DataW H) → Nat
  | [] => 0
  | x :: r => uptoBulkEntry x + uptoBulkEntries r
def uptoBulkEntry {H : Type} : Lit × DataW H → Nat
  | (.string bytes, d) => bytes.length + uptoBulk d + 1
  | (_, d) => uptoBulk d + 1
 end
def uptoSmall : (H : Type) → List (DataW H) → Bool := fun _ ds => decide (uptoBulkAll ds ≤ 1048576)
def OpenSpec.upto (s : _root_.Go.ChangeSpec) : _root_.Go.OpenSpec := { _root_.Go.OpenSpec.ofChange s with cond := some uptoSmall }

/-- 'tinkerlaw01.CodeSlices', WHERE WHAT IT READS IS OF BULK AT MOST 1048576: true; the input reads as it did. -/
def codeSlicesUptoRow : OpenClaim := { program := "ytmaphlbmmemgcaa", sum := "cba087a3bdbd2339bfdba9508b2566b883141668101742b62530ee7bed1c13df", func := "tinker/tinkerlaw01.CodeSlices", spec := "codeSlices", unfollowed := true, recurses := true, apart := false, narrowed := true }
def CodeSlicesUptoSaid : Prop := codeSlicesUptoRow.holds Try.pinned (OpenSpec.upto codeSlicesSpec)

/-- 'tinkerlaw01.CodeRuns', WHERE WHAT IT READS IS OF BULK AT MOST 1048576: true; the input reads as it did. -/
def codeRunsUptoRow : OpenClaim := { program := "ytmaphlbmmemgcaa", sum := "cba087a3bdbd2339bfdba9508b2566b883141668101742b62530ee7bed1c13df", func := "tinker/tinkerlaw01.CodeRuns", spec := "codeRuns", unfollowed := true, recurses := true, apart := false, narrowed := true }
def CodeRunsUptoSaid : Prop := codeRunsUptoRow.holds Try.pinned (OpenSpec.upto codeRunsSpec)

/-- 'tinkerlaw01.CodeLines', WHERE WHAT IT READS IS OF BULK AT MOST 1048576: true; the input reads as it did. -/
def codeLinesUptoRow : OpenClaim := { program := "ytmaphlbmmemgcaa", sum := "cba087a3bdbd2339bfdba9508b2566b883141668101742b62530ee7bed1c13df", func := "tinker/tinkerlaw01.CodeLines", spec := "codeLines", unfollowed := true, recurses := true, apart := false, narrowed := true }
def CodeLinesUptoSaid : Prop := codeLinesUptoRow.holds Try.pinned (OpenSpec.upto codeLinesSpec)

/-- 'tinkerlaw01.CodePuts', WHERE WHAT IT READS IS OF BULK AT MOST 1048576: true; the input reads as it did. -/
def codePutsUptoRow : OpenClaim := { program := "ytmaphlbmmemgcaa", sum := "cba087a3bdbd2339bfdba9508b2566b883141668101742b62530ee7bed1c13df", func := "tinker/tinkerlaw01.CodePuts", spec := "codePuts", unfollowed := true, recurses := true, apart := false, narrowed := true }
def CodePutsUptoSaid : Prop := codePutsUptoRow.holds Try.pinned (OpenSpec.upto codePutsSpec)

/-- 'tinkerlaw01.CodeBefores', WHERE WHAT IT READS IS OF BULK AT MOST 1048576: true; the input reads as it did. -/
def codeBeforesUptoRow : OpenClaim := { program := "ytmaphlbmmemgcaa", sum := "cba087a3bdbd2339bfdba9508b2566b883141668101742b62530ee7bed1c13df", func := "tinker/tinkerlaw01.CodeBefores", spec := "codeBefores", unfollowed := true, recurses := true, apart := false, narrowed := true }
def CodeBeforesUptoSaid : Prop := codeBeforesUptoRow.holds Try.pinned (OpenSpec.upto codeBeforesSpec)

/-- 'tinkerlaw01.CodeIndependent', WHERE WHAT IT READS IS OF BULK AT MOST 1048576: true; the input reads as it did. -/
def codeIndependentUptoRow : OpenClaim := { program := "ytmaphlbmmemgcaa", sum := "cba087a3bdbd2339bfdba9508b2566b883141668101742b62530ee7bed1c13df", func := "tinker/tinkerlaw01.CodeIndependent", spec := "codeIndependent", unfollowed := true, recurses := true, apart := false, narrowed := true }
def CodeIndependentUptoSaid : Prop := codeIndependentUptoRow.holds Try.pinned (OpenSpec.upto codeIndependentSpec)

/-- 'tinkerlaw01.CodeJoins', WHERE WHAT IT READS IS OF BULK AT MOST 1048576: true; the input reads as it did. -/
def codeJoinsUptoRow : OpenClaim := { program := "ytmaphlbmmemgcaa", sum := "cba087a3bdbd2339bfdba9508b2566b883141668101742b62530ee7bed1c13df", func := "tinker/tinkerlaw01.CodeJoins", spec := "codeJoins", unfollowed := true, recurses := true, apart := false, narrowed := true }
def CodeJoinsUptoSaid : Prop := codeJoinsUptoRow.holds Try.pinned (OpenSpec.upto codeJoinsSpec)

/-- 'tinkerlaw01.CodeSteps', WHERE WHAT IT READS IS OF BULK AT MOST 1048576: true; the input reads as it did. -/
def codeStepsUptoRow : OpenClaim := { program := "ytmaphlbmmemgcaa", sum := "cba087a3bdbd2339bfdba9508b2566b883141668101742b62530ee7bed1c13df", func := "tinker/tinkerlaw01.CodeSteps", spec := "codeSteps", unfollowed := true, recurses := true, apart := false, narrowed := true }
def CodeStepsUptoSaid : Prop := codeStepsUptoRow.holds Try.pinned (OpenSpec.upto codeStepsSpec)

/-- 'tinkerlaw01.CodeExchanges', WHERE WHAT IT READS IS OF BULK AT MOST 1048576: true; the input reads as it did. -/
def codeExchangesUptoRow : OpenClaim := { program := "ytmaphlbmmemgcaa", sum := "cba087a3bdbd2339bfdba9508b2566b883141668101742b62530ee7bed1c13df", func := "tinker/tinkerlaw01.CodeExchanges", spec := "codeExchanges", unfollowed := true, recurses := true, apart := false, narrowed := true }
def CodeExchangesUptoSaid : Prop := codeExchangesUptoRow.holds Try.pinned (OpenSpec.upto codeExchangesSpec)

/-- 'tinkerlaw01.CodeForces', WHERE WHAT IT READS IS OF BULK AT MOST 1048576: true; the input reads as it did. -/
def codeForcesUptoRow : OpenClaim := { program := "ytmaphlbmmemgcaa", sum := "cba087a3bdbd2339bfdba9508b2566b883141668101742b62530ee7bed1c13df", func := "tinker/tinkerlaw01.CodeForces", spec := "codeForces", unfollowed := true, recurses := true, apart := false, narrowed := true }
def CodeForcesUptoSaid : Prop := codeForcesUptoRow.holds Try.pinned (OpenSpec.upto codeForcesSpec)

/-- 'tinkerlaw01.CodeOutside', WHERE WHAT IT READS IS OF BULK AT MOST 1048576: true; the input reads as it did. -/
def codeOutsideUptoRow : OpenClaim := { program := "ytmaphlbmmemgcaa", sum := "cba087a3bdbd2339bfdba9508b2566b883141668101742b62530ee7bed1c13df", func := "tinker/tinkerlaw01.CodeOutside", spec := "codeOutside", unfollowed := true, recurses := true, apart := false, narrowed := true }
def CodeOutsideUptoSaid : Prop := codeOutsideUptoRow.holds Try.pinned (OpenSpec.upto codeOutsideSpec)

/-- 'tinkerlaw01.CodeRenames', WHERE WHAT IT READS IS OF BULK AT MOST 1048576: true; the input reads as it did. -/
def codeRenamesUptoRow : OpenClaim := { program := "ytmaphlbmmemgcaa", sum := "cba087a3bdbd2339bfdba9508b2566b883141668101742b62530ee7bed1c13df", func := "tinker/tinkerlaw01.CodeRenames", spec := "codeRenames", unfollowed := true, recurses := true, apart := false, narrowed := true }
def CodeRenamesUptoSaid : Prop := codeRenamesUptoRow.holds Try.pinned (OpenSpec.upto codeRenamesSpec)

end Rows
end Go.Proofs.Ytmaphlbmmemgcaa
