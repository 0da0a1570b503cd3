/-
  No cell of these rows narrows 'for every input' (looked for: loops, veiled, ifaces, maps, wideKeys, modest, calm, conditions, laid).
  DERIVED. THE GIVEN ROWS OF THIS SEAT. 14 by the template 'for every input the law returns true; each argument reads behind the call as it read before'; 0 by the template 'total and deterministic' (their statements: YtmlbgfnddgbpbaaGreatTotals.lean).
  GIVEN WITH THE SEED: the statements are not yours to turn. If you find one false, say at which input.
  Laid BY PROGRAM, IN A SANDBOX (cutbox-rows.mjs): the forced cells as the released guide's own fill.sh prints them over the translation f3e9e2a5ae6104dc… (all of the seat's roots in one cut). By AI agents, Wed Nov 11 2026. No macro, syntax, notation, axiom, sorry.
-/
import Derived.Test.YtmlbgfnddgbpbaaGreatChecked
import GoSem.Claim
import GoSem.ClaimJoined
import GoSem.ClaimMapViews
import Derived.JoinedTies
import Derived.KernelRfl
namespace Go.Proofs.YtmlbgfnddgbpbaaGreat
/- THE CELL 'sum', in the pinned program and in every row, IS THE sha256 OF THE DUMP (.gsa) THAT YtmlbgfnddgbpbaaGreatProg.lean LOADS. Nothing in Lean hashes anything: it is a label: what it is worth is what the hold of that sum in a sandbox is worth. -/
noncomputable def Tryz.pinned : Pinned := { name := "ytmlbgfnddgbpbaagreat", sum := "f3e9e2a5ae6104dcd45602b194bd03c664b72199515b4e995a4675d08d41569b", checked := Tryz.checked }
namespace Rows
def none {H : Type} : Left H := { results := [], args := [] }

/-- 'tinkerlaw03.BlameBlockers': WHATEVER THE INPUT: true; the input reads as it did. -/
def blameBlockersSpec : ChangeSpec := { name := "blameBlockers", fn := fun _ => fun
  | [d] => { results := [.lit (.bool true)], args := [d] }
  | _ => none }
def blameBlockersRow : OpenClaim := { program := "ytmlbgfnddgbpbaagreat", sum := "f3e9e2a5ae6104dcd45602b194bd03c664b72199515b4e995a4675d08d41569b", func := "tinker/tinkerlaw03.BlameBlockers", spec := "blameBlockers", unfollowed := true, recurses := true, plainKeys := false, apart := false }
def BlameBlockersSaid : Prop := blameBlockersRow.holds Tryz.pinned (OpenSpec.ofChange blameBlockersSpec)

/-- ITS FALSE NEIGHBOUR: 'it returns false'. Refute it at one input. -/
def blameBlockersWrong : ChangeSpec := { name := "blameBlockers", fn := fun _ => fun
  | [d] => { results := [.lit (.bool false)], args := [d] }
  | _ => none }
def BlameBlockersWrongFalsely : Prop := blameBlockersRow.holds Tryz.pinned (OpenSpec.ofChange blameBlockersWrong)

/-- 'tinkerlaw03.BlameLeast': WHATEVER THE INPUT: true; the input reads as it did. -/
def blameLeastSpec : ChangeSpec := { name := "blameLeast", fn := fun _ => fun
  | [d] => { results := [.lit (.bool true)], args := [d] }
  | _ => none }
def blameLeastRow : OpenClaim := { program := "ytmlbgfnddgbpbaagreat", sum := "f3e9e2a5ae6104dcd45602b194bd03c664b72199515b4e995a4675d08d41569b", func := "tinker/tinkerlaw03.BlameLeast", spec := "blameLeast", unfollowed := true, recurses := true, plainKeys := false, apart := false }
def BlameLeastSaid : Prop := blameLeastRow.holds Tryz.pinned (OpenSpec.ofChange blameLeastSpec)

/-- ITS FALSE NEIGHBOUR: 'it returns false'. Refute it at one input. -/
def blameLeastWrong : ChangeSpec := { name := "blameLeast", fn := fun _ => fun
  | [d] => { results := [.lit (.bool false)], args := [d] }
  | _ => none }
def BlameLeastWrongFalsely : Prop := blameLeastRow.holds Tryz.pinned (OpenSpec.ofChange blameLeastWrong)

/-- 'tinkerlaw03.BlameHits': WHATEVER THE INPUT: true; the input reads as it did. -/
def blameHitsSpec : ChangeSpec := { name := "blameHits", fn := fun _ => fun
  | [d1, d2] => { results := [.lit (.bool true)], args := [d1, d2] }
  | _ => none }
def blameHitsRow : OpenClaim := { program := "ytmlbgfnddgbpbaagreat", sum := "f3e9e2a5ae6104dcd45602b194bd03c664b72199515b4e995a4675d08d41569b", func := "tinker/tinkerlaw03.BlameHits", spec := "blameHits", unfollowed := true, recurses := true, plainKeys := false, apart := false }
def BlameHitsSaid : Prop := blameHitsRow.holds Tryz.pinned (OpenSpec.ofChange blameHitsSpec)

/-- ITS FALSE NEIGHBOUR: 'it returns false'. Refute it at one input. -/
def blameHitsWrong : ChangeSpec := { name := "blameHits", fn := fun _ => fun
  | [d1, d2] => { results := [.lit (.bool false)], args := [d1, d2] }
  | _ => none }
def BlameHitsWrongFalsely : Prop := blameHitsRow.holds Tryz.pinned (OpenSpec.ofChange blameHitsWrong)

/-- 'tinkerlaw03.BlamePasses': WHATEVER THE INPUT: true; the input reads as it did. -/
def blamePassesSpec : ChangeSpec := { name := "blamePasses", fn := fun _ => fun
  | [d1, d2, d3] => { results := [.lit (.bool true)], args := [d1, d2, d3] }
  | _ => none }
def blamePassesRow : OpenClaim := { program := "ytmlbgfnddgbpbaagreat", sum := "f3e9e2a5ae6104dcd45602b194bd03c664b72199515b4e995a4675d08d41569b", func := "tinker/tinkerlaw03.BlamePasses", spec := "blamePasses", unfollowed := true, recurses := true, plainKeys := false, apart := false }
def BlamePassesSaid : Prop := blamePassesRow.holds Tryz.pinned (OpenSpec.ofChange blamePassesSpec)

/-- ITS FALSE NEIGHBOUR: 'it returns false'. Refute it at one input. -/
def blamePassesWrong : ChangeSpec := { name := "blamePasses", fn := fun _ => fun
  | [d1, d2, d3] => { results := [.lit (.bool false)], args := [d1, d2, d3] }
  | _ => none }
def BlamePassesWrongFalsely : Prop := blamePassesRow.holds Tryz.pinned (OpenSpec.ofChange blamePassesWrong)

/-- 'tinkerlaw03.BlameAll': WHATEVER THE INPUT: true; the input reads as it did. -/
def blameAllSpec : ChangeSpec := { name := "blameAll", fn := fun _ => fun
  | [d1, d2, d3] => { results := [.lit (.bool true)], args := [d1, d2, d3] }
  | _ => none }
def blameAllRow : OpenClaim := { program := "ytmlbgfnddgbpbaagreat", sum := "f3e9e2a5ae6104dcd45602b194bd03c664b72199515b4e995a4675d08d41569b", func := "tinker/tinkerlaw03.BlameAll", spec := "blameAll", unfollowed := true, recurses := true, plainKeys := false, apart := false }
def BlameAllSaid : Prop := blameAllRow.holds Tryz.pinned (OpenSpec.ofChange blameAllSpec)

/-- ITS FALSE NEIGHBOUR: 'it returns false'. Refute it at one input. -/
def blameAllWrong : ChangeSpec := { name := "blameAll", fn := fun _ => fun
  | [d1, d2, d3] => { results := [.lit (.bool false)], args := [d1, d2, d3] }
  | _ => none }
def BlameAllWrongFalsely : Prop := blameAllRow.holds Tryz.pinned (OpenSpec.ofChange blameAllWrong)

/-- 'tinkerlaw03.BlameWithout': WHATEVER THE INPUT: true; the input reads as it did. -/
def blameWithoutSpec : ChangeSpec := { name := "blameWithout", fn := fun _ => fun
  | [d1, d2] => { results := [.lit (.bool true)], args := [d1, d2] }
  | _ => none }
def blameWithoutRow : OpenClaim := { program := "ytmlbgfnddgbpbaagreat", sum := "f3e9e2a5ae6104dcd45602b194bd03c664b72199515b4e995a4675d08d41569b", func := "tinker/tinkerlaw03.BlameWithout", spec := "blameWithout", unfollowed := true, recurses := true, plainKeys := false, apart := false }
def BlameWithoutSaid : Prop := blameWithoutRow.holds Tryz.pinned (OpenSpec.ofChange blameWithoutSpec)

/-- ITS FALSE NEIGHBOUR: 'it returns false'. Refute it at one input. -/
def blameWithoutWrong : ChangeSpec := { name := "blameWithout", fn := fun _ => fun
  | [d1, d2] => { results := [.lit (.bool false)], args := [d1, d2] }
  | _ => none }
def BlameWithoutWrongFalsely : Prop := blameWithoutRow.holds Tryz.pinned (OpenSpec.ofChange blameWithoutWrong)

/-- 'tinkerlaw03.BlameCommon': WHATEVER THE INPUT: true; the input reads as it did. -/
def blameCommonSpec : ChangeSpec := { name := "blameCommon", fn := fun _ => fun
  | [d1, d2] => { results := [.lit (.bool true)], args := [d1, d2] }
  | _ => none }
def blameCommonRow : OpenClaim := { program := "ytmlbgfnddgbpbaagreat", sum := "f3e9e2a5ae6104dcd45602b194bd03c664b72199515b4e995a4675d08d41569b", func := "tinker/tinkerlaw03.BlameCommon", spec := "blameCommon", unfollowed := true, recurses := true, plainKeys := false, apart := false }
def BlameCommonSaid : Prop := blameCommonRow.holds Tryz.pinned (OpenSpec.ofChange blameCommonSpec)

/-- ITS FALSE NEIGHBOUR: 'it returns false'. Refute it at one input. -/
def blameCommonWrong : ChangeSpec := { name := "blameCommon", fn := fun _ => fun
  | [d1, d2] => { results := [.lit (.bool false)], args := [d1, d2] }
  | _ => none }
def BlameCommonWrongFalsely : Prop := blameCommonRow.holds Tryz.pinned (OpenSpec.ofChange blameCommonWrong)

/-- 'tinkerlaw03.BlameChecks': WHATEVER THE INPUT: true; the input reads as it did. -/
def blameChecksSpec : ChangeSpec := { name := "blameChecks", fn := fun _ => fun
  | [d1, d2] => { results := [.lit (.bool true)], args := [d1, d2] }
  | _ => none }
def blameChecksRow : OpenClaim := { program := "ytmlbgfnddgbpbaagreat", sum := "f3e9e2a5ae6104dcd45602b194bd03c664b72199515b4e995a4675d08d41569b", func := "tinker/tinkerlaw03.BlameChecks", spec := "blameChecks", unfollowed := true, recurses := true, plainKeys := false, apart := false }
def BlameChecksSaid : Prop := blameChecksRow.holds Tryz.pinned (OpenSpec.ofChange blameChecksSpec)

/-- ITS FALSE NEIGHBOUR: 'it returns false'. Refute it at one input. -/
def blameChecksWrong : ChangeSpec := { name := "blameChecks", fn := fun _ => fun
  | [d1, d2] => { results := [.lit (.bool false)], args := [d1, d2] }
  | _ => none }
def BlameChecksWrongFalsely : Prop := blameChecksRow.holds Tryz.pinned (OpenSpec.ofChange blameChecksWrong)

/-- 'tinkerlaw03.BlameCan': WHATEVER THE INPUT: true; the input reads as it did. -/
def blameCanSpec : ChangeSpec := { name := "blameCan", fn := fun _ => fun
  | [d1, d2, d3] => { results := [.lit (.bool true)], args := [d1, d2, d3] }
  | _ => none }
def blameCanRow : OpenClaim := { program := "ytmlbgfnddgbpbaagreat", sum := "f3e9e2a5ae6104dcd45602b194bd03c664b72199515b4e995a4675d08d41569b", func := "tinker/tinkerlaw03.BlameCan", spec := "blameCan", unfollowed := true, recurses := true, plainKeys := false, apart := false }
def BlameCanSaid : Prop := blameCanRow.holds Tryz.pinned (OpenSpec.ofChange blameCanSpec)

/-- ITS FALSE NEIGHBOUR: 'it returns false'. Refute it at one input. -/
def blameCanWrong : ChangeSpec := { name := "blameCan", fn := fun _ => fun
  | [d1, d2, d3] => { results := [.lit (.bool false)], args := [d1, d2, d3] }
  | _ => none }
def BlameCanWrongFalsely : Prop := blameCanRow.holds Tryz.pinned (OpenSpec.ofChange blameCanWrong)

/-- 'tinkerlaw03.BlameSmallest': WHATEVER THE INPUT: true; the input reads as it did. -/
def blameSmallestSpec : ChangeSpec := { name := "blameSmallest", fn := fun _ => fun
  | [d] => { results := [.lit (.bool true)], args := [d] }
  | _ => none }
def blameSmallestRow : OpenClaim := { program := "ytmlbgfnddgbpbaagreat", sum := "f3e9e2a5ae6104dcd45602b194bd03c664b72199515b4e995a4675d08d41569b", func := "tinker/tinkerlaw03.BlameSmallest", spec := "blameSmallest", unfollowed := true, recurses := true, plainKeys := false, apart := false }
def BlameSmallestSaid : Prop := blameSmallestRow.holds Tryz.pinned (OpenSpec.ofChange blameSmallestSpec)

/-- ITS FALSE NEIGHBOUR: 'it returns false'. Refute it at one input. -/
def blameSmallestWrong : ChangeSpec := { name := "blameSmallest", fn := fun _ => fun
  | [d] => { results := [.lit (.bool false)], args := [d] }
  | _ => none }
def BlameSmallestWrongFalsely : Prop := blameSmallestRow.holds Tryz.pinned (OpenSpec.ofChange blameSmallestWrong)

/-- 'tinkerlaw03.BlameApart': WHATEVER THE INPUT: true; the input reads as it did. -/
def blameApartSpec : ChangeSpec := { name := "blameApart", fn := fun _ => fun
  | [d] => { results := [.lit (.bool true)], args := [d] }
  | _ => none }
def blameApartRow : OpenClaim := { program := "ytmlbgfnddgbpbaagreat", sum := "f3e9e2a5ae6104dcd45602b194bd03c664b72199515b4e995a4675d08d41569b", func := "tinker/tinkerlaw03.BlameApart", spec := "blameApart", unfollowed := true, recurses := true, plainKeys := false, apart := false }
def BlameApartSaid : Prop := blameApartRow.holds Tryz.pinned (OpenSpec.ofChange blameApartSpec)

/-- ITS FALSE NEIGHBOUR: 'it returns false'. Refute it at one input. -/
def blameApartWrong : ChangeSpec := { name := "blameApart", fn := fun _ => fun
  | [d] => { results := [.lit (.bool false)], args := [d] }
  | _ => none }
def BlameApartWrongFalsely : Prop := blameApartRow.holds Tryz.pinned (OpenSpec.ofChange blameApartWrong)

/-- 'tinkerlaw03.BlameBlames': WHATEVER THE INPUT: true; the input reads as it did. -/
def blameBlamesSpec : ChangeSpec := { name := "blameBlames", fn := fun _ => fun
  | [d1, d2, d3] => { results := [.lit (.bool true)], args := [d1, d2, d3] }
  | _ => none }
def blameBlamesRow : OpenClaim := { program := "ytmlbgfnddgbpbaagreat", sum := "f3e9e2a5ae6104dcd45602b194bd03c664b72199515b4e995a4675d08d41569b", func := "tinker/tinkerlaw03.BlameBlames", spec := "blameBlames", unfollowed := true, recurses := true, plainKeys := false, apart := false }
def BlameBlamesSaid : Prop := blameBlamesRow.holds Tryz.pinned (OpenSpec.ofChange blameBlamesSpec)

/-- ITS FALSE NEIGHBOUR: 'it returns false'. Refute it at one input. -/
def blameBlamesWrong : ChangeSpec := { name := "blameBlames", fn := fun _ => fun
  | [d1, d2, d3] => { results := [.lit (.bool false)], args := [d1, d2, d3] }
  | _ => none }
def BlameBlamesWrongFalsely : Prop := blameBlamesRow.holds Tryz.pinned (OpenSpec.ofChange blameBlamesWrong)

/-- 'tinkerlaw03.BlameSlices': WHATEVER THE INPUT: true; the input reads as it did. -/
def blameSlicesSpec : ChangeSpec := { name := "blameSlices", fn := fun _ => fun
  | [d1, d2] => { results := [.lit (.bool true)], args := [d1, d2] }
  | _ => none }
def blameSlicesRow : OpenClaim := { program := "ytmlbgfnddgbpbaagreat", sum := "f3e9e2a5ae6104dcd45602b194bd03c664b72199515b4e995a4675d08d41569b", func := "tinker/tinkerlaw03.BlameSlices", spec := "blameSlices", unfollowed := true, recurses := true, plainKeys := false, apart := false }
def BlameSlicesSaid : Prop := blameSlicesRow.holds Tryz.pinned (OpenSpec.ofChange blameSlicesSpec)

/-- ITS FALSE NEIGHBOUR: 'it returns false'. Refute it at one input. -/
def blameSlicesWrong : ChangeSpec := { name := "blameSlices", fn := fun _ => fun
  | [d1, d2] => { results := [.lit (.bool false)], args := [d1, d2] }
  | _ => none }
def BlameSlicesWrongFalsely : Prop := blameSlicesRow.holds Tryz.pinned (OpenSpec.ofChange blameSlicesWrong)

/-- 'tinkertop.TopBlames': WHATEVER THE INPUT: true; the input reads as it did. -/
def topBlamesSpec : ChangeSpec := { name := "topBlames", fn := fun _ => fun
  | [d1, d2] => { results := [.lit (.bool true)], args := [d1, d2] }
  | _ => none }
def topBlamesRow : OpenClaim := { program := "ytmlbgfnddgbpbaagreat", sum := "f3e9e2a5ae6104dcd45602b194bd03c664b72199515b4e995a4675d08d41569b", func := "tinker/tinkertop.TopBlames", spec := "topBlames", unfollowed := true, recurses := true, plainKeys := false, apart := false }
def TopBlamesSaid : Prop := topBlamesRow.holds Tryz.pinned (OpenSpec.ofChange topBlamesSpec)

/-- ITS FALSE NEIGHBOUR: 'it returns false'. Refute it at one input. -/
def topBlamesWrong : ChangeSpec := { name := "topBlames", fn := fun _ => fun
  | [d1, d2] => { results := [.lit (.bool false)], args := [d1, d2] }
  | _ => none }
def TopBlamesWrongFalsely : Prop := topBlamesRow.holds Tryz.pinned (OpenSpec.ofChange topBlamesWrong)

/- THE SECOND FORM. 'bulk': how many values and letters a reading holds, each counted each time it is reached (what is shared counts as often as it is met; a slice's spare places count too). A statement '..UptoSaid' is the law's where the arguments, and the package variables that the reading takes, are together of bulk at most 1048576: NARROWER than '..Said'. Prove '..Said' where nothing that the law and all that it calls make is longer than what came in: it says more and counts as full. Else prove '..UptoSaid'. A law counts once. -/
mutual
def uptoBulk {H : Type} : DataW H → Nat
  | .lit (.string bytes) => bytes.length + 1
  | .lit _ => 1
  | .nil => 1
  | .ptr d => uptoBulk d + 1
  | .slice elems spare => uptoBulkAll elems + uptoBulkAll spare + 1
  | .agg parts => uptoBulkAll parts + 1
  | .iface _ d => uptoBulk d + 1
  | .map entries => uptoBulkEntries entries + 1
  | .held _ => 1
def uptoBulkAll {H : Type} : List (DataW H) → Nat
  | [] => 0
  | d :: r => uptoBulk d + uptoBulkAll r
def uptoBulkEntries {H : Type} : List (Lit × DataW H) → Nat
  | [] => 0
  | x :: r => uptoBulkEntry x + uptoBulkEntries r
def uptoBulkEntry {H : Type} : Lit × DataW H → Nat
  | (.string bytes, d) => bytes.length + uptoBulk d + 1
  | (_, d) => uptoBulk d + 1
 end
def uptoSmall : (H : Type) → List (DataW H) → Bool := fun _ ds => decide (uptoBulkAll ds ≤ 1048576)
def OpenSpec.upto (s : _root_.Go.ChangeSpec) : _root_.Go.OpenSpec := { _root_.Go.OpenSpec.ofChange s with cond := some uptoSmall }

/-- 'tinkerlaw03.BlameBlockers', WHERE WHAT IT READS IS OF BULK AT MOST 1048576: true; the input reads as it did. -/
def blameBlockersUptoRow : OpenClaim := { program := "ytmlbgfnddgbpbaagreat", sum := "f3e9e2a5ae6104dcd45602b194bd03c664b72199515b4e995a4675d08d41569b", func := "tinker/tinkerlaw03.BlameBlockers", spec := "blameBlockers", unfollowed := true, recurses := true, plainKeys := false, apart := false, narrowed := true }
def BlameBlockersUptoSaid : Prop := blameBlockersUptoRow.holds Tryz.pinned (OpenSpec.upto blameBlockersSpec)

/-- 'tinkerlaw03.BlameLeast', WHERE WHAT IT READS IS OF BULK AT MOST 1048576: true; the input reads as it did. -/
def blameLeastUptoRow : OpenClaim := { program := "ytmlbgfnddgbpbaagreat", sum := "f3e9e2a5ae6104dcd45602b194bd03c664b72199515b4e995a4675d08d41569b", func := "tinker/tinkerlaw03.BlameLeast", spec := "blameLeast", unfollowed := true, recurses := true, plainKeys := false, apart := false, narrowed := true }
def BlameLeastUptoSaid : Prop := blameLeastUptoRow.holds Tryz.pinned (OpenSpec.upto blameLeastSpec)

/-- 'tinkerlaw03.BlameHits', WHERE WHAT IT READS IS OF BULK AT MOST 1048576: true; the input reads as it did. -/
def blameHitsUptoRow : OpenClaim := { program := "ytmlbgfnddgbpbaagreat", sum := "f3e9e2a5ae6104dcd45602b194bd03c664b72199515b4e995a4675d08d41569b", func := "tinker/tinkerlaw03.BlameHits", spec := "blameHits", unfollowed := true, recurses := true, plainKeys := false, apart := false, narrowed := true }
def BlameHitsUptoSaid : Prop := blameHitsUptoRow.holds Tryz.pinned (OpenSpec.upto blameHitsSpec)

/-- 'tinkerlaw03.BlamePasses', WHERE WHAT IT READS IS OF BULK AT MOST 1048576: true; the input reads as it did. -/
def blamePassesUptoRow : OpenClaim := { program := "ytmlbgfnddgbpbaagreat", sum := "f3e9e2a5ae6104dcd45602b194bd03c664b72199515b4e995a4675d08d41569b", func := "tinker/tinkerlaw03.BlamePasses", spec := "blamePasses", unfollowed := true, recurses := true, plainKeys := false, apart := false, narrowed := true }
def BlamePassesUptoSaid : Prop := blamePassesUptoRow.holds Tryz.pinned (OpenSpec.upto blamePassesSpec)

/-- 'tinkerlaw03.BlameAll', WHERE WHAT IT READS IS OF BULK AT MOST 1048576: true; the input reads as it did. -/
def blameAllUptoRow : OpenClaim := { program := "ytmlbgfnddgbpbaagreat", sum := "f3e9e2a5ae6104dcd45602b194bd03c664b72199515b4e995a4675d08d41569b", func := "tinker/tinkerlaw03.BlameAll", spec := "blameAll", unfollowed := true, recurses := true, plainKeys := false, apart := false, narrowed := true }
def BlameAllUptoSaid : Prop := blameAllUptoRow.holds Tryz.pinned (OpenSpec.upto blameAllSpec)

/-- 'tinkerlaw03.BlameWithout', WHERE WHAT IT READS IS OF BULK AT MOST 1048576: true; the input reads as it did. -/
def blameWithoutUptoRow : OpenClaim := { program := "ytmlbgfnddgbpbaagreat", sum := "f3e9e2a5ae6104dcd45602b194bd03c664b72199515b4e995a4675d08d41569b", func := "tinker/tinkerlaw03.BlameWithout", spec := "blameWithout", unfollowed := true, recurses := true, plainKeys := false, apart := false, narrowed := true }
def BlameWithoutUptoSaid : Prop := blameWithoutUptoRow.holds Tryz.pinned (OpenSpec.upto blameWithoutSpec)

/-- 'tinkerlaw03.BlameCommon', WHERE WHAT IT READS IS OF BULK AT MOST 1048576: true; the input reads as it did. -/
def blameCommonUptoRow : OpenClaim := { program := "ytmlbgfnddgbpbaagreat", sum := "f3e9e2a5ae6104dcd45602b194bd03c664b72199515b4e995a4675d08d41569b", func := "tinker/tinkerlaw03.BlameCommon", spec := "blameCommon", unfollowed := true, recurses := true, plainKeys := false, apart := false, narrowed := true }
def BlameCommonUptoSaid : Prop := blameCommonUptoRow.holds Tryz.pinned (OpenSpec.upto blameCommonSpec)

/-- 'tinkerlaw03.BlameChecks', WHERE WHAT IT READS IS OF BULK AT MOST 1048576: true; the input reads as it did. -/
def blameChecksUptoRow : OpenClaim := { program := "ytmlbgfnddgbpbaagreat", sum := "f3e9e2a5ae6104dcd45602b194bd03c664b72199515b4e995a4675d08d41569b", func := "tinker/tinkerlaw03.BlameChecks", spec := "blameChecks", unfollowed := true, recurses := true, plainKeys := false, apart := false, narrowed := true }
def BlameChecksUptoSaid : Prop := blameChecksUptoRow.holds Tryz.pinned (OpenSpec.upto blameChecksSpec)

/-- 'tinkerlaw03.BlameCan', WHERE WHAT IT READS IS OF BULK AT MOST 1048576: true; the input reads as it did. -/
def blameCanUptoRow : OpenClaim := { program := "ytmlbgfnddgbpbaagreat", sum := "f3e9e2a5ae6104dcd45602b194bd03c664b72199515b4e995a4675d08d41569b", func := "tinker/tinkerlaw03.BlameCan", spec := "blameCan", unfollowed := true, recurses := true, plainKeys := false, apart := false, narrowed := true }
def BlameCanUptoSaid : Prop := blameCanUptoRow.holds Tryz.pinned (OpenSpec.upto blameCanSpec)

/-- 'tinkerlaw03.BlameSmallest', WHERE WHAT IT READS IS OF BULK AT MOST 1048576: true; the input reads as it did. -/
def blameSmallestUptoRow : OpenClaim := { program := "ytmlbgfnddgbpbaagreat", sum := "f3e9e2a5ae6104dcd45602b194bd03c664b72199515b4e995a4675d08d41569b", func := "tinker/tinkerlaw03.BlameSmallest", spec := "blameSmallest", unfollowed := true, recurses := true, plainKeys := false, apart := false, narrowed := true }
def BlameSmallestUptoSaid : Prop := blameSmallestUptoRow.holds Tryz.pinned (OpenSpec.upto blameSmallestSpec)

/-- 'tinkerlaw03.BlameApart', WHERE WHAT IT READS IS OF BULK AT MOST 1048576: true; the input reads as it did. -/
def blameApartUptoRow : OpenClaim := { program := "ytmlbgfnddgbpbaagreat", sum := "f3e9e2a5ae6104dcd45602b194bd03c664b72199515b4e995a4675d08d41569b", func := "tinker/tinkerlaw03.BlameApart", spec := "blameApart", unfollowed := true, recurses := true, plainKeys := false, apart := false, narrowed := true }
def BlameApartUptoSaid : Prop := blameApartUptoRow.holds Tryz.pinned (OpenSpec.upto blameApartSpec)

/-- 'tinkerlaw03.BlameBlames', WHERE WHAT IT READS IS OF BULK AT MOST 1048576: true; the input reads as it did. -/
def blameBlamesUptoRow : OpenClaim := { program := "ytmlbgfnddgbpbaagreat", sum := "f3e9e2a5ae6104dcd45602b194bd03c664b72199515b4e995a4675d08d41569b", func := "tinker/tinkerlaw03.BlameBlames", spec := "blameBlames", unfollowed := true, recurses := true, plainKeys := false, apart := false, narrowed := true }
def BlameBlamesUptoSaid : Prop := blameBlamesUptoRow.holds Tryz.pinned (OpenSpec.upto blameBlamesSpec)

/-- 'tinkerlaw03.BlameSlices', WHERE WHAT IT READS IS OF BULK AT MOST 1048576: true; the input reads as it did. -/
def blameSlicesUptoRow : OpenClaim := { program := "ytmlbgfnddgbpbaagreat", sum := "f3e9e2a5ae6104dcd45602b194bd03c664b72199515b4e995a4675d08d41569b", func := "tinker/tinkerlaw03.BlameSlices", spec := "blameSlices", unfollowed := true, recurses := true, plainKeys := false, apart := false, narrowed := true }
def BlameSlicesUptoSaid : Prop := blameSlicesUptoRow.holds Tryz.pinned (OpenSpec.upto blameSlicesSpec)

/-- 'tinkertop.TopBlames', WHERE WHAT IT READS IS OF BULK AT MOST 1048576: true; the input reads as it did. -/
def topBlamesUptoRow : OpenClaim := { program := "ytmlbgfnddgbpbaagreat", sum := "f3e9e2a5ae6104dcd45602b194bd03c664b72199515b4e995a4675d08d41569b", func := "tinker/tinkertop.TopBlames", spec := "topBlames", unfollowed := true, recurses := true, plainKeys := false, apart := false, narrowed := true }
def TopBlamesUptoSaid : Prop := topBlamesUptoRow.holds Tryz.pinned (OpenSpec.upto topBlamesSpec)

end Rows
end Go.Proofs.YtmlbgfnddgbpbaaGreat
