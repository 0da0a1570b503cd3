
import Derived.Test.YtmeejlgnhfkeaaaGreatDoorL22
import Derived.Test.YtmeejlgnhfkeaaaGreatDoorRows
import Derived.ProofKit
import Derived.ChangeMaps5
import Derived.SliceStrings
import Derived.Lib.SmallJoins
namespace Go.Proofs.YtmeejlgnhfkeaaaGreatDoor
open Go.ChangeShapes Go.WideShapes Go.ChangeAt Go.RowKit
variable {H : Type} {enc : TypeId × Value → H}
set_option maxRecDepth 100000 in
theorem arg_text {W : World} {base : Nat} {v : Value} {d : DataW H} {p : List MemPlace} (hv : Value.okWide Tryz.prog W .any base 9 v) (h : DataW.Trod enc Tryz.prog W 0 (fun _ => true) true 9 v d p) : ∃ s : ByteArray, v = .string s ∧ s.size ≤ maxLen := by
 obtain ⟨s, h1, _, _, h2⟩ := Go.ChangeMaps.open_string Tryz.underlying9 hv h
 exact ⟨s, h1, h2⟩
end Go.Proofs.YtmeejlgnhfkeaaaGreatDoor
