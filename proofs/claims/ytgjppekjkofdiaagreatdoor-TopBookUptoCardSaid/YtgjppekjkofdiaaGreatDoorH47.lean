
import Derived.Test.YtgjppekjkofdiaaGreatDoorH00
import Derived.Test.YtgjppekjkofdiaaGreatDoorRows
import Derived.ProofKit
import Derived.Lib.SmallJoins
import Derived.Deep.Slices
namespace Go.Proofs.YtgjppekjkofdiaaGreatDoor
open Go.ChangeShapes Go.WideShapes Go.ChangeAt Go.RowKit

variable {H : Type} {enc : TypeId × Value → H}

set_option maxRecDepth 100000 in
theorem line_cells {W : World} {fuel : Nat} {cs : List Value} {x : DataW H × List MemPlace} (h : DataW.trod enc Tryz.prog W 0 (fun _ => true) true fuel 81 cs = some x) : ∃ l : Ln, cs = encL l := by
  obtain ⟨y0, y1, y2, y3, n, _, hl, h0, h1, h2, h3⟩ := Go.Joins.trod_struct4 Tryz.underlying81 h
  have hc4 : Tryz.prog.cellsOf 81 = 4 := by kernel_rfl
  have hc1 : Tryz.prog.cellsOf 3 = 1 := by kernel_rfl
  rw [hc4] at hl
  match cs, hl with
  | [c0, c1, c2, c3], _ =>
    obtain ⟨x0, e0, _, _⟩ := DataW.trod_int Tryz.underlying3 h0
    obtain ⟨x1, e1, _, _⟩ := DataW.trod_int Tryz.underlying3 h1
    obtain ⟨x2, e2, _, _⟩ := DataW.trod_int Tryz.underlying3 h2
    obtain ⟨x3, e3, _, _⟩ := DataW.trod_int Tryz.underlying3 h3
    simp [hc1] at e0 e1 e2 e3
    subst e0 e1 e2 e3
    exact ⟨⟨x0, x1, x2, x3⟩, rfl⟩

end Go.Proofs.YtgjppekjkofdiaaGreatDoor
