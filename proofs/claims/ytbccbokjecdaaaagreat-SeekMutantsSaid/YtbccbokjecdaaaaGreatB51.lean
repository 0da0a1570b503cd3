/- What an argument that is an edit holds. -/
import Derived.Test.YtbccbokjecdaaaaGreatB34
namespace Go.Proofs.YtbccbokjecdaaaaGreat
open Go.ChangeShapes Go.WideShapes Go.ChangeAt Go.RowKit

variable {H : Type} {enc : TypeId × Value → H}

set_option maxRecDepth 100000 in
theorem arg_edit {W : World} {base : Nat} {v : Value} {d : DataW H} {p : List MemPlace} (hv : Value.okWide Tryz.prog W .any base 27 v) (h : DataW.Trod enc Tryz.prog W 0 (fun _ => true) true 27 v d p) : ∃ x0 x1 x2 x3 x4 : Int, v = .agg #[.int .i64 x0, .int .i64 x1, .int .i64 x2, .int .i64 x3, .int .i64 x4] := by
  obtain ⟨cs, rfl, hsz⟩ := okWide_struct Tryz.underlying27 hv
  obtain ⟨fuel, hf⟩ := h
  obtain ⟨y0, y1, n, _, hl, h0, h1⟩ := trod_struct2 Tryz.underlying27 hf
  have hc5 : Tryz.prog.cellsOf 27 = 5 := by kernel_rfl
  have hc4 : Tryz.prog.cellsOf 25 = 4 := by kernel_rfl
  have hc1 : Tryz.prog.cellsOf 3 = 1 := by kernel_rfl
  rw [hc5] at hsz
  obtain ⟨l⟩ := cs
  match l, hsz with
  | [c0, c1, c2, c3, c4], _ =>
    obtain ⟨x0, e0, _, _⟩ := DataW.trod_int Tryz.underlying3 h0
    obtain ⟨ln, e1⟩ := line_cells h1
    simp [hc1, Value.cells] at e0
    simp [hc4, Value.cells, encL] at e1
    obtain ⟨e1, e2, e3, e4⟩ := e1
    subst e0 e1 e2 e3 e4
    exact ⟨x0, ln.op, ln.d, ln.a, ln.b, rfl⟩
end Go.Proofs.YtbccbokjecdaaaaGreat
