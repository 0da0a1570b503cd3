/- What an argument that is a list holds: the bridge from the statement's reading of the memory to the walks' lists. -/
import Derived.Test.YtfbfkkaepgcggaaGreatQ00
import Derived.Test.YtfbfkkaepgcggaaGreatRows
import Derived.ProofKit
import Derived.Lib.SmallJoins
import Derived.Deep.Slices
namespace Go.Proofs.YtfbfkkaepgcggaaGreat
open Go.ChangeShapes Go.WideShapes Go.ChangeAt Go.RowKit

variable {H : Type} {enc : TypeId × Value → H}

set_option maxRecDepth 100000 in
theorem line_cells {W : World} {fuel : Nat} {cs : List Value} {x : DataW H × List MemPlace} (h : DataW.trod enc Tryz.prog W 0 (fun _ => true) true fuel 44 cs = some x) : ∃ l : Ln, cs = encL l := by
  obtain ⟨y0, y1, y2, y3, n, _, hl, h0, h1, h2, h3⟩ := Go.Joins.trod_struct4 Tryz.underlying44 h
  have hc4 : Tryz.prog.cellsOf 44 = 4 := by kernel_rfl
  have hc1 : Tryz.prog.cellsOf 3 = 1 := by kernel_rfl
  rw [hc4] at hl
  match cs, hl with
  | [c0, c1, c2, c3], _ =>
    obtain ⟨x0, e0, _, _⟩ := DataW.trod_int Tryz.underlying3 h0
    obtain ⟨x1, e1, _, _⟩ := DataW.trod_int Tryz.underlying3 h1
    obtain ⟨x2, e2, _, _⟩ := DataW.trod_int Tryz.underlying3 h2
    obtain ⟨x3, e3, _, _⟩ := DataW.trod_int Tryz.underlying3 h3
    simp [hc1] at e0 e1 e2 e3
    subst e0 e1 e2 e3
    exact ⟨⟨x0, x1, x2, x3⟩, rfl⟩

set_option maxRecDepth 100000 in
theorem arg_lines {W : World} {base : Nat} {v : Value} {d : DataW H} {p : List MemPlace} (hv : Value.okWide Tryz.prog W .any base 23 v) (h : DataW.Trod enc Tryz.prog W 0 (fun _ => true) true 23 v d p) : ∃ xs, LinesAt W v xs := by
  obtain ⟨a0, len, cap, rfl⟩ := okWide_slice Tryz.underlying23 hv
  obtain ⟨fuel, hf⟩ := h
  rcases Go.Deep.open_slice Tryz.underlying23 hf with ⟨hcs, hx⟩ | ⟨a, len', cap', m, n, D, Pl, hcs, _, hl, hm, hmm, hx, hel⟩
  · simp [Value.cells] at hcs
    obtain ⟨rfl, rfl, rfl⟩ := hcs
    exact ⟨[], SlcAt.nil _ _ _⟩
  · simp [Value.cells] at hcs
    obtain ⟨rfl, rfl, rfl⟩ := hcs
    simp only [if_true] at hmm
    subst hmm
    have hc4 : Tryz.prog.cellsOf 44 = 4 := by kernel_rfl
    rw [hc4] at hel
    have hall : ∀ i, ∃ l : Ln, i < len → ∀ j u, (encL l)[j]? = some u → W.cell? ((a.add (i * 4)).add j) = some u := by
      intro i
      by_cases hi : i < len
      · obtain ⟨cs', hcs', ht⟩ := hel i (by omega)
        obtain ⟨l, rfl⟩ := line_cells ht
        obtain ⟨_, _, hc⟩ := World.cells?_some hcs'
        refine ⟨l, fun _ j u hu => ?_⟩
        rw [hc j (by have := (List.getElem?_eq_some_iff.1 hu).1; simpa [encL] using this), hu]
      · exact ⟨⟨0, 0, 0, 0⟩, fun h => absurd h hi⟩
    obtain ⟨f, hf'⟩ := Classical.axiomOfChoice hall
    have hzl : ((List.range len).map f).length = len := by simp
    refine ⟨(List.range len).map f, some a, m, by rw [hzl], by rw [hzl]; exact hl, by simpa [maxLen] using hm, ?_⟩
    by_cases h0 : len = 0
    · exact .inl ⟨by rw [h0]; rfl, fun h => by cases h⟩
    · obtain ⟨b, off, spot⟩ := a
      have hc0 := hf' 0 (by omega) 0 (.int .i64 (f 0).op) rfl
      have hs : spot = none := by
        have := World.cell?_spot hc0
        simpa [Addr.add] using this
      subst hs
      have hb := World.block_lt_of_cell? _ _ hc0
      simp [Addr.add] at hb
      refine .inr ⟨b, off, rfl, hb, ?_⟩
      intro j x hj i u hu
      have hjl : j < len := by have := (List.getElem?_eq_some_iff.1 hj).1; rw [hzl] at this; exact this
      have hx : f j = x := by
        rw [List.getElem?_map, List.getElem?_range hjl] at hj
        simpa using hj
      subst hx
      have hc := hf' j hjl i u hu
      rw [Addr.add_lit, Addr.add_lit] at hc
      exact hc
/-- A cell that is a list of numbers. -/
theorem cells_ints {W : World} {fuel : Nat} {v : Value} {x : DataW H × List MemPlace} (hf : DataW.trod enc Tryz.prog W 0 (fun _ => true) true fuel 25 [v] = some x) : ∃ xs, IntsAt W v xs := by
  rcases open_ints Tryz.underlying25 Tryz.underlying3 (by kernel_rfl) hf with ⟨hcs, hx⟩ | ⟨a, len', cap', zs, hcs, _, hl, hm, hz, hx, hcell, hwz⟩
  · simp at hcs
    subst hcs
    exact ⟨[], SlcAt.nil _ _ _⟩
  · simp at hcs
    subst hcs
    simp only [if_true] at hz
    have hzl : (zs.take len').length = len' := by rw [List.length_take]; omega
    refine ⟨zs.take len', some a, cap', by rw [hzl], by rw [hzl]; exact hl, by simpa [maxLen] using hm, ?_⟩
    by_cases h0 : len' = 0
    · exact .inl ⟨by rw [h0]; rfl, fun h => by cases h⟩
    · obtain ⟨b, off, spot⟩ := a
      have hc0 := hcell 0 (by omega)
      have hs : spot = none := by
        have := World.cell?_spot hc0
        simpa [Addr.add] using this
      subst hs
      have hb := World.block_lt_of_cell? _ _ hc0
      simp only [Addr.add, if_true] at hb
      refine .inr ⟨b, off, rfl, hb, ?_⟩
      intro j x hj i u hu
      have hi : i = 0 := by
        have := (List.getElem?_eq_some_iff.1 hu).1
        simp [encI] at this; exact this
      subst hi
      simp [encI] at hu
      subst hu
      have hjl : j < len' := by have := (List.getElem?_eq_some_iff.1 hj).1; rw [hzl] at this; exact this
      have hc := hcell j (by omega)
      rw [Addr.add_lit] at hc
      rw [List.getElem?_take, if_pos hjl] at hj
      rw [Nat.mul_one, Nat.add_zero, hc, List.getD_eq_getElem?_getD, hj]
      rfl

end Go.Proofs.YtfbfkkaepgcggaaGreat
