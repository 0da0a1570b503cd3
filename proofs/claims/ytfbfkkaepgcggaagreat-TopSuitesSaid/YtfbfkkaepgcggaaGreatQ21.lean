/- What an argument that is a list of tests, or an edit, holds. -/
import Derived.Test.YtfbfkkaepgcggaaGreatQ20
import Derived.Test.YtfbfkkaepgcggaaGreatQ01
import Derived.Deep.Strs
namespace Go.Proofs.YtfbfkkaepgcggaaGreat
open Go.ChangeShapes Go.WideShapes Go.ChangeAt Go.RowKit

variable {H : Type} {enc : TypeId × Value → H}

set_option maxRecDepth 100000 in
theorem test_cells {W : World} {fuel : Nat} {cs : List Value} {x : DataW H × List MemPlace} (h : DataW.trod enc Tryz.prog W 0 (fun _ => true) true fuel 56 cs = some x) : ∃ t : Tst, cs = encTs t ∧ IntsAt W t.v t.xs := by
  obtain ⟨y0, y1, y2, n, _, hl, h0, h1, h2⟩ := Go.Deep.trod_struct3 Tryz.underlying56 h
  have hc3 : Tryz.prog.cellsOf 56 = 3 := by kernel_rfl
  have hc1 : Tryz.prog.cellsOf 3 = 1 := by kernel_rfl
  have hcs : Tryz.prog.cellsOf 25 = 1 := by kernel_rfl
  rw [hc3] at hl
  match cs, hl with
  | [c0, c1, c2], _ =>
    simp only [List.drop_zero, hcs, List.take_succ_cons, List.take_zero] at h0
    obtain ⟨xs, hx⟩ := cells_ints h0
    obtain ⟨x1, e1, _, _⟩ := DataW.trod_int Tryz.underlying3 h1
    obtain ⟨x2, e2, _, _⟩ := DataW.trod_int Tryz.underlying3 h2
    simp [hc1] at e1 e2
    subst e1 e2
    exact ⟨⟨c0, xs, x1, x2⟩, rfl, hx⟩

set_option maxRecDepth 100000 in
theorem arg_tests {W : World} {base : Nat} {v : Value} {d : DataW H} {p : List MemPlace} (hv : Value.okWide Tryz.prog W .any base 24 v) (h : DataW.Trod enc Tryz.prog W 0 (fun _ => true) true 24 v d p) : ∃ ts, TestsAt W v ts := by
  obtain ⟨a0, len, cap, rfl⟩ := okWide_slice Tryz.underlying24 hv
  obtain ⟨fuel, hf⟩ := h
  rcases Go.Deep.open_slice Tryz.underlying24 hf with ⟨hcs, hx⟩ | ⟨a, len', cap', m, n, D, Pl, hcs, _, hl, hm, hmm, hx, hel⟩
  · simp [Value.cells] at hcs
    obtain ⟨rfl, rfl, rfl⟩ := hcs
    exact ⟨[], TestsAt.nil _⟩
  · simp [Value.cells] at hcs
    obtain ⟨rfl, rfl, rfl⟩ := hcs
    simp only [if_true] at hmm
    subst hmm
    have hc3 : Tryz.prog.cellsOf 56 = 3 := by kernel_rfl
    rw [hc3] at hel
    have hall : ∀ i, ∃ t : Tst, i < len → (∀ j u, (encTs t)[j]? = some u → W.cell? ((a.add (i * 3)).add j) = some u) ∧ IntsAt W t.v t.xs := by
      intro i
      by_cases hi : i < len
      · obtain ⟨cs', hcs', ht⟩ := hel i (by omega)
        obtain ⟨t, rfl, hti⟩ := test_cells ht
        obtain ⟨_, _, hc⟩ := World.cells?_some hcs'
        refine ⟨t, fun _ => ⟨fun j u hu => ?_, hti⟩⟩
        rw [hc j (by have := (List.getElem?_eq_some_iff.1 hu).1; simpa [encTs] using this), hu]
      · exact ⟨⟨.slice none 0 0, [], 0, 0⟩, fun h => absurd h hi⟩
    obtain ⟨f, hf'⟩ := Classical.axiomOfChoice hall
    have hzl : ((List.range len).map f).length = len := by simp
    refine ⟨(List.range len).map f, ⟨some a, m, by rw [hzl], by rw [hzl]; exact hl, by simpa [maxLen] using hm, ?_⟩, ?_⟩
    · by_cases h0 : len = 0
      · exact .inl ⟨by rw [h0]; rfl, fun h => by cases h⟩
      · obtain ⟨b, off, spot⟩ := a
        have hc0 := (hf' 0 (by omega)).1 0 (f 0).v rfl
        have hs : spot = none := by
          have := World.cell?_spot hc0
          simpa [Addr.add] using this
        subst hs
        have hb := World.block_lt_of_cell? _ _ hc0
        simp [Addr.add] at hb
        refine .inr ⟨b, off, rfl, hb, ?_⟩
        intro j x hj i u hu
        have hjl : j < len := by have := (List.getElem?_eq_some_iff.1 hj).1; rw [hzl] at this; exact this
        have hx : f j = x := by
          rw [List.getElem?_map, List.getElem?_range hjl] at hj
          simpa using hj
        subst hx
        have hc := (hf' j hjl).1 i u hu
        rw [Addr.add_lit, Addr.add_lit] at hc
        exact hc
    · intro x hx
      obtain ⟨i, hi, rfl⟩ := List.mem_map.1 hx
      exact (hf' i (List.mem_range.1 hi)).2
end Go.Proofs.YtfbfkkaepgcggaaGreat
