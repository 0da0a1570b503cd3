/- What an argument that is a family of sets holds. -/
import Derived.Test.YtfbfkkaepgcggaaGreatQ21
import Derived.Test.YtfbfkkaepgcggaaGreatQ14
import Derived.Lib.SmallJoins
namespace Go.Proofs.YtfbfkkaepgcggaaGreat
open Go.ChangeShapes Go.WideShapes Go.ChangeAt Go.RowKit

variable {H : Type} {enc : TypeId × Value → H}

set_option maxRecDepth 100000 in
theorem arg_fam {W : World} {base : Nat} {v : Value} {d : DataW H} {p : List MemPlace} (hv : Value.okWide Tryz.prog W .any base 22 v) (h : DataW.Trod enc Tryz.prog W 0 (fun _ => true) true 22 v d p) : ∃ f, FamAt W v f := by
  obtain ⟨a0, len, cap, rfl⟩ := okWide_slice Tryz.underlying22 hv
  obtain ⟨fuel, hf⟩ := h
  rcases Go.Deep.open_slice Tryz.underlying22 hf with ⟨hcs, hx⟩ | ⟨a, len', cap', m, n, D, Pl, hcs, _, hl, hm, hmm, hx, hel⟩
  · simp [Value.cells] at hcs
    obtain ⟨rfl, rfl, rfl⟩ := hcs
    exact ⟨[], FamAt.nil _⟩
  · simp [Value.cells] at hcs
    obtain ⟨rfl, rfl, rfl⟩ := hcs
    simp only [if_true] at hmm
    subst hmm
    have hc1 : Tryz.prog.cellsOf 25 = 1 := by kernel_rfl
    rw [hc1] at hel
    have hall : ∀ i, ∃ t : Lo Int, i < len → W.cell? (a.add (i * 1)) = some t.v ∧ IntsAt W t.v t.x := by
      intro i
      by_cases hi : i < len
      · obtain ⟨cs', hcs', ht⟩ := hel i (by omega)
        obtain ⟨hcl, _, hc⟩ := World.cells?_some hcs'
        match cs', hcl with
        | [c0], _ =>
          obtain ⟨xs, hx⟩ := cells_ints ht
          have hx2 := hx
          obtain ⟨xa, xc, rfl, x1, x2, x3⟩ := hx2
          refine ⟨⟨xa, xs.length, xc, xs⟩, fun _ => ⟨?_, hx⟩⟩
          have := hc 0 (by decide)
          simpa [Addr.add] using this
      · exact ⟨⟨none, 0, 0, []⟩, fun h => absurd h hi⟩
    obtain ⟨f, hf'⟩ := Classical.axiomOfChoice hall
    have hzl : ((List.range len).map f).length = len := by simp
    refine ⟨((List.range len).map f).map Lo.x, (List.range len).map f, ⟨some a, m, by rw [hzl], by rw [hzl]; exact hl, by simpa [maxLen] using hm, ?_⟩, ?_, rfl⟩
    · by_cases h0 : len = 0
      · exact .inl ⟨by rw [h0]; rfl, fun h => by cases h⟩
      · obtain ⟨b, off, spot⟩ := a
        have hc0 := (hf' 0 (by omega)).1
        have hs : spot = none := by
          have := World.cell?_spot hc0
          simpa [Addr.add] using this
        subst hs
        have hb := World.block_lt_of_cell? _ _ hc0
        simp [Addr.add] at hb
        refine .inr ⟨b, off, rfl, hb, ?_⟩
        intro j x hj i u hu
        have hjl : j < len := by have := (List.getElem?_eq_some_iff.1 hj).1; rw [hzl] at this; exact this
        have hx : f j = x := by
          rw [List.getElem?_map, List.getElem?_range hjl] at hj
          simpa using hj
        subst hx
        have hi0 : i = 0 := by have := (List.getElem?_eq_some_iff.1 hu).1; simpa [encLo] using this
        subst hi0
        have hu2 : u = (f j).v := by simpa [encLo] using hu.symm
        subst hu2
        have hc := (hf' j hjl).1
        rw [Addr.add_lit] at hc
        exact hc
    · intro x hx
      obtain ⟨i, hi, rfl⟩ := List.mem_map.1 hx
      exact (hf' i (List.mem_range.1 hi)).2

end Go.Proofs.YtfbfkkaepgcggaaGreat
