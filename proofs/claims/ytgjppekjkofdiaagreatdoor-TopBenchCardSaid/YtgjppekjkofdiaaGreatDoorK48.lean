
import Derived.Test.YtgjppekjkofdiaaGreatDoorK22
import Derived.Test.YtgjppekjkofdiaaGreatDoorRows
import Derived.ProofKit
import Derived.ChangeMaps5
import Derived.SliceStrings
import Derived.Lib.SmallJoins
namespace Go.Proofs.YtgjppekjkofdiaaGreatDoor
open Go.ChangeShapes Go.WideShapes Go.ChangeAt Go.RowKit

variable {H : Type} {enc : TypeId × Value → H}

set_option maxRecDepth 100000 in
theorem arg_int {W : World} {base : Nat} {v : Value} {d : DataW H} {p : List MemPlace} (hv : Value.okWide Tryz.prog W .any base 3 v) (h : DataW.Trod enc Tryz.prog W 0 (fun _ => true) true 3 v d p) : ∃ x : Int, v = .int .i64 x ∧ (Lit.int IntKind.i64 x).wf = true := by
  obtain ⟨x, h1, _, _, h2⟩ := open_int Tryz.underlying3 hv h
  exact ⟨x, h1, h2⟩
set_option maxRecDepth 100000 in
theorem arg_texts {W : World} {base : Nat} {v : Value} {d : DataW H} {p : List MemPlace} (hv : Value.okWide Tryz.prog W .any base 23 v) (h : DataW.Trod enc Tryz.prog W 0 (fun _ => true) true 23 v d p) : ∃ xs, TextsAt W v xs := by
  obtain ⟨a0, len, cap, rfl⟩ := okWide_slice Tryz.underlying23 hv
  obtain ⟨fuel, hf⟩ := h
  rcases open_strings Tryz.underlying23 Tryz.underlying9 (by kernel_rfl) hf with ⟨hcs, hx⟩ | ⟨a, len', cap', zs, hcs, hbb, hl, hm, hz, hx, hcell⟩
  · simp [Value.cells] at hcs
    obtain ⟨rfl, rfl, rfl⟩ := hcs
    exact ⟨[], SlcAt.nil _ _ _⟩
  · simp [Value.cells] at hcs
    obtain ⟨rfl, rfl, rfl⟩ := hcs
    simp only [if_true] at hz
    have hzl : (zs.take len).length = len := by rw [List.length_take]; omega
    refine ⟨zs.take len, some a, cap, by rw [hzl], by rw [hzl]; exact hl, by simpa [maxLen] using hm, ?_⟩
    by_cases h0 : len = 0
    · exact .inl ⟨by rw [h0]; rfl, fun h => by cases h⟩
    · obtain ⟨b, off, spot⟩ := a
      have hc0 := hcell.1 0 (by omega)
      have hs : spot = none := by
        have := World.cell?_spot hc0
        simpa [Addr.add] using this
      subst hs
      have hb := World.block_lt_of_cell? _ _ hc0
      simp only [Addr.add, if_true] at hb
      refine .inr ⟨b, off, rfl, hb, ?_⟩
      intro j x hj i u hu
      have hi : i = 0 := by
        have := (List.getElem?_eq_some_iff.1 hu).1
        simp [encTx] at this; exact this
      subst hi
      simp [encTx] at hu
      subst hu
      rw [List.getElem?_take] at hj
      split at hj
      · next hjl =>
        have hc := hcell.1 j (by omega)
        rw [List.getD_eq_getElem?_getD, hj, Option.getD_some] at hc
        rw [Addr.add_lit] at hc
        simpa using hc
      · cases hj
end Go.Proofs.YtgjppekjkofdiaaGreatDoor
