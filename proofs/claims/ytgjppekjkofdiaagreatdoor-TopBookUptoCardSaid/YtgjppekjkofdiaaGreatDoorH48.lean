
import Derived.Test.YtgjppekjkofdiaaGreatDoorH47
import Derived.Test.YtgjppekjkofdiaaGreatDoorH22
import Derived.Test.YtgjppekjkofdiaaGreatDoorRows
import Derived.ProofKit
import Derived.ChangeMaps5
import Derived.SliceStrings
import Derived.Lib.SmallJoins
namespace Go.Proofs.YtgjppekjkofdiaaGreatDoor
open Go.ChangeShapes Go.WideShapes Go.ChangeAt Go.RowKit

variable {H : Type} {enc : TypeId × Value → H}

theorem bulk_one {H : Type} (d : DataW H) : 1 ≤ Rows.uptoBulk d := by
  cases d with
  | lit l => cases l <;> simp [Rows.uptoBulk]
  | nil => simp [Rows.uptoBulk]
  | ptr d => simp [Rows.uptoBulk]
  | slice elems spare => simp [Rows.uptoBulk]
  | agg parts => simp [Rows.uptoBulk]
  | iface t d => simp [Rows.uptoBulk]
  | map entries => simp [Rows.uptoBulk]
  | held h => simp [Rows.uptoBulk]
theorem bulk_part {H : Type} {d : DataW H} {l : List (DataW H)} (h : d ∈ l) : Rows.uptoBulk d ≤ Rows.uptoBulkAll l := by
  induction l with
  | nil => cases h
  | cons x r ih =>
    simp only [Rows.uptoBulkAll]
    cases List.mem_cons.1 h with
    | inl e => subst e; omega
    | inr e => have := ih e; omega
theorem bulk_len {H : Type} (l : List (DataW H)) : l.length ≤ Rows.uptoBulkAll l := by
  induction l with
  | nil => simp [Rows.uptoBulkAll]
  | cons x r ih => have := bulk_one x; simp only [Rows.uptoBulkAll, List.length_cons]; omega
set_option maxRecDepth 100000 in
theorem cells_lines {W : World} {fuel : Nat} {v : Value} {x : DataW H × List MemPlace} (hf : DataW.trod enc Tryz.prog W 0 (fun _ => true) true fuel 22 [v] = some x) : ∃ xs, LinesAt W v xs ∧ xs.length < Rows.uptoBulk x.1 := by
  rcases Go.Deep.open_slice Tryz.underlying22 hf with ⟨hcs, hx⟩ | ⟨a, len', cap', m, n, D, Pl, hcs, _, hl, hm, hmm, hx, hel⟩
  · simp at hcs
    subst hcs
    exact ⟨[], SlcAt.nil _ _ _, by have := bulk_one x.1; simp; omega⟩
  · simp at hcs
    subst hcs
    simp only [if_true] at hmm
    subst hmm
    have hc4 : Tryz.prog.cellsOf 81 = 4 := by kernel_rfl
    rw [hc4] at hel
    have hall : ∀ i, ∃ l : Ln, i < len' → ∀ j u, (encL l)[j]? = some u → W.cell? ((a.add (i * 4)).add j) = some u := by
      intro i
      by_cases hi : i < len'
      · obtain ⟨cs', hcs', ht⟩ := hel i (by omega)
        obtain ⟨l, rfl⟩ := line_cells ht
        obtain ⟨_, _, hc⟩ := World.cells?_some hcs'
        refine ⟨l, fun _ j u hu => ?_⟩
        rw [hc j (by have := (List.getElem?_eq_some_iff.1 hu).1; simpa [encL] using this), hu]
      · exact ⟨⟨0, 0, 0, 0⟩, fun h => absurd h hi⟩
    obtain ⟨f, hf'⟩ := Classical.axiomOfChoice hall
    have hzl : ((List.range len').map f).length = len' := by simp
    refine ⟨(List.range len').map f, ⟨some a, m, by rw [hzl], by rw [hzl]; exact hl, by simpa [maxLen] using hm, ?_⟩, by
      have h1 := bulk_len ((List.range len').map D)
      rw [hx, hzl]
      simp only [Rows.uptoBulk]
      rw [List.length_map, List.length_range] at h1
      omega⟩
    by_cases h0 : len' = 0
    · exact .inl ⟨by rw [h0]; rfl, fun h => by cases h⟩
    · obtain ⟨b, off, spot⟩ := a
      have hc0 := hf' 0 (by omega) 0 (.int .i64 (f 0).op) rfl
      have hs : spot = none := by
        have := World.cell?_spot hc0
        simpa [Addr.add] using this
      subst hs
      have hb := World.block_lt_of_cell? _ _ hc0
      simp [Addr.add] at hb
      refine .inr ⟨b, off, rfl, hb, ?_⟩
      intro j x hj i u hu
      have hjl : j < len' := by have := (List.getElem?_eq_some_iff.1 hj).1; rw [hzl] at this; exact this
      have hx : f j = x := by
        rw [List.getElem?_map, List.getElem?_range hjl] at hj
        simpa using hj
      subst hx
      have hc := hf' j hjl i u hu
      rw [Addr.add_lit, Addr.add_lit] at hc
      exact hc
set_option maxRecDepth 100000 in
theorem cells_texts {W : World} {fuel : Nat} {v : Value} {x : DataW H × List MemPlace} (hf : DataW.trod enc Tryz.prog W 0 (fun _ => true) true fuel 23 [v] = some x) : ∃ xs, TextsAt W v xs ∧ ∀ t ∈ xs, t.size < Rows.uptoBulk x.1 := by
  rcases open_strings Tryz.underlying23 Tryz.underlying9 (by kernel_rfl) hf with ⟨hcs, hx⟩ | ⟨a, len, cap, zs, hcs, hbb, hl, hm, hz, hx, hcell⟩
  · simp at hcs
    subst hcs
    exact ⟨[], SlcAt.nil _ _ _, by simp⟩
  · simp at hcs
    subst hcs
    simp only [if_true] at hz
    have hzl : (zs.take len).length = len := by rw [List.length_take]; omega
    refine ⟨zs.take len, ⟨some a, cap, by rw [hzl], by rw [hzl]; exact hl, by simpa [maxLen] using hm, ?_⟩, fun t ht => ?_⟩
    · by_cases h0 : len = 0
      · exact .inl ⟨by rw [h0]; rfl, fun h => by cases h⟩
      · obtain ⟨b, off, spot⟩ := a
        have hc0 := hcell.1 0 (by omega)
        have hs : spot = none := by
          have := World.cell?_spot hc0
          simpa [Addr.add] using this
        subst hs
        have hb := World.block_lt_of_cell? _ _ hc0
        simp only [Addr.add, if_true] at hb
        refine .inr ⟨b, off, rfl, hb, ?_⟩
        intro j x hj i u hu
        have hi : i = 0 := by
          have := (List.getElem?_eq_some_iff.1 hu).1
          simp [encTx] at this; exact this
        subst hi
        simp [encTx] at hu
        subst hu
        rw [List.getElem?_take] at hj
        split at hj
        · next hjl =>
          have hc := hcell.1 j (by omega)
          rw [List.getD_eq_getElem?_getD, hj, Option.getD_some] at hc
          rw [Addr.add_lit] at hc
          simpa using hc
        · cases hj
    · rw [hx]
      have h1 : (DataW.lit (.string t.data.toList) : DataW H) ∈ (strs (zs.take len) : List (DataW H)) := by
        unfold strs
        exact List.mem_map.2 ⟨t, ht, rfl⟩
      have h2 := bulk_part h1
      have h3 : t.data.toList.length = t.size := (tx_len t).symm
      simp only [Rows.uptoBulk] at h2 ⊢
      omega
set_option maxRecDepth 100000 in
theorem arg_firm {W : World} {base : Nat} {v : Value} {d : DataW H} {p : List MemPlace} (hv : Value.okWide Tryz.prog W .any base 57 v) (h : DataW.Trod enc Tryz.prog W 0 (fun _ => true) true 57 v d p) : ∃ v0 v1 ps ls n, v = .agg #[v0, v1, .int .i64 n] ∧ LinesAt W v0 ps ∧ TextsAt W v1 ls ∧ ps.length < Rows.uptoBulk d ∧ ∀ t ∈ ls, t.size < Rows.uptoBulk d := by
  obtain ⟨v0, v1, v2, y0, y1, y2, n, rfl, hd, _, h0, h1, h2⟩ := Go.Joins.open_agg3 Tryz.underlying57 (by kernel_rfl) (by kernel_rfl) hv h
  obtain ⟨ps, hp, hn⟩ := cells_lines h0
  obtain ⟨ls, hl, hs⟩ := cells_texts h1
  obtain ⟨x, e, _, _⟩ := DataW.trod_int Tryz.underlying3 h2
  simp at e
  subst e
  refine ⟨v0, v1, ps, ls, x, rfl, hp, hl, ?_, fun t ht => ?_⟩
  · rw [hd]
    simp only [Rows.uptoBulk, Rows.uptoBulkAll]
    omega
  have h3 := hs t ht
  rw [hd]
  simp only [Rows.uptoBulk, Rows.uptoBulkAll]
  omega
end Go.Proofs.YtgjppekjkofdiaaGreatDoor
