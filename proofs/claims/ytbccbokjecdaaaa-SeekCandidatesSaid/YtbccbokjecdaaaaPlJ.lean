/- The plain law of CodeJoins: two programs one after the other run one after the other. No program is named. -/
import Derived.Test.YtbccbokjecdaaaaPlR
namespace Go.Proofs.Ytbccbokjecdaaaa
open Go.RowKit

/-- The state at the end of a run from a line on. -/
def endS (p : List Ln) (i : Nat) (s : St) : St := (trc p noF i s).2
theorem endS_end {p : List Ln} {i : Nat} {s : St} (h : p.length ≤ i) : endS p i s = s := by unfold endS; rw [trc_end h]
theorem endS_step {p : List Ln} {i : Nat} {s : St} {l : Ln} (h : p[i]? = some l) : endS p i s = endS p (nextI l i s) (stepS noF l i s) := by unfold endS; rw [trc_step h]
theorem stepS_noF (l : Ln) (i j : Nat) (s : St) : stepS noF l i s = stepS noF l j s := rfl
theorem runM_eq (p : List Ln) (s : List Int) : runM p s = (endS p 0 (St.ofL s)).toL := rfl
theorem endS_fineN (p : List Ln) : ∀ (n i : Nat) (s : St), p.length ≤ i + n → s.fine → (endS p i s).fine
  | 0, i, s, h, hs => by rw [endS_end (by omega)]; exact hs
  | n + 1, i, s, h, hs => by
    cases hl : p[i]? with
    | none => rw [endS_end (List.getElem?_eq_none_iff.1 hl)]; exact hs
    | some l =>
      rw [endS_step hl]
      have := nextI_gt l i s
      exact endS_fineN p n _ _ (by omega) (stepS_fine _ _ _ hs)
theorem endS_fine (p : List Ln) (s : St) (hs : s.fine) : (endS p 0 s).fine := endS_fineN p _ 0 s (Nat.le_add_left _ _) hs
theorem valS_of_fine {s : St} (h : s.fine) : valS s.toL = 0 := by
  obtain ⟨h0, h1, h2, h3⟩ := h
  refine valS_ok.2 ⟨rfl, fun n hn => ?_⟩
  simp [St.toL] at hn
  rcases hn with rfl | rfl | rfl | rfl
  · exact h0
  · exact h1
  · exact h2
  · exact h3
theorem valS_runM (p : List Ln) (s : List Int) (h : valS s = 0) : valS (runM p s) = 0 := by
  obtain ⟨q, rfl, hq⟩ := St.of_valS h
  rw [runM_eq, St.ofL_toL]
  exact valS_of_fine (endS_fine p q hq)

theorem endS_shift (p q : List Ln) : ∀ (n j : Nat) (s : St), q.length ≤ j + n → endS (p ++ q) (p.length + j) s = endS q j s
  | 0, j, s, h => by rw [endS_end (by simp; omega), endS_end (by omega)]
  | n + 1, j, s, h => by
    cases hl : q[j]? with
    | none =>
      have : q.length ≤ j := List.getElem?_eq_none_iff.1 hl
      rw [endS_end (by simp; omega), endS_end this]
    | some l =>
      have hl2 : (p ++ q)[p.length + j]? = some l := by rw [List.getElem?_append_right (by omega)]; simpa using hl
      rw [endS_step hl, endS_step hl2, stepS_noF l (p.length + j) j]
      have e : nextI l (p.length + j) s = p.length + nextI l j s := by unfold nextI; split <;> omega
      have := nextI_gt l j s
      rw [e]
      exact endS_shift p q n _ _ (by omega)

theorem endS_join (p q : List Ln) (hs : ∀ i l, p[i]? = some l → l.op = 7 → i + 1 + l.d.toNat ≤ p.length) : ∀ (n i : Nat) (s : St), p.length ≤ i + n → i ≤ p.length → endS (p ++ q) i s = endS q 0 (endS p i s)
  | 0, i, s, h, h2 => by
    obtain rfl : i = p.length := by omega
    rw [endS_end (p := p) (Nat.le_refl _)]
    exact endS_shift p q _ 0 s (Nat.le_add_left _ _)
  | n + 1, i, s, h, h2 => by
    cases hl : p[i]? with
    | none =>
      have : p.length ≤ i := List.getElem?_eq_none_iff.1 hl
      obtain rfl : i = p.length := by omega
      rw [endS_end (p := p) (Nat.le_refl _)]
      exact endS_shift p q _ 0 s (Nat.le_add_left _ _)
    | some l =>
      have hlt : i < p.length := (List.getElem?_eq_some_iff.1 hl).1
      have hl2 : (p ++ q)[i]? = some l := by rw [List.getElem?_append_left hlt]; exact hl
      rw [endS_step hl, endS_step hl2]
      have := nextI_gt l i s
      refine endS_join p q hs n _ _ (by omega) ?_
      unfold nextI
      split
      · next h7 => exact hs i l hl h7.1
      · omega
theorem runM_join (p q : List Ln) (s : List Int) (hs : ∀ i l, p[i]? = some l → l.op = 7 → i + 1 + l.d.toNat ≤ p.length) : runM (p ++ q) s = runM q (runM p s) := by
  rw [runM_eq, runM_eq, runM_eq, endS_join p q hs _ 0 _ (Nat.le_add_left _ _) (Nat.zero_le _), St.ofL_toL]
theorem valP_join {p q : List Ln} (h1 : valP p = 0) (h2 : valP q = 0) (h3 : p.length + q.length ≤ 8) : valP (p ++ q) = 0 := by
  refine valP_ok.2 ⟨by simpa using h3, fun l hl => ?_⟩
  rcases List.mem_append.1 hl with h | h
  · exact (valP_ok.1 h1).2 l h
  · exact (valP_ok.1 h2).2 l h
end Go.Proofs.Ytbccbokjecdaaaa
