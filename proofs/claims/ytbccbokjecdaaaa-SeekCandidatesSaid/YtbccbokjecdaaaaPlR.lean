/- The plain functions of the document's answer to layer 1. No program is named. -/
import Derived.Test.YtbccbokjecdaaaaPlD
namespace Go.Proofs.Ytbccbokjecdaaaa
open Go.RowKit

def encT (b : Bool) : List Value := [.bool b]
theorem encT_len (b : Bool) : (encT b).length = 1 := rfl
abbrev BoolsAt (w : World) (v : Value) (bs : List Bool) : Prop := SlcAt 1 encT w v bs
theorem bools_cell {w : World} {b o : Nat} {xs : List Bool} (hc : ∀ j x, xs[j]? = some x → ∀ i u, (encT x)[i]? = some u → w.cell? ⟨b, o + j * 1 + i, none⟩ = some u) (j : Nat) (x : Bool) (h : xs[j]? = some x) : w.cell? ⟨b, o + j, none⟩ = some (.bool x) := by
  simpa using hc j x h 0 _ rfl

/-- The numbers of what is true, up to k. -/
def setN (bs : List Bool) (k : Nat) : List Int := ((List.range k).filter fun i => bs.getD i false).map Int.ofNat
def setL (bs : List Bool) : List Int := setN bs bs.length
theorem setN_zero (bs : List Bool) : setN bs 0 = [] := rfl
theorem setN_true {bs : List Bool} {k : Nat} (h : bs[k]? = some true) : setN bs (k + 1) = setN bs k ++ [(k : Int)] := by
  simp [setN, List.range_succ, List.filter_append, List.getD_eq_getElem?_getD, h]
theorem setN_false {bs : List Bool} {k : Nat} (h : bs[k]? = some false) : setN bs (k + 1) = setN bs k := by
  simp [setN, List.range_succ, List.filter_append, List.getD_eq_getElem?_getD, h]
theorem setN_len (bs : List Bool) (k : Nat) : (setN bs k).length ≤ k := by
  unfold setN
  rw [List.length_map]
  exact Nat.le_trans (List.length_filter_le _ _) (by simp)

/-- Which registers a line reads. -/
def rdM (op a b : Int) : Ms := (if 3 ≤ op then (if 2 ≤ op then (Ms.set ⟨false, false, false, false⟩ a true) else ⟨false, false, false, false⟩).set b true else if 2 ≤ op then Ms.set ⟨false, false, false, false⟩ a true else ⟨false, false, false, false⟩)
def Ms.toL (m : Ms) : List Bool := [m.b0, m.b1, m.b2, m.b3]
theorem set_rdM (op a b : Int) (h2 : 2 ≤ op → 0 ≤ a ∧ a ≤ 3) (h3 : 3 ≤ op → 0 ≤ b ∧ b ≤ 3) : setL (rdM op a b).toL = rdL op a b := by
  by_cases h : 3 ≤ op
  · obtain ⟨a0, a3⟩ := h2 (by omega)
    obtain ⟨b0, b3⟩ := h3 h
    have e1 : rdL op a b = two a b := by unfold rdL; rw [if_neg (by omega), if_pos (by omega)]
    have e2 : rdM op a b = (Ms.set ⟨false, false, false, false⟩ a true).set b true := by unfold rdM; rw [if_pos h, if_pos (by omega)]
    rw [e1, e2]
    have : a = 0 ∨ a = 1 ∨ a = 2 ∨ a = 3 := by omega
    have : b = 0 ∨ b = 1 ∨ b = 2 ∨ b = 3 := by omega
    rcases ‹a = 0 ∨ _› with rfl | rfl | rfl | rfl <;> rcases ‹b = 0 ∨ _› with rfl | rfl | rfl | rfl <;> decide
  · by_cases g : 2 ≤ op
    · obtain ⟨a0, a3⟩ := h2 g
      have e1 : rdL op a b = [a] := by unfold rdL; rw [if_pos (by omega)]
      have e2 : rdM op a b = Ms.set ⟨false, false, false, false⟩ a true := by unfold rdM; rw [if_neg h, if_pos g]
      rw [e1, e2]
      have : a = 0 ∨ a = 1 ∨ a = 2 ∨ a = 3 := by omega
      rcases this with rfl | rfl | rfl | rfl <;> decide
    · have e1 : rdL op a b = [] := by unfold rdL; rw [if_neg (by omega), if_neg h]
      have e2 : rdM op a b = ⟨false, false, false, false⟩ := by unfold rdM; rw [if_neg h, if_neg g]
      rw [e1, e2]; decide
theorem ok_args {op d a b : Int} (h : vL op d a b = true) : (2 ≤ op → 0 ≤ a ∧ a ≤ 3) ∧ (3 ≤ op → 0 ≤ b ∧ b ≤ 3) := by
  unfold vL at h
  simp only [inB_def] at h
  split at h
  · exact ⟨fun _ => by omega, fun _ => by omega⟩
  · split at h
    · exact ⟨fun _ => by omega, fun _ => by omega⟩
    · split at h
      · simp at h; exact ⟨fun _ => by omega, fun _ => by omega⟩
      · split at h
        · simp at h; exact ⟨fun _ => by omega, fun _ => by omega⟩
        · split at h
          · simp at h; exact ⟨fun _ => by omega, fun _ => by omega⟩
          · cases h
theorem wrB_of_ok {op d a b : Int} (h : vL op d a b = true) : (!(op == 0) && !(op == 7)) = wrB op := by
  obtain ⟨h0, h7, _⟩ := ok_rd (show Ln.ok ⟨op, d, a, b⟩ = true from h)
  by_cases e0 : op = 0
  · subst e0; rfl
  · by_cases e7 : op = 7
    · subst e7; rfl
    · have : wrB op = true := by unfold wrB; rw [inB_true]; omega
      rw [this]; simp [e0, e7]
end Go.Proofs.Ytbccbokjecdaaaa
