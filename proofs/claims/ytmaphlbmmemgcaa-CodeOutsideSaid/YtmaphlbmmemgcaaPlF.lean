/- The plain functions behind Force: its errors, and the numbers that lists force upon lines. No program is named. -/
import Derived.Test.YtmaphlbmmemgcaaPlS
namespace Go.Proofs.Ytmaphlbmmemgcaa
open Go.RowKit

/-- The number that the lists force upon a line: of the last place at which it stands among the first k. -/
def frcN (lines values : List Int) (i : Nat) : Nat → Option Int
  | 0 => none
  | k + 1 => if lines.getD k 0 = (i : Int) then some (values.getD k 0) else frcN lines values i k
def frc (lines values : List Int) (i : Nat) : Option Int := frcN lines values i lines.length
theorem frc_nil : frc [] [] = noF := rfl
def frcE (p : List Ln) (s lines values : List Int) : Int :=
  if chk p s = 0 then
    if ascB lines then
      if (lines.any fun i => !inB i 0 (p.length - 1)) then 4
      else if values.length = lines.length then
        if (values.any fun n => !inB n (-999) 999) then 1
        else if (lines.any fun i => !wrB (p.getD i.toNat default).op) then 6 else 0
      else 9
    else 1
  else chk p s
def frcM (p : List Ln) (s lines values : List Int) : List Int := ifOK (frcE p s lines values) (trc p (frc lines values) 0 (St.ofL s)).2.toL

theorem frcN_none {lines values : List Int} {i : Nat} (h : lines.contains (i : Int) = false) : ∀ k, k ≤ lines.length → frcN lines values i k = none
  | 0, _ => rfl
  | k + 1, hk => by
    have : lines.getD k 0 ≠ (i : Int) := by
      intro e
      rw [List.getD_eq_getElem?_getD, List.getElem?_eq_getElem (by omega)] at e
      simp at e
      rw [← e] at h
      simp at h
    rw [frcN, if_neg this]
    exact frcN_none h k (by omega)
theorem frcN_at {lines values : List Int} (ha : ascB lines = true) {i k : Nat} (hk : k < lines.length) (e : lines.getD k 0 = (i : Int)) : ∀ m, k < m → m ≤ lines.length → frcN lines values i m = some (values.getD k 0)
  | 0, h, _ => by omega
  | m + 1, h, hm => by
    by_cases hmk : m = k
    · subst hmk; rw [frcN, if_pos e]
    · have := asc_lt' ha (j := k) (k := m) (by omega) (by omega)
      rw [frcN, if_neg (by omega)]
      exact frcN_at ha hk e m (by omega) (by omega)
theorem countP_at {lines : List Int} (ha : ascB lines = true) {k : Nat} (hk : k < lines.length) {x : Int} (e : lines.getD k 0 = x) : lines.countP (fun y => decide (y < x)) = k := by
  have h1 : (lines.take k).countP (fun y => decide (y < x)) = k := by
    have : (lines.take k).countP (fun y => decide (y < x)) = (lines.take k).length := by
      rw [List.countP_eq_length]
      intro y hy
      obtain ⟨j, hj, rfl⟩ := List.mem_take_iff_getElem.1 hy
      have := asc_lt' ha (j := j) (k := k) (by omega) hk
      rw [e, List.getD_eq_getElem?_getD, List.getElem?_eq_getElem (by omega)] at this
      simpa using this
    rw [this, List.length_take]; omega
  have h2 : (lines.drop k).countP (fun y => decide (y < x)) = 0 := by
    rw [List.countP_eq_zero]
    intro y hy
    obtain ⟨j, hj⟩ := List.mem_iff_getElem?.1 hy
    rw [List.getElem?_drop] at hj
    have hlt := (List.getElem?_eq_some_iff.1 hj).1
    have hy2 : lines.getD (k + j) 0 = y := by rw [List.getD_eq_getElem?_getD, hj]; rfl
    by_cases hj0 : j = 0
    · subst hj0; rw [Nat.add_zero, e] at hy2; simp; omega
    · have := asc_lt' ha (j := k) (k := k + j) (by omega) hlt
      simp; omega
  have := List.take_append_drop k lines
  rw [← this, List.countP_append, h1, h2]; simp
/-- What a search finds. -/
theorem frc_search {lines values : List Int} (ha : ascB lines = true) (i : Nat) : frc lines values i = if lines.contains (i : Int) then some (values.getD (lines.countP fun y => decide (y < (i : Int))) 0) else none := by
  unfold frc
  cases h : lines.contains (i : Int) with
  | false => rw [if_neg (by simp), frcN_none h _ (Nat.le_refl _)]
  | true =>
    rw [if_pos rfl]
    have hm : (i : Int) ∈ lines := by simpa using h
    obtain ⟨k, hk⟩ := List.mem_iff_getElem?.1 hm
    have hlt := (List.getElem?_eq_some_iff.1 hk).1
    have e : lines.getD k 0 = (i : Int) := by rw [List.getD_eq_getElem?_getD, hk]; rfl
    rw [frcN_at ha hlt e _ hlt (Nat.le_refl _), countP_at ha hlt e]
theorem asc_pairwise {lines : List Int} (ha : ascB lines = true) : lines.Pairwise (· ≤ ·) := by
  rw [List.pairwise_iff_getElem]
  intro i j hi hj hij
  have := asc_lt' ha hij hj
  rw [List.getD_eq_getElem?_getD, List.getD_eq_getElem?_getD, List.getElem?_eq_getElem hi, List.getElem?_eq_getElem hj] at this
  simp only [Option.getD_some] at this; omega
theorem frcN_mem {lines values : List Int} {i : Nat} {n : Int} : ∀ k, k ≤ values.length → frcN lines values i k = some n → n ∈ values
  | 0, _, h => by simp [frcN] at h
  | k + 1, hk, h => by
    unfold frcN at h
    split at h
    · rw [List.getD_eq_getElem?_getD, List.getElem?_eq_getElem (by omega)] at h
      simp at h; subst h; exact List.getElem_mem _
    · exact frcN_mem k (by omega) h
end Go.Proofs.Ytmaphlbmmemgcaa
