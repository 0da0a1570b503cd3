/- The plain law of CodeSteps: what a run does from one line that is done to the next one. No program is named. -/
import Derived.Test.YtbccbokjecdaaaaPlX
namespace Go.Proofs.Ytbccbokjecdaaaa
open Go.RowKit

/-- Strictly ascending. -/
def ascB (l : List Int) : Bool := (List.range (l.length - 1)).all fun k => decide (l.getD k 0 < l.getD (k + 1) 0)
theorem ascB_true {l : List Int} : ascB l = true ↔ ∀ k, k + 1 < l.length → l.getD k 0 < l.getD (k + 1) 0 := by
  unfold ascB
  simp only [List.all_eq_true, List.mem_range, decide_eq_true_eq]
  exact ⟨fun h k hk => h k (by omega), fun h k hk => h k (by omega)⟩
theorem ascB_false_at {l : List Int} {k : Nat} (hk : k + 1 < l.length) (h : l.getD (k + 1) 0 ≤ l.getD k 0) : ascB l = false := by
  cases e : ascB l with
  | false => rfl
  | true => have := ascB_true.1 e k hk; omega
theorem asc_lt {l : List Int} (h : ascB l = true) : ∀ (n j : Nat), j + n + 1 < l.length → l.getD j 0 < l.getD (j + n + 1) 0
  | 0, j, hj => ascB_true.1 h j hj
  | n + 1, j, hj => by
    have h1 := asc_lt h n j (by omega)
    have h2 := ascB_true.1 h (j + n + 1) (by omega)
    have e : j + (n + 1) + 1 = j + n + 1 + 1 := by omega
    rw [e]; omega
theorem asc_lt' {l : List Int} (h : ascB l = true) {j k : Nat} (hjk : j < k) (hk : k < l.length) : l.getD j 0 < l.getD k 0 := by
  have := asc_lt h (k - j - 1) j (by omega)
  rwa [show j + (k - j - 1) + 1 = k by omega] at this

/-- The visits of a run from a line on. -/
def visN (p : List Ln) (f : Nat → Option Int) (i : Nat) (s : St) : List (Nat × St) := (trc p f i s).1
theorem visN_end {p : List Ln} {f : Nat → Option Int} {i : Nat} {s : St} (h : p.length ≤ i) : visN p f i s = [] := by unfold visN; rw [trc_end h]
theorem visN_step {p : List Ln} {f : Nat → Option Int} {i : Nat} {s : St} {l : Ln} (h : p[i]? = some l) : visN p f i s = (i, s) :: visN p f (nextI l i s) (stepS f l i s) := by unfold visN; rw [trc_step h]
theorem end_end {p : List Ln} {f : Nat → Option Int} {i : Nat} {s : St} (h : p.length ≤ i) : (trc p f i s).2 = s := by rw [trc_end h]
theorem end_step {p : List Ln} {f : Nat → Option Int} {i : Nat} {s : St} {l : Ln} (h : p[i]? = some l) : (trc p f i s).2 = (trc p f (nextI l i s) (stepS f l i s)).2 := by rw [trc_step h]

theorem vis_ge (p : List Ln) (f : Nat → Option Int) : ∀ (n i : Nat) (s : St), p.length ≤ i + n → ∀ v ∈ visN p f i s, i ≤ v.1
  | 0, i, s, h, v, hv => by rw [visN_end (by omega)] at hv; cases hv
  | n + 1, i, s, h, v, hv => by
    cases hl : p[i]? with
    | none => rw [visN_end (List.getElem?_eq_none_iff.1 hl)] at hv; cases hv
    | some l =>
      have := nextI_gt l i s
      rw [visN_step hl] at hv
      rcases List.mem_cons.1 hv with rfl | hv
      · exact Nat.le_refl _
      · have := vis_ge p f n _ _ (by omega) v hv; omega
theorem vis_sorted (p : List Ln) (f : Nat → Option Int) : ∀ (n i : Nat) (s : St), p.length ≤ i + n → (visN p f i s).Pairwise fun a b => a.1 < b.1
  | 0, i, s, h => by rw [visN_end (by omega)]; exact List.Pairwise.nil
  | n + 1, i, s, h => by
    cases hl : p[i]? with
    | none => rw [visN_end (List.getElem?_eq_none_iff.1 hl)]; exact List.Pairwise.nil
    | some l =>
      have hgt := nextI_gt l i s
      rw [visN_step hl]
      refine List.Pairwise.cons ?_ (vis_sorted p f n _ _ (by omega))
      intro v hv
      have := vis_ge p f _ (nextI l i s) (stepS f l i s) (Nat.le_add_left _ _) v hv
      dsimp only; omega
/-- What stands behind a visit. -/
theorem vis_next (p : List Ln) (f : Nat → Option Int) : ∀ (n i : Nat) (s : St), p.length ≤ i + n →
    (visN p f i s = [] → (trc p f i s).2 = s) ∧ (∀ v, (visN p f i s)[0]? = some v → v = (i, s)) ∧
    ∀ j v l, (visN p f i s)[j]? = some v → p[v.1]? = some l → (∀ v', (visN p f i s)[j + 1]? = some v' → v' = (nextI l v.1 v.2, stepS f l v.1 v.2)) ∧ ((visN p f i s)[j + 1]? = none → (trc p f i s).2 = stepS f l v.1 v.2)
  | 0, i, s, h => by rw [visN_end (by omega)]; exact ⟨fun _ => end_end (by omega), fun v hv => by simp at hv, fun j v l hv => by simp at hv⟩
  | n + 1, i, s, h => by
    cases hl : p[i]? with
    | none =>
      have := List.getElem?_eq_none_iff.1 hl
      rw [visN_end this]; exact ⟨fun _ => end_end this, fun v hv => by simp at hv, fun j v l hv => by simp at hv⟩
    | some l =>
      have hgt := nextI_gt l i s
      obtain ⟨k1, k2, k3⟩ := vis_next p f n (nextI l i s) (stepS f l i s) (by omega)
      rw [visN_step hl, end_step hl]
      refine ⟨fun e => by simp at e, fun v hv => by simpa using hv.symm, fun j v l' hv hl' => ?_⟩
      cases j with
      | zero =>
        simp at hv
        subst hv
        dsimp only at hl' ⊢
        rw [hl] at hl'; cases hl'
        simp only [List.getElem?_cons_succ]
        exact ⟨fun v' hv' => k2 v' hv', fun hn => k1 (by simpa using hn)⟩
      | succ j =>
        simp only [List.getElem?_cons_succ] at hv ⊢
        exact k3 j v l' hv hl'

theorem visits_eq (p : List Ln) (s : List Int) : visits p s = visN p noF 0 (St.ofL s) := rfl
theorem visits_sorted (p : List Ln) (s : List Int) : (visits p s).Pairwise fun a b => a.1 < b.1 := vis_sorted p noF _ 0 _ (Nat.le_add_left _ _)
theorem visits_asc (p : List Ln) (s : List Int) {j k : Nat} {v u : Nat × St} (hv : (visits p s)[j]? = some v) (hu : (visits p s)[k]? = some u) (h : j < k) : v.1 < u.1 := by
  have key := List.pairwise_iff_getElem.1 (visits_sorted p s)
  obtain ⟨h1, rfl⟩ := List.getElem?_eq_some_iff.1 hv
  obtain ⟨h2, rfl⟩ := List.getElem?_eq_some_iff.1 hu
  exact key j k h1 h2 h
theorem doneM_length (p : List Ln) (s : List Int) : (doneM p s).length = (visits p s).length := by simp [doneM]
theorem doneM_at (p : List Ln) (s : List Int) {j : Nat} {v : Nat × St} (hv : (visits p s)[j]? = some v) : (doneM p s)[j]? = some (v.1 : Int) := by simp [doneM, hv]
theorem doneM_asc (p : List Ln) (s : List Int) : ascB (doneM p s) = true := by
  refine ascB_true.2 fun k hk => ?_
  rw [doneM_length] at hk
  have h1 := doneM_at p s (j := k) (List.getElem?_eq_getElem (show k < (visits p s).length by omega))
  have h2 := doneM_at p s (j := k + 1) (List.getElem?_eq_getElem hk)
  rw [List.getD_eq_getElem?_getD, List.getD_eq_getElem?_getD, h1, h2]
  have := visits_asc p s (List.getElem?_eq_getElem (show k < (visits p s).length by omega)) (List.getElem?_eq_getElem hk) (by omega)
  simp only [Option.getD_some]; omega
theorem find_first {q : Nat × St → Bool} : ∀ {vs : List (Nat × St)} {k : Nat} {x : Nat × St}, (∀ j v, j < k → vs[j]? = some v → q v = false) → vs[k]? = some x → q x = true → vs.find? q = some x
  | [], k, x, _, hx, _ => by simp at hx
  | v :: vs, 0, x, _, hx, hq => by simp at hx; subst hx; simp [hq]
  | v :: vs, k + 1, x, h, hx, hq => by
    have h0 := h 0 v (by omega) rfl
    rw [List.find?_cons_of_neg (by rw [h0]; simp)]
    exact find_first (k := k) (fun j u hj hu => h (j + 1) u (Nat.succ_lt_succ hj) (by simpa using hu)) (by simpa using hx) hq
/-- The state before a line that is done. -/
theorem bef_done {p : List Ln} {s : List Int} (h : chk p s = 0) {j : Nat} {v : Nat × St} (hv : (visits p s)[j]? = some v) : befE p s v.1 = 0 ∧ befO p s v.1 = some v.2 := by
  have hlt := visits_lt p s v (List.mem_of_getElem? hv)
  have e : befE p s v.1 = 0 := by unfold befE; rw [if_pos h, if_pos (inB_true.2 ⟨by omega, by omega⟩)]
  refine ⟨e, ?_⟩
  unfold befO
  rw [if_pos e]
  have : (visits p s).find? (fun u => (u.1 : Int) == v.1) = some v := by
    refine find_first (k := j) (fun i u hi hu => ?_) hv (by simp)
    have := visits_asc p s hu hv hi
    simp; omega
  rw [this]; rfl
/-- The state in which a run stands ahead of its j-th visit; behind the last one, at its end. -/
def stAt (p : List Ln) (s : List Int) (j : Nat) : St := match (visits p s)[j]? with | some v => v.2 | none => (trc p noF 0 (St.ofL s)).2
theorem stAt_some {p : List Ln} {s : List Int} {j : Nat} {v : Nat × St} (h : (visits p s)[j]? = some v) : stAt p s j = v.2 := by unfold stAt; rw [h]
theorem stAt_end {p : List Ln} {s : List Int} {j : Nat} (h : (visits p s).length ≤ j) : (stAt p s j).toL = runM p s := by
  unfold stAt; rw [List.getElem?_eq_none h]; rfl
theorem stAt_zero (p : List Ln) (s : List Int) : stAt p s 0 = St.ofL s := by
  obtain ⟨h1, h2, _⟩ := vis_next p noF _ 0 (St.ofL s) (Nat.le_add_left _ _)
  cases h : (visits p s)[0]? with
  | none =>
    have : visN p noF 0 (St.ofL s) = [] := by rw [← visits_eq]; simpa using h
    unfold stAt; rw [h]; exact h1 this
  | some v => rw [stAt_some h, h2 v h]
theorem stAt_succ {p : List Ln} {s : List Int} {j : Nat} {v : Nat × St} {l : Ln} (hv : (visits p s)[j]? = some v) (hl : p[v.1]? = some l) : stAt p s (j + 1) = stepS noF l v.1 (stAt p s j) := by
  obtain ⟨_, _, h3⟩ := vis_next p noF _ 0 (St.ofL s) (Nat.le_add_left _ _)
  obtain ⟨k1, k2⟩ := h3 j v l hv hl
  rw [stAt_some hv]
  cases h : (visits p s)[j + 1]? with
  | none => unfold stAt; rw [h]; exact k2 h
  | some u => rw [stAt_some h, k1 u h]
/-- A step changes no register but the one that it writes. -/
theorem step_only {l : Ln} (hl : l.ok = true) (i : Nat) (s : St) {r : Int} (r0 : 0 ≤ r) (r3 : r ≤ 3) (h : (stepS noF l i s).get r ≠ s.get r) : wrB l.op = true ∧ l.d = r := by
  cases hw : wrB l.op with
  | false => rw [stepS_of_not hw] at h; exact absurd rfl h
  | true =>
    refine ⟨rfl, ?_⟩
    rw [stepS_of_wr hw] at h
    obtain ⟨d0, d3⟩ := wr_reg hl hw
    by_cases e : l.d = r
    · exact e
    · exact absurd (St.get_set_ne _ _ _ _ e d0 d3 r0 r3) h
end Go.Proofs.Ytbccbokjecdaaaa
