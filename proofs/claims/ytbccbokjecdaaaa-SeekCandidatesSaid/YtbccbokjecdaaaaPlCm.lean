/- The plain functions behind Compact and DeleteFunc on lines. No program is named. -/
import Derived.Test.YtbccbokjecdaaaaRow4
namespace Go.Proofs.Ytbccbokjecdaaaa
open Go.RowKit

/-- Each line that differs from the one ahead of it. -/
def dd (x : Ln) : List Ln → List Ln
  | [] => []
  | y :: r => if y = x then dd x r else y :: dd y r
def compL : List Ln → List Ln
  | [] => []
  | x :: r => x :: dd x r
theorem dd_snoc : ∀ (r : List Ln) (x y : Ln), dd x (r ++ [y]) = dd x r ++ (if y = (x :: r).getLast (by simp) then [] else [y])
  | [], x, y => by by_cases h : y = x <;> simp [dd, h]
  | z :: r, x, y => by
    have e : (x :: z :: r).getLast (by simp) = (z :: r).getLast (by simp) := List.getLast_cons (by simp)
    rw [e]
    by_cases h : z = x
    · subst h
      rw [List.cons_append, dd, if_pos rfl, dd, if_pos rfl, dd_snoc r z y]
    · rw [List.cons_append, dd, if_neg h, dd, if_neg h, dd_snoc r z y, List.cons_append]
theorem compL_snoc {xs : List Ln} {x y : Ln} {k : Nat} (hx : xs[k]? = some x) (hy : xs[k + 1]? = some y) : compL (xs.take (k + 2)) = compL (xs.take (k + 1)) ++ (if y = x then [] else [y]) := by
  have hk := (List.getElem?_eq_some_iff.1 hy).1
  rw [show xs.take (k + 2) = xs.take (k + 1) ++ [y] by rw [List.take_add_one (i := k + 1), hy]; rfl]
  match h : xs.take (k + 1) with
  | [] => have := congrArg List.length h; rw [List.length_take, List.length_nil] at this; omega
  | z :: r =>
    have e : (z :: r).getLast (by simp) = x := by
      rw [List.getLast_eq_getElem]
      have hl : (z :: r).length = k + 1 := by rw [← h]; simp; omega
      have : (z :: r)[k]? = some x := by rw [← h, List.getElem?_take, if_pos (by omega)]; exact hx
      obtain ⟨h1, h2⟩ := List.getElem?_eq_some_iff.1 this
      have e2 : (z :: r).length - 1 = k := by omega
      simp only [e2, h2]
    rw [List.cons_append, compL, compL, dd_snoc, e, List.cons_append]
theorem mem_dd (z : Ln) : ∀ (r : List Ln) (x : Ln), z ∈ x :: dd x r ↔ z ∈ x :: r
  | [], x => by simp [dd]
  | y :: r, x => by
    by_cases h : y = x
    · subst h
      rw [dd, if_pos rfl, mem_dd z r y]; simp
    · rw [dd, if_neg h]
      have ih := mem_dd z r y
      simp only [List.mem_cons] at ih ⊢
      constructor
      · rintro (h1 | h1)
        · exact .inl h1
        · exact .inr (ih.1 h1)
      · rintro (h1 | h1)
        · exact .inl h1
        · exact .inr (ih.2 h1)
theorem mem_compL {z : Ln} {xs : List Ln} : z ∈ compL xs ↔ z ∈ xs := by
  cases xs with
  | nil => simp [compL]
  | cons x r => exact mem_dd z r x
/-- No later line comes before an earlier one. -/
def WeakL (xs : List Ln) : Prop := xs.Pairwise fun x y => ¬ ltP y x
theorem dd_asc : ∀ (r : List Ln) (x : Ln), WeakL (x :: r) → (x :: dd x r).Pairwise ltP
  | [], x, _ => by simp [dd]
  | y :: r, x, h => by
    obtain ⟨h1, h2⟩ := List.pairwise_cons.1 h
    by_cases e : y = x
    · subst e
      rw [dd, if_pos rfl]
      exact dd_asc r y h2
    · rw [dd, if_neg e]
      have ih := dd_asc r y h2
      refine List.pairwise_cons.2 ⟨fun z hz => ?_, ih⟩
      have hxy : ltP x y := by
        rcases ltP_total x y with h | h | h
        · exact h
        · exact absurd h.symm e
        · exact absurd h (h1 y (by simp))
      rcases List.mem_cons.1 hz with rfl | hz
      · exact hxy
      · exact ltP_trans hxy ((List.pairwise_cons.1 ih).1 z hz)
theorem compL_ord {xs : List Ln} (h : WeakL xs) : compL xs = ordL xs := by
  refine IsOrd.eq ⟨?_, fun x => mem_compL⟩
  cases xs with
  | nil => exact List.Pairwise.nil
  | cons x r => exact dd_asc r x h
theorem ordL_congr {xs ys : List Ln} (h : ∀ x, x ∈ ys ↔ x ∈ xs) : ordL ys = ordL xs := ord_ext _ _ (ordL_is ys).1 (ordL_is xs).1 fun x => by rw [mem_ordL, mem_ordL, h]
theorem compL_len (xs : List Ln) : (compL xs).length ≤ xs.length := by
  have key : ∀ (r : List Ln) (x : Ln), (dd x r).length ≤ r.length := by
    intro r
    induction r with
    | nil => intro x; simp [dd]
    | cons y r ih =>
      intro x
      unfold dd
      split
      · have := ih x; simp; omega
      · have := ih y; simp; omega
  cases xs with
  | nil => simp [compL]
  | cons x r => have := key r x; simp [compL]; exact this
/-- Nothing comes twice among the first k: they stay. -/
theorem compL_take_same {xs : List Ln} : ∀ k, k ≤ xs.length → (∀ j x y, j + 1 < k → xs[j]? = some x → xs[j + 1]? = some y → y ≠ x) → compL (xs.take k) = xs.take k
  | 0, _, _ => by simp [compL]
  | 1, hk, _ => by
    cases xs with
    | nil => simp at hk
    | cons x r => simp [compL, dd]
  | k + 2, hk, h => by
    obtain ⟨x, hx⟩ : ∃ x, xs[k]? = some x := ⟨_, List.getElem?_eq_getElem (by omega)⟩
    obtain ⟨y, hy⟩ : ∃ y, xs[k + 1]? = some y := ⟨_, List.getElem?_eq_getElem (by omega)⟩
    rw [compL_snoc hx hy, if_neg (h k x y (by omega) hx hy), compL_take_same (k + 1) (by omega) (fun j x y hj => h j x y (by omega)), List.take_add_one (i := k + 1), hy]
    rfl

/-- What is left by DeleteFunc. -/
def keepL (pr : Ln → Bool) (xs : List Ln) : List Ln := xs.filter fun x => !pr x
theorem keepL_snoc {pr : Ln → Bool} {xs : List Ln} {k : Nat} {x : Ln} (hx : xs[k]? = some x) : keepL pr (xs.take (k + 1)) = keepL pr (xs.take k) ++ (if pr x then [] else [x]) := by
  rw [List.take_add_one, hx]
  unfold keepL
  rw [List.filter_append]
  cases h : pr x <;> simp [h]
theorem keepL_len (pr : Ln → Bool) (xs : List Ln) : (keepL pr xs).length ≤ xs.length := List.length_filter_le _ _
end Go.Proofs.Ytbccbokjecdaaaa
