/- Stores into a list that the call has made. No program is named. -/
import Derived.Test.YtbccbokjecdaaaaBase2
namespace Go.Proofs.Ytbccbokjecdaaaa
open Go.RowKit

/-- One cell of a list's own block is stored anew. -/
theorem ownsRow_set {w : World} {base : Nat} {e : TypeId} {size g cap n : Nat} {xs : List Value} (h : w.ownsRow base e size (.slice (some ⟨g, 0, none⟩) n cap) n xs) (i : Nat) (u : Value) :
    (w.setCell ⟨g, i, none⟩ u).ownsRow base e size (.slice (some ⟨g, 0, none⟩) n cap) n (xs.set i u) := by
  obtain ⟨h1, h2⟩ := h
  refine ⟨by rw [List.length_set]; exact h1, ?_⟩
  rcases h2 with ⟨h2, _⟩ | ⟨g', cap', cur, hv, hg, hh, a1, a2, a3, a4⟩
  · cases h2
  · cases hv
    refine .inr ⟨g, cap, cur.setIfInBounds i u, rfl, hg, heap_setCell_same w g i cur e u hh, a1, a2, by simpa using a3, ?_⟩
    rw [Array.toList_setIfInBounds, List.take_set, a4]
theorem ownsRow_free {w : World} {base : Nat} {e : TypeId} {size g cap n : Nat} {xs : List Value} (h : w.ownsRow base e size (.slice (some ⟨g, 0, none⟩) n cap) n xs) (i : Nat) : w.frozen? ⟨g, i, none⟩ = false := by
  rcases h.2 with ⟨h2, _⟩ | ⟨g', cap', cur, hv, hg, hh, _⟩
  · cases h2
  · cases hv; simp [World.frozen?, hh]

theorem flat_set : ∀ (p : List Ln) (k : Nat) (l : Ln), k < p.length →
    ((((p.flatMap encL).set (k * 4) (.int .i64 l.op)).set (k * 4 + 1) (.int .i64 l.d)).set (k * 4 + 2) (.int .i64 l.a)).set (k * 4 + 3) (.int .i64 l.b) = (p.set k l).flatMap encL
  | [], k, l, h => by simp at h
  | x :: xs, 0, l, _ => by simp [List.flatMap_cons, encL]
  | x :: xs, k + 1, l, h => by
    have ih := flat_set xs k l (by simpa using h)
    rw [List.set_cons_succ, List.flatMap_cons, List.flatMap_cons, ← ih]
    have hl : (encL x).length = 4 := rfl
    rw [List.set_append_right _ _ (by rw [hl]; omega), List.set_append_right _ _ (by rw [hl]; omega), List.set_append_right _ _ (by rw [hl]; omega), List.set_append_right _ _ (by rw [hl]; omega)]
    rw [hl]
    have e0 : (k + 1) * 4 - 4 = k * 4 := by omega
    have e1 : (k + 1) * 4 + 1 - 4 = k * 4 + 1 := by omega
    have e2 : (k + 1) * 4 + 2 - 4 = k * 4 + 2 := by omega
    have e3 : (k + 1) * 4 + 3 - 4 = k * 4 + 3 := by omega
    rw [e0, e1, e2, e3]

/-- The four stores of a line. -/
def storeL (w : World) (g i : Nat) (l : Ln) : World := (((w.setCell ⟨g, i, none⟩ (.int .i64 l.op)).setCell ⟨g, i + 1, none⟩ (.int .i64 l.d)).setCell ⟨g, i + 2, none⟩ (.int .i64 l.a)).setCell ⟨g, i + 3, none⟩ (.int .i64 l.b)
theorem owns_storeL {w : World} {base : Nat} {e : TypeId} {g cap : Nat} {p : List Ln} (h : w.ownsRow base e 4 (.slice (some ⟨g, 0, none⟩) p.length cap) p.length (p.flatMap encL)) (k : Nat) (hk : k < p.length) (l : Ln) :
    (storeL w g (k * 4) l).ownsRow base e 4 (.slice (some ⟨g, 0, none⟩) (p.set k l).length cap) (p.set k l).length ((p.set k l).flatMap encL) := by
  rw [List.length_set, ← flat_set p k l hk]
  exact ownsRow_set (ownsRow_set (ownsRow_set (ownsRow_set h _ _) _ _) _ _) _ _
theorem below_storeL {a w : World} {B g i : Nat} (l : Ln) (h : Below B a w) (hg : B ≤ g) : Below B a (storeL w g i l) :=
  Below.setCell (Below.setCell (Below.setCell (Below.setCell h hg _) hg _) hg _) hg _
theorem size_storeL (w : World) (g i : Nat) (l : Ln) : (storeL w g i l).heap.size = w.heap.size := by simp [storeL, World.size_setCell]
theorem heap_storeL (w : World) (g i k : Nat) (l : Ln) (h : k ≠ g) : (storeL w g i l).heap[k]? = w.heap[k]? := by
  unfold storeL
  rw [Below.heap_setCell _ _ _ _ (by simpa using h), Below.heap_setCell _ _ _ _ (by simpa using h), Below.heap_setCell _ _ _ _ (by simpa using h), Below.heap_setCell _ _ _ _ (by simpa using h)]
end Go.Proofs.Ytbccbokjecdaaaa
