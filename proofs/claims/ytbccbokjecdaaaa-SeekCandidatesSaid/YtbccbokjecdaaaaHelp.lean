/- Small lemmas: one element of a list that can be read. No program is named. -/
import Derived.Test.YtbccbokjecdaaaaPlS
namespace Go.Proofs.Ytbccbokjecdaaaa
open Go.RowKit

theorem slc_n {α : Type} {k : Nat} {enc : α → List Value} {w : World} {a : Option Addr} {n c : Nat} {xs : List α} (h : SlcAt k enc w (.slice a n c) xs) : n = xs.length ∧ xs.length ≤ 9223372036854775807 := by
  obtain ⟨_, _, e, h1, h2, _⟩ := h
  cases e
  exact ⟨rfl, by omega⟩
theorem ints_at {w : World} {a : Option Addr} {n c : Nat} {xs : List Int} (h : IntsAt w (.slice a n c) xs) {k : Nat} {x : Int} (hx : xs[k]? = some x) : ∃ b o, a = some ⟨b, o, none⟩ ∧ b < w.heap.size ∧ w.cell? ⟨b, o + k, none⟩ = some (.int .i64 x) := by
  obtain ⟨_, _, e, _, _, h⟩ := h
  cases e
  obtain ⟨b, o, rfl, hb, hc⟩ := h.resolve_left (by intro h0; rw [h0.1] at hx; simp at hx)
  exact ⟨b, o, rfl, hb, ints_cell hc k x hx⟩
theorem lines_at {w : World} {a : Option Addr} {n c : Nat} {xs : List Ln} (h : LinesAt w (.slice a n c) xs) {k : Nat} {op d x y : Int} (hx : xs[k]? = some ⟨op, d, x, y⟩) : ∃ b o, a = some ⟨b, o, none⟩ ∧ b < w.heap.size ∧
    w.cell? ⟨b, o + k * 4, none⟩ = some (.int .i64 op) ∧ w.cell? ⟨b, o + k * 4 + 1, none⟩ = some (.int .i64 d) ∧ w.cell? ⟨b, o + k * 4 + 2, none⟩ = some (.int .i64 x) ∧ w.cell? ⟨b, o + k * 4 + 3, none⟩ = some (.int .i64 y) := by
  obtain ⟨_, _, e, _, _, h⟩ := h
  cases e
  obtain ⟨b, o, rfl, hb, hc⟩ := h.resolve_left (by intro h0; rw [h0.1] at hx; simp at hx)
  exact ⟨b, o, rfl, hb, lines_cell hc k op d x y hx⟩
theorem st_at {w : World} {a : Option Addr} {n c : Nat} {q : St} (h : IntsAt w (.slice a n c) q.toL) {r : Nat} (hr : r < 4) : ∃ b o, a = some ⟨b, o, none⟩ ∧ b < w.heap.size ∧ w.cell? ⟨b, o + r, none⟩ = some (.int .i64 (q.get r)) := by
  refine ints_at h (k := r) ?_
  have : r = 0 ∨ r = 1 ∨ r = 2 ∨ r = 3 := by omega
  rcases this with rfl | rfl | rfl | rfl <;> rfl
/-- A block of two cells. -/
theorem box2 {w : World} {b : Nat} {c0 c1 : Value} {e : TypeId} (h : w.heap[b]? = some (.cells #[c0, c1] e (0, 0))) : w.cell? ⟨b, 0, none⟩ = some c0 ∧ w.cell? ⟨b, 1, none⟩ = some c1 := by
  constructor <;> (unfold World.cell?; simp only [h]; rfl)
end Go.Proofs.Ytbccbokjecdaaaa
