/- Books of orders, plainly: the sum, the book, what is read of a text, and that a book is read as its orders, any beginning of it as a beginning. No program is named. -/
import Derived.Test.YtgjppekjkofdiaaGreatDoorG00
import Derived.Lib.ItoaNum
namespace Go.Proofs.YtgjppekjkofdiaaGreatDoor
open Go.RowKit
namespace Bk

/-! ### Sums -/
def sumL (s : Int) : List UInt8 → Int
  | [] => s
  | c :: r => sumL ((s * 257 + (c.toNat : Int) + 1) % 1000003) r
def sumS (before : Int) (l : List UInt8) : Int := sumL (before % 1000003) l
theorem sumL_bd : ∀ (l : List UInt8) {s : Int}, 0 ≤ s → s < 1000003 → 0 ≤ sumL s l ∧ sumL s l < 1000003
  | [], s, h0, h1 => ⟨h0, h1⟩
  | c :: r, s, _, _ => sumL_bd r (Int.emod_nonneg _ (by decide)) (Int.emod_lt_of_pos _ (by decide))
theorem sumS_bd (b : Int) (l : List UInt8) : 0 ≤ sumS b l ∧ sumS b l < 1000003 := sumL_bd l (Int.emod_nonneg _ (by decide)) (Int.emod_lt_of_pos _ (by decide))
theorem sumS_of {s : Int} (h0 : 0 ≤ s) (h1 : s < 1000003) (l : List UInt8) : sumS s l = sumL s l := by unfold sumS; rw [Int.emod_eq_of_lt h0 h1]
theorem sumL_snoc (s : Int) (l : List UInt8) (c : UInt8) : sumL s (l ++ [c]) = (sumL s l * 257 + (c.toNat : Int) + 1) % 1000003 := by
  induction l generalizing s with
  | nil => rfl
  | cons x r ih => exact ih _

/-! ### Texts, lines, books -/
def okT (l : List UInt8) : Bool := decide (1 ≤ l.length) && decide (l.length ≤ 30) && !l.contains 10
theorem okT_iff {l : List UInt8} : okT l = true ↔ 1 ≤ l.length ∧ l.length ≤ 30 ∧ 10 ∉ l := by
  unfold okT
  simp [and_assoc]
def lineL (s : Int) (t : List UInt8) : List UInt8 := Lib.itoa s ++ 32 :: (t ++ [10])
def bookL (s : Int) : List (List UInt8) → List UInt8
  | [] => []
  | t :: r => lineL (sumL s t) t ++ bookL (sumL s t) r
def sumsL (s : Int) : List (List UInt8) → Int
  | [] => s
  | t :: r => sumsL (sumL s t) r
theorem bookL_append (s : Int) (a b : List (List UInt8)) : bookL s (a ++ b) = bookL s a ++ bookL (sumsL s a) b := by
  induction a generalizing s with
  | nil => rfl
  | cons t r ih => simp only [List.cons_append, bookL, sumsL, ih, List.append_assoc]
theorem sumsL_append (s : Int) (a b : List (List UInt8)) : sumsL s (a ++ b) = sumsL (sumsL s a) b := by
  induction a generalizing s with
  | nil => rfl
  | cons t r ih => exact ih _
theorem sumsL_bd : ∀ (l : List (List UInt8)) {s : Int}, 0 ≤ s → s < 1000003 → 0 ≤ sumsL s l ∧ sumsL s l < 1000003
  | [], _, h0, h1 => ⟨h0, h1⟩
  | t :: r, _, h0, h1 => sumsL_bd r (sumL_bd t h0 h1).1 (sumL_bd t h0 h1).2

/-! ### Cutting -/
/-! ### Numerals hold neither a blank nor an end of line -/
theorem dec_digit (u : Nat) : ∀ c ∈ Lib.decDigits u, 48 ≤ c.toNat ∧ c.toNat ≤ 57 := by
  induction u using Nat.strongRecOn with
  | _ u ih =>
    intro c hc
    rw [Lib.decDigits] at hc
    split at hc
    · next h =>
      obtain rfl := List.mem_singleton.1 hc
      rw [show (UInt8.ofNat (48 + u)).toNat = (48 + u) % 256 from rfl]; omega
    · next h =>
      rcases List.mem_append.1 hc with hc | hc
      · exact ih (u / 10) (by omega) c hc
      · obtain rfl := List.mem_singleton.1 hc
        rw [show (UInt8.ofNat (48 + u % 10)).toNat = (48 + u % 10) % 256 from rfl]; omega
theorem itoa_digit (n : Int) : ∀ c ∈ Lib.itoa n, c = 45 ∨ (48 ≤ c.toNat ∧ c.toNat ≤ 57) := by
  intro c hc
  unfold Lib.itoa at hc
  split at hc
  · rcases List.mem_cons.1 hc with rfl | hc
    · exact .inl rfl
    · exact .inr (dec_digit _ c hc)
  · exact .inr (dec_digit _ c hc)
theorem itoa_no10 (n : Int) : (10 : UInt8) ∉ Lib.itoa n := fun h => by
  rcases itoa_digit n _ h with h1 | ⟨h1, _⟩
  · exact absurd h1 (by decide)
  · exact absurd h1 (by decide)
/-! ### Reading -/
end Bk
end Go.Proofs.YtgjppekjkofdiaaGreatDoor
