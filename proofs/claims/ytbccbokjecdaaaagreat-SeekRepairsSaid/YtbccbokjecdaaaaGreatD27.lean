/- The order of lists of numbers: plain laws. -/
import Derived.Test.YtbccbokjecdaaaaGreatD04
namespace Go.Proofs.YtbccbokjecdaaaaGreat
open Go.RowKit

/-- Which of two lists of numbers comes first. -/
def ltIs : List Int → List Int → Bool
  | [], [] => false
  | [], _ :: _ => true
  | _ :: _, [] => false
  | x :: a, y :: b => if x = y then ltIs a b else decide (x < y)
def cmpIs : List Int → List Int → Int
  | [], [] => 0
  | [], _ :: _ => -1
  | _ :: _, [] => 1
  | x :: a, y :: b => if cmpI x y = 0 then cmpIs a b else cmpI x y
theorem cmpI_zero {x y : Int} : cmpI x y = 0 ↔ x = y := by unfold cmpI; split <;> (try split) <;> omega
theorem cmpI_neg {x y : Int} : cmpI x y < 0 ↔ x < y := by unfold cmpI; split <;> (try split) <;> omega
theorem cmpIs_lt : ∀ a b : List Int, decide (cmpIs a b < 0) = ltIs a b
  | [], [] => rfl
  | [], _ :: _ => rfl
  | _ :: _, [] => rfl
  | x :: a, y :: b => by
    unfold cmpIs ltIs
    by_cases h : x = y
    · rw [if_pos h, if_pos (cmpI_zero.2 h)]; exact cmpIs_lt a b
    · rw [if_neg h, if_neg (fun e => h (cmpI_zero.1 e))]
      exact decide_eq_decide.2 cmpI_neg
theorem drop_cons {α : Type} {a : List α} {k : Nat} {x : α} (h : a[k]? = some x) : a.drop k = x :: a.drop (k + 1) := by
  obtain ⟨h1, rfl⟩ := List.getElem?_eq_some_iff.1 h
  exact List.drop_eq_getElem_cons h1
end Go.Proofs.YtbccbokjecdaaaaGreat
