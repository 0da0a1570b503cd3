/- The errors of orders that are done one after another: plain laws. No program is named. -/
import Derived.Test.YtgjppekjkofdiaaGreatDoorG21
namespace Go.Proofs.YtgjppekjkofdiaaGreatDoor
open Go.RowKit

/-- What the orders answer, one after another. -/
noncomputable def errsB (s : Bn) : List ByteArray → List Int
  | [] => []
  | t :: r => (doB s t).1 :: errsB (doB s t).2 r
theorem errs_len (s : Bn) : ∀ l, (errsB s l).length = l.length
  | [] => rfl
  | t :: r => by unfold errsB; rw [List.length_cons, List.length_cons, errs_len (doB s t).2 r]
theorem errs_at (s : Bn) : ∀ (l : List ByteArray) (k : Nat) (t : ByteArray), l[k]? = some t → (errsB s l)[k]? = some (doB (dosB s (l.take k)) t).1
  | [], k, t, h => by simp at h
  | u :: r, 0, t, h => by
    obtain rfl := Option.some.inj h
    rfl
  | u :: r, k + 1, t, h => by
    unfold errsB
    rw [List.getElem?_cons_succ, errs_at (doB s u).2 r k t (by simpa using h), List.take_succ_cons]
    rfl
theorem errs_snoc (s : Bn) : ∀ (l : List ByteArray) (k : Nat) (t : ByteArray), l[k]? = some t → errsB s (l.take (k + 1)) = errsB s (l.take k) ++ [(doB (dosB s (l.take k)) t).1]
  | [], k, t, h => by simp at h
  | u :: r, 0, t, h => by
    obtain rfl := Option.some.inj h
    rfl
  | u :: r, k + 1, t, h => by
    rw [List.take_succ_cons, List.take_succ_cons]
    unfold errsB
    rw [errs_snoc (doB s u).2 r k t (by simpa using h)]
    rfl
end Go.Proofs.YtgjppekjkofdiaaGreatDoor
