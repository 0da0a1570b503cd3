/- Lists of texts as they lie in memory. No program is named. -/
import Derived.Test.YtihdpbfhkddpcaaGreatDoorG00
import Derived.Lib.Strings
import Derived.Lib.IndexMore
namespace Go.Proofs.YtihdpbfhkddpcaaGreatDoor
open Go.RowKit

/-! ### Lists of texts -/
def encTx (s : ByteArray) : List Value := [.string s]
theorem encTx_len (s : ByteArray) : (encTx s).length = 1 := rfl
theorem encTx_one (s : ByteArray) : ∀ u ∈ encTx s, u.oneCell' = true := by intro u hu; simp [encTx] at hu; subst hu; rfl
abbrev TextsAt (w : World) (v : Value) (l : List ByteArray) : Prop := SlcAt 1 encTx w v l
theorem texts_at {w : World} {a : Option Addr} {n c : Nat} {L : List ByteArray} (h : TextsAt w (.slice a n c) L) {k : Nat} {t : ByteArray} (hx : L[k]? = some t) : ∃ b o, a = some ⟨b, o, none⟩ ∧ b < w.heap.size ∧ w.cell? ⟨b, o + k, none⟩ = some (.string t) := by
  obtain ⟨_, _, e, _, _, h⟩ := h
  cases e
  obtain ⟨b, o, rfl, hb, hc⟩ := h.resolve_left (by intro h0; rw [h0.1] at hx; simp at hx)
  exact ⟨b, o, rfl, hb, by simpa using hc k t hx 0 _ rfl⟩
/-- Two texts that differ, as the walk compares them. -/
theorem tx_ne {x y : ByteArray} (h : x ≠ y) : (x.toList == y.toList) = false := by
  rw [beq_eq_false_iff_ne, Lib.toList_data, Lib.toList_data]
  intro e
  have h2 : x.data = y.data := Array.toList_inj.1 e
  cases x; cases y; simp_all
theorem tx_eq {x y : ByteArray} (h : x.data.toList = y.data.toList) : x = y := by
  have h2 : x.data = y.data := Array.toList_inj.1 h
  cases x; cases y; simp_all
theorem tx_len (t : ByteArray) : t.size = t.data.toList.length := by rw [Array.length_toList]; rfl
end Go.Proofs.YtihdpbfhkddpcaaGreatDoor
