/- The walk of the document's Has of layer 1. -/
import Derived.Test.YtmlbgfnddgbpbaaGreatD03
import Derived.Test.YtmlbgfnddgbpbaaGreatD20
namespace Go.Proofs.YtmlbgfnddgbpbaaGreat
open Go.RowKit

set_option maxHeartbeats 2000000 in
theorem rHas1_any (l : List Int) (x : Int) (v : Value) (w : World) (hv : IntsAt w v l) (R : Ending → World → Prop) (hR : R (.returned (.bool (l.contains x))) w) :
    Calls Tryz.prog 45 #[v, .int .i64 x] w R := by
  have HV := Lib.hid hv
  have HR := Lib.hid hR
  obtain ⟨a, c, rfl, h1, h2, _⟩ := hv
  clear hR
  go_enter Tryz.func45, Tryz.ntmps45
  go_wp2_with fail
  go_loopw [5] (fun i wr => ∃ k : Nat, k ≤ l.length ∧ i = .int .i64 k ∧ wr = w ∧ ∀ y ∈ l.take k, y ≠ x) (fun i _ => l.length - (intOf i).toNat)
  case atStart => exact ⟨0, Nat.zero_le _, rfl, rfl, by simp⟩
  case round =>
    obtain ⟨k, hk, rfl, rfl, hall⟩ := hrel
    have HALL := Lib.hid hall
    clear hall
    by_cases hlt : k < l.length
    · obtain ⟨y, hy⟩ : ∃ x, l[k]? = some x := ⟨_, List.getElem?_eq_getElem hlt⟩
      obtain ⟨b, o, rfl, hb, e0⟩ := ints_at HV.out hy
      have HY := Lib.hid hy
      have hlt2 : (k : Int) < (l.length : Int) := by omega
      clear hy
      by_cases he : y = x
      · have hc : l.contains x = true := List.contains_iff_mem.2 (he ▸ List.mem_of_getElem? HY.out)
        have HF := Lib.hid (show R (.returned (.bool true)) wr from by have := HR.out; rw [hc] at this; exact this)
        have t1 : (y == x) = true := by simpa using he
        clear hc he
        go_wp2_with fail
        exact HF.out
      · have t1 : (y == x) = false := by simpa using he
        have HE := Lib.hid he
        clear he
        go_wp2_with fail
        go_roundw
        case rel =>
          refine ⟨k + 1, by omega, by go_num, by first | rfl | trivial, fun z hz => ?_⟩
          rw [List.take_add_one, HY.out] at hz
          rcases List.mem_append.1 hz with hz | hz
          · exact HALL.out z hz
          · simp at hz; subst hz; exact HE.out
        case measure => simp [intOf]; omega
    · have hc : l.contains x = false := by
        cases h : l.contains x with
        | false => rfl
        | true => exact absurd rfl (HALL.out x (by rw [List.take_of_length_le (by omega)]; exact List.contains_iff_mem.1 h))
      have HF := Lib.hid (show R (.returned (.bool false)) wr from by have := HR.out; rw [hc] at this; exact this)
      clear hc
      go_wp2_with fail
      exact HF.out
end Go.Proofs.YtmlbgfnddgbpbaaGreat
