/- The walks of the functions that say whether a list is strictly ascending. -/
import Derived.Test.YtmaphlbmmemgcaaPlS
import Derived.Test.YtmaphlbmmemgcaaRefA
namespace Go.Proofs.Ytmaphlbmmemgcaa
open Go.RowKit

set_option maxHeartbeats 2000000 in
theorem rIsSet_any (l : List Int) (v : Value) (w : World) (hs : IntsAt w v l) (R : Ending → World → Prop) (hR : ∀ w', Grow w w' → R (.returned (.bool (ascB l))) w') :
    Calls Try.prog 45 #[v] w R := by
  have HR := Lib.hid hR
  obtain ⟨a, c, rfl, h1, h2, h3⟩ := hs
  clear hR
  go_enter Try.func45, Try.ntmps45
  go_wp2_with fail
  go_loopw [3] (fun i wr => ∃ k : Nat, 1 ≤ k ∧ (k ≤ l.length ∨ k = 1) ∧ i = .int .i64 k ∧ Grow w wr ∧ ∀ j, j + 1 < k → l.getD j 0 < l.getD (j + 1) 0) (fun i _ => l.length - (intOf i).toNat)
  case atStart => exact ⟨1, Nat.le_refl _, .inr rfl, rfl, Grow.refl _, fun j hj => by omega⟩
  case round =>
    obtain ⟨k, hk1, hk, rfl, hg, hall⟩ := hrel
    by_cases hlt : k < l.length
    · replace h3 := h3.resolve_left (by intro h; simp [h.1] at hlt)
      obtain ⟨b, o, rfl, hb, hc⟩ := h3
      obtain ⟨m, rfl⟩ : ∃ m, k = m + 1 := ⟨k - 1, by omega⟩
      obtain ⟨y, hy⟩ : ∃ y, l[m + 1]? = some y := ⟨_, List.getElem?_eq_getElem hlt⟩
      obtain ⟨x, hx⟩ : ∃ x, l[m]? = some x := ⟨_, List.getElem?_eq_getElem (by omega)⟩
      have e1 := hg.cell (ints_cell hc (m + 1) y hy)
      have e0 := hg.cell (ints_cell hc m x hx)
      have dx : l.getD m 0 = x := by rw [List.getD_eq_getElem?_getD, hx]; rfl
      have dy : l.getD (m + 1) 0 = y := by rw [List.getD_eq_getElem?_getD, hy]; rfl
      have HA := Lib.hid hall
      have HG := Lib.hid hg
      have HDX := Lib.hid dx
      have HDY := Lib.hid dy
      clear hc hx hy dx dy hall hg hk hk1
      have hm0 : l.length ≤ 9223372036854775807 := by omega
      by_cases hxy : y ≤ x
      · rw [ascB_false_at (l := l) (k := m) hlt (by rw [HDX.out, HDY.out]; exact hxy)] at HR
        have t1 : decide (y ≤ x) = true := decide_eq_true hxy
        have q1 : IntKind.i64.wrap (((m + 1 : Nat) : Int) - 1) = (m : Int) := by rw [show ((m + 1 : Nat) : Int) - 1 = (m : Int) by omega]; exact IntWalk.i64_in _ (by omega)
        have q2 : IntKind.i64.wrap ((m : Int) + 1 - 1) = (m : Int) := by rw [show (m : Int) + 1 - 1 = (m : Int) by omega]; exact IntWalk.i64_in _ (by omega)
        clear HA HDX HDY
        go_wp2_with (go_quiet (fail))
        exact HR.out _ (HG.out.drewN _)
      · have t1 : decide (y ≤ x) = false := decide_eq_false hxy
        have q1 : IntKind.i64.wrap (((m + 1 : Nat) : Int) - 1) = (m : Int) := by rw [show ((m + 1 : Nat) : Int) - 1 = (m : Int) by omega]; exact IntWalk.i64_in _ (by omega)
        have q2 : IntKind.i64.wrap ((m : Int) + 1 - 1) = (m : Int) := by rw [show (m : Int) + 1 - 1 = (m : Int) by omega]; exact IntWalk.i64_in _ (by omega)
        have HXY := Lib.hid hxy
        go_wp2_with (go_quiet (fail))
        go_roundw
        case rel =>
          refine ⟨m + 1 + 1, by omega, .inl (by omega), by go_num, HG.out.drewN _, fun j hj => ?_⟩
          by_cases hjm : j = m
          · subst hjm; rw [HDX.out, HDY.out]; have := HXY.out; omega
          · exact HA.out j (by omega)
        case measure => simp [intOf]; omega
    · have ht : ascB l = true := ascB_true.2 fun j hj => hall j (by omega)
      rw [ht] at HR
      have HG := Lib.hid hg
      clear hg hall hk ht
      go_wp2_with fail
      exact HR.out _ HG.out

set_option maxHeartbeats 2000000 in
theorem isSet_any (l : List Int) (v : Value) (w : World) (hs : IntsAt w v l) (R : Ending → World → Prop) (hR : ∀ w', Grow w w' → R (.returned (.bool (ascB l))) w') :
    Calls Try.prog 82 #[v] w R := by
  have HR := Lib.hid hR
  obtain ⟨a, c, rfl, h1, h2, h3⟩ := hs
  clear hR
  go_enter Try.func82, Try.ntmps82
  go_wp2_with fail
  go_loopw [3] (fun i wr => ∃ k : Nat, 1 ≤ k ∧ (k ≤ l.length ∨ k = 1) ∧ i = .int .i64 k ∧ Grow w wr ∧ ∀ j, j + 1 < k → l.getD j 0 < l.getD (j + 1) 0) (fun i _ => l.length - (intOf i).toNat)
  case atStart => exact ⟨1, Nat.le_refl _, .inr rfl, rfl, Grow.refl _, fun j hj => by omega⟩
  case round =>
    obtain ⟨k, hk1, hk, rfl, hg, hall⟩ := hrel
    by_cases hlt : k < l.length
    · replace h3 := h3.resolve_left (by intro h; simp [h.1] at hlt)
      obtain ⟨b, o, rfl, hb, hc⟩ := h3
      obtain ⟨m, rfl⟩ : ∃ m, k = m + 1 := ⟨k - 1, by omega⟩
      obtain ⟨y, hy⟩ : ∃ y, l[m + 1]? = some y := ⟨_, List.getElem?_eq_getElem hlt⟩
      obtain ⟨x, hx⟩ : ∃ x, l[m]? = some x := ⟨_, List.getElem?_eq_getElem (by omega)⟩
      have e1 := hg.cell (ints_cell hc (m + 1) y hy)
      have e0 := hg.cell (ints_cell hc m x hx)
      have dx : l.getD m 0 = x := by rw [List.getD_eq_getElem?_getD, hx]; rfl
      have dy : l.getD (m + 1) 0 = y := by rw [List.getD_eq_getElem?_getD, hy]; rfl
      have HA := Lib.hid hall
      have HG := Lib.hid hg
      have HDX := Lib.hid dx
      have HDY := Lib.hid dy
      clear hc hx hy dx dy hall hg hk hk1
      have hm0 : l.length ≤ 9223372036854775807 := by omega
      by_cases hxy : y ≤ x
      · rw [ascB_false_at (l := l) (k := m) hlt (by rw [HDX.out, HDY.out]; exact hxy)] at HR
        have t1 : decide (y ≤ x) = true := decide_eq_true hxy
        have q1 : IntKind.i64.wrap (((m + 1 : Nat) : Int) - 1) = (m : Int) := by rw [show ((m + 1 : Nat) : Int) - 1 = (m : Int) by omega]; exact IntWalk.i64_in _ (by omega)
        have q2 : IntKind.i64.wrap ((m : Int) + 1 - 1) = (m : Int) := by rw [show (m : Int) + 1 - 1 = (m : Int) by omega]; exact IntWalk.i64_in _ (by omega)
        clear HA HDX HDY
        go_wp2_with (go_quiet (fail))
        exact HR.out _ (HG.out.drewN _)
      · have t1 : decide (y ≤ x) = false := decide_eq_false hxy
        have q1 : IntKind.i64.wrap (((m + 1 : Nat) : Int) - 1) = (m : Int) := by rw [show ((m + 1 : Nat) : Int) - 1 = (m : Int) by omega]; exact IntWalk.i64_in _ (by omega)
        have q2 : IntKind.i64.wrap ((m : Int) + 1 - 1) = (m : Int) := by rw [show (m : Int) + 1 - 1 = (m : Int) by omega]; exact IntWalk.i64_in _ (by omega)
        have HXY := Lib.hid hxy
        go_wp2_with (go_quiet (fail))
        go_roundw
        case rel =>
          refine ⟨m + 1 + 1, by omega, .inl (by omega), by go_num, HG.out.drewN _, fun j hj => ?_⟩
          by_cases hjm : j = m
          · subst hjm; rw [HDX.out, HDY.out]; have := HXY.out; omega
          · exact HA.out j (by omega)
        case measure => simp [intOf]; omega
    · have ht : ascB l = true := ascB_true.2 fun j hj => hall j (by omega)
      rw [ht] at HR
      have HG := Lib.hid hg
      clear hg hall hk ht
      go_wp2_with fail
      exact HR.out _ HG.out

end Go.Proofs.Ytmaphlbmmemgcaa
