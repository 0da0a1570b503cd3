/- The walk of the document's SameInts of layer 4: whether two lists of numbers are equal. -/
import Derived.Test.YtbccbokjecdaaaaGreatC11
namespace Go.Proofs.YtbccbokjecdaaaaGreat
open Go.RowKit

theorem sameI4_loop {xs ys : List Int} (k : Nat) (hl : xs.length = ys.length) (h : xs.take k = ys.take k) (hk : xs.length ≤ k) : decide (xs = ys) = true := by
  rw [List.take_of_length_le hk, List.take_of_length_le (by omega)] at h
  simp [h]

set_option maxHeartbeats 2000000 in
theorem rsameI4_any (xs ys : List Int) (v u : Value) (w : World) (hx : IntsAt w v xs) (hy : IntsAt w u ys) (R : Ending → World → Prop) (hR : ∀ w', Grow w w' → R (.returned (.bool (decide (xs = ys)))) w') :
    Calls Tryz.prog 21 #[v, u] w R := by
  have HR := Lib.hid hR
  clear hR
  obtain ⟨a, c, rfl, h1, h2, h3⟩ := hx
  obtain ⟨a', c', rfl, h1', h2', h3'⟩ := hy
  by_cases hl : xs.length = ys.length
  · rw [← hl] at h1' ⊢
    go_enter Tryz.func21, Tryz.ntmps21
    go_wp2_with fail
    go_loopw [5] (fun i wr => ∃ k : Nat, k ≤ xs.length ∧ i = .int .i64 k ∧ xs.take k = ys.take k ∧ Grow w wr) (fun i _ => xs.length - (intOf i).toNat)
    case atStart => exact ⟨0, Nat.zero_le _, rfl, rfl, Grow.refl _⟩
    case round =>
      obtain ⟨k, hk, rfl, hs, hg⟩ := hrel
      by_cases hlt : k < xs.length
      · replace h3 := h3.resolve_left (by intro h; simp [h.1] at hlt)
        replace h3' := h3'.resolve_left (by intro h; have h0 := h.1; rw [h0] at hl; rw [hl] at hlt; simp at hlt)
        obtain ⟨b, o, rfl, hb, hc⟩ := h3
        obtain ⟨b', o', rfl, hb', hc'⟩ := h3'
        obtain ⟨x, hx⟩ : ∃ l, xs[k]? = some l := ⟨_, List.getElem?_eq_getElem hlt⟩
        obtain ⟨y, hy⟩ : ∃ l, ys[k]? = some l := ⟨_, List.getElem?_eq_getElem (by omega)⟩
        have e0 := hg.cell (ints_cell hc k x hx)
        have e1 := hg.cell (ints_cell hc' k y hy)
        have HX := Lib.hid hx
        have HY := Lib.hid hy
        have HG := Lib.hid hg
        have HS := Lib.hid hs
        have HL := Lib.hid hl
        clear hc hc' hx hy hg hs hl
        by_cases hxy : x = y
        · subst hxy
          go_wp2_with (go_quiet (fail))
          go_roundw
          case rel => exact ⟨k + 1, by omega, by go_num, take_succ_eq4 HS.out HX.out HY.out, HG.out.drewN _⟩
          case measure => simp [intOf]; omega
        · have t1 : (x == y) = false := by simpa using hxy
          have t2 : (x != y) = true := by simpa using hxy
          have hne : decide (xs = ys) = false := by
            simp only [decide_eq_false_iff_not]; intro e; rw [e, HY.out] at HX; exact hxy (Option.some.inj HX.out).symm
          rw [hne] at HR
          go_wp2_with (go_quiet (fail))
          exact HR.out _ (HG.out.drewN _)
      · have ht := sameI4_loop k hl hs (by omega)
        rw [ht] at HR
        go_wp2_with fail
        exact HR.out _ hg
  · have hne : decide (xs = ys) = false := by
      simp only [decide_eq_false_iff_not]; intro e; exact hl (by rw [e])
    rw [hne] at HR
    have hl2 : (xs.length : Int) ≠ ys.length := by omega
    have t1 : ((xs.length : Int) == ys.length) = false := beq_eq_false_iff_ne.2 hl2
    have t2 : ((xs.length : Int) != ys.length) = true := bne_iff_ne.2 hl2
    go_enter Tryz.func21, Tryz.ntmps21
    go_wp2_with fail
    exact HR.out _ (Grow.refl _)
end Go.Proofs.YtbccbokjecdaaaaGreat
