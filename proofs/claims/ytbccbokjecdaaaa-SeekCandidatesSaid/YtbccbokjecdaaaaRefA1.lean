/- The walk of the document's Validate. -/
import Derived.Test.YtbccbokjecdaaaaRefA0
namespace Go.Proofs.Ytbccbokjecdaaaa
open Go.RowKit

set_option maxHeartbeats 2000000 in
theorem rValidate_any (p : List Ln) (v : Value) (w : World) (hp : LinesAt w v p) (R : Ending → World → Prop) (hR : ∀ w', Grow w w' → R (.returned (.int .i64 (valP p))) w') :
    Calls Try.prog 24 #[v] w R := by
  obtain ⟨a, c, rfl, h1, h2, h3⟩ := hp
  by_cases hl : 8 < p.length
  · rw [show valP p = 3 by simp [valP, hl]] at hR
    go_enter Try.func24, Try.ntmps24
    go_wp2_with fail
    exact Grow.refl _
  · have hV : valP p = errB (p.all Ln.ok) := by simp [valP, hl]
    rw [hV] at hR
    clear hV
    have hm : p.length ≤ 9223372036854775807 := by omega
    go_enter Try.func24, Try.ntmps24
    go_wp2_with fail
    go_loopw [3] (fun i wr => ∃ k : Nat, k ≤ p.length ∧ i = .int .i64 k ∧ Grow w wr ∧ ∀ l ∈ p.take k, Ln.ok l = true) (fun i _ => p.length - (intOf i).toNat)
    case atStart => exact ⟨0, Nat.zero_le _, rfl, Grow.refl _, by simp⟩
    case round =>
      obtain ⟨k, hk, rfl, hg, hall⟩ := hrel
      by_cases hlt : k < p.length
      · replace h3 := h3.resolve_left (by intro h; simp [h] at hlt)
        obtain ⟨b, o, rfl, hb, hc⟩ := h3
        obtain ⟨⟨op, d, x, y⟩, hx⟩ : ∃ l, p[k]? = some l := ⟨_, List.getElem?_eq_getElem hlt⟩
        obtain ⟨c0, c1, c2, c3⟩ := lines_cell hc k op d x y hx
        have e0 := hg.cell c0
        have e1 := hg.cell c1
        have e2 := hg.cell c2
        have e3 := hg.cell c3
        have hz := hg.sz
        clear hc c0 c1 c2 c3
        have HX := Lib.hid hx
        have HA := Lib.hid hall
        have HG := Lib.hid hg
        clear hx hall hg
        cases hv : vL op d x y with
        | true =>
          go_wp2_with fail
          refine risLine_any _ _ _ _ _ _ ?_
          intro w1 hg1
          rw [hv]
          have hg2 := HG.out.trans hg1
          clear hg1
          go_wp2_with fail
          go_roundw
          case rel => exact ⟨k + 1, by omega, by go_num, hg2, all_take_succ HA.out HX.out hv⟩
          case measure => simp [intOf]; omega
        | false =>
          rw [all_false_at HX.out hv] at hR
          rw [show errB false = 1 from rfl] at hR
          have HR := Lib.hid hR
          clear hR
          go_wp2_with fail
          refine risLine_any _ _ _ _ _ _ ?_
          intro w1 hg1
          rw [hv]
          have hg2 := HG.out.trans hg1
          clear hg1
          go_wp2_with fail
          exact HR.out _ hg2
      · rw [all_of_take hall (by omega)] at hR
        rw [show errB true = 0 from rfl] at hR
        go_wp2_with fail
        exact hg
end Go.Proofs.Ytbccbokjecdaaaa
