/- The walks of package code: which programs and states are valid. -/
import Derived.Test.YtbccbokjecdaaaaCodeA
namespace Go.Proofs.Ytbccbokjecdaaaa
open Go.RowKit

theorem all_take_succ {α : Type} {p : List α} {f : α → Bool} {k : Nat} {x : α} (h : ∀ l ∈ p.take k, f l = true) (hx : p[k]? = some x) (hf : f x = true) : ∀ l ∈ p.take (k + 1), f l = true := by
  intro l hl
  rw [List.take_add_one, hx] at hl
  rcases List.mem_append.1 hl with hl | hl
  · exact h l hl
  · simp at hl; subst hl; exact hf
theorem all_false_at {α : Type} {p : List α} {f : α → Bool} {k : Nat} {x : α} (hx : p[k]? = some x) (hf : f x = false) : p.all f = false := by
  rw [← Bool.not_eq_true]
  intro h
  have := List.all_eq_true.1 h x (List.mem_of_getElem? hx)
  rw [this] at hf; cases hf
theorem all_of_take {α : Type} {p : List α} {f : α → Bool} {k : Nat} (h : ∀ l ∈ p.take k, f l = true) (hk : p.length ≤ k) : p.all f = true := by
  rw [List.take_of_length_le hk] at h
  exact List.all_eq_true.2 h

set_option maxHeartbeats 1000000 in
theorem validate_any (p : List Ln) (v : Value) (w : World) (hp : LinesAt w v p) (R : Ending → World → Prop) (hR : ∀ w', Grow w w' → R (.returned (.int .i64 (valP p))) w') :
    Calls Try.prog 20 #[v] w R := by
  obtain ⟨a, c, rfl, h1, h2, h3⟩ := hp
  by_cases hl : 8 < p.length
  · rw [show valP p = 3 by simp [valP, hl]] at hR
    go_enter Try.func20, Try.ntmps20
    go_wp2_with fail
    exact Grow.refl _
  · have hV : valP p = errB (p.all Ln.ok) := by simp [valP, hl]
    rw [hV] at hR
    clear hV
    have hm : p.length ≤ 9223372036854775807 := by omega
    go_enter Try.func20, Try.ntmps20
    go_wp2_with fail
    go_loopw [2, 4, 5, 11] (fun _ _ _ i wr => ∃ k : Nat, k ≤ p.length ∧ i = .int .i64 k ∧ Grow w wr ∧ ∀ l ∈ p.take k, Ln.ok l = true) (fun _ _ _ i _ => p.length - (intOf i).toNat)
    case atStart => exact ⟨0, Nat.zero_le _, rfl, Grow.refl _, by simp⟩
    case round =>
      obtain ⟨k, hk, rfl, hg, hall⟩ := hrel
      by_cases hlt : k < p.length
      · replace h3 := h3.resolve_left (by intro h; simp [h] at hlt)
        obtain ⟨b, o, rfl, hb, hc⟩ := h3
        obtain ⟨⟨op, d, x, y⟩, hx⟩ : ∃ l, p[k]? = some l := ⟨_, List.getElem?_eq_getElem hlt⟩
        obtain ⟨c0, c1, c2, c3⟩ := lines_cell hc k op d x y hx
        have e0 := hg.cell c0
        have e1 := hg.cell c1
        have e2 := hg.cell c2
        have e3 := hg.cell c3
        have hz := hg.sz
        clear hc c0 c1 c2 c3
        have HX := Lib.hid hx
        clear hx
        by_cases hv : vL op d x y = true
        · have he : errB (vL op d x y) = 0 := by rw [hv]; rfl
          have HE := Lib.hid he
          clear he
          go_wp2_with fail
          refine validateLine_any _ _ _ _ _ _ ?_
          intro w1 hg1
          rw [HE.out]
          have hg2 := (hg.alloc _).trans hg1
          clear hg hg1
          go_wp2_with fail
          go_roundw
          case rel => exact ⟨k + 1, by omega, by go_num, hg2, all_take_succ hall HX.out hv⟩
          case measure => simp [intOf]; omega
        · replace hv : vL op d x y = false := by simpa using hv
          have he : errB (vL op d x y) = 1 := by rw [hv]; rfl
          have HE := Lib.hid he
          clear he
          rw [all_false_at HX.out hv] at hR
          rw [show errB false = 1 from rfl] at hR
          go_wp2_with fail
          refine validateLine_any _ _ _ _ _ _ ?_
          intro w1 hg1
          rw [HE.out]
          have hg2 := (hg.alloc _).trans hg1
          clear hg hg1
          go_wp2_with fail
          exact hg2
      · rw [all_of_take hall (by omega)] at hR
        rw [show errB true = 0 from rfl] at hR
        go_wp2_with fail
        exact hg


end Go.Proofs.Ytbccbokjecdaaaa
