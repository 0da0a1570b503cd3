/- The walks of the document's answer to layer 1: valid programs and states, copies, equal programs; and the statements' size tests. -/
import Derived.Test.YtmaphlbmmemgcaaRefA
import Derived.Test.YtmaphlbmmemgcaaCodeE
namespace Go.Proofs.Ytmaphlbmmemgcaa
open Go.RowKit

set_option maxHeartbeats 2000000 in
theorem rValidate_any (p : List Ln) (v : Value) (w : World) (hp : LinesAt w v p) (R : Ending → World → Prop) (hR : ∀ w', Grow w w' → R (.returned (.int .i64 (valP p))) w') :
    Calls Try.prog 26 #[v] w R := by
  obtain ⟨a, c, rfl, h1, h2, h3⟩ := hp
  by_cases hl : 8 < p.length
  · rw [show valP p = 3 by simp [valP, hl]] at hR
    go_enter Try.func26, Try.ntmps26
    go_wp2_with fail
    exact Grow.refl _
  · have hV : valP p = errB (p.all Ln.ok) := by simp [valP, hl]
    rw [hV] at hR
    clear hV
    have hm : p.length ≤ 9223372036854775807 := by omega
    go_enter Try.func26, Try.ntmps26
    go_wp2_with fail
    go_loopw [3] (fun i wr => ∃ k : Nat, k ≤ p.length ∧ i = .int .i64 k ∧ Grow w wr ∧ ∀ l ∈ p.take k, Ln.ok l = true) (fun i _ => p.length - (intOf i).toNat)
    case atStart => exact ⟨0, Nat.zero_le _, rfl, Grow.refl _, by simp⟩
    case round =>
      obtain ⟨k, hk, rfl, hg, hall⟩ := hrel
      by_cases hlt : k < p.length
      · replace h3 := h3.resolve_left (by intro h; simp [h] at hlt)
        obtain ⟨b, o, rfl, hb, hc⟩ := h3
        obtain ⟨⟨op, d, x, y⟩, hx⟩ : ∃ l, p[k]? = some l := ⟨_, List.getElem?_eq_getElem hlt⟩
        obtain ⟨c0, c1, c2, c3⟩ := lines_cell hc k op d x y hx
        have e0 := hg.cell c0
        have e1 := hg.cell c1
        have e2 := hg.cell c2
        have e3 := hg.cell c3
        have hz := hg.sz
        clear hc c0 c1 c2 c3
        have HX := Lib.hid hx
        have HA := Lib.hid hall
        have HG := Lib.hid hg
        clear hx hall hg
        cases hv : vL op d x y with
        | true =>
          go_wp2_with fail
          refine risLine_any _ _ _ _ _ _ ?_
          intro w1 hg1
          rw [hv]
          have hg2 := HG.out.trans hg1
          clear hg1
          go_wp2_with fail
          go_roundw
          case rel => exact ⟨k + 1, by omega, by go_num, hg2, all_take_succ HA.out HX.out hv⟩
          case measure => simp [intOf]; omega
        | false =>
          rw [all_false_at HX.out hv] at hR
          rw [show errB false = 1 from rfl] at hR
          have HR := Lib.hid hR
          clear hR
          go_wp2_with fail
          refine risLine_any _ _ _ _ _ _ ?_
          intro w1 hg1
          rw [hv]
          have hg2 := HG.out.trans hg1
          clear hg1
          go_wp2_with fail
          exact HR.out _ hg2
      · rw [all_of_take hall (by omega)] at hR
        rw [show errB true = 0 from rfl] at hR
        go_wp2_with fail
        exact hg

theorem rall_take_succ {α : Type} {f : α → Bool} {xs : List α} {k : Nat} {x : α} (h : ∀ l ∈ xs.take k, f l = true) (hx : xs[k]? = some x) (hf : f x = true) : ∀ l ∈ xs.take (k + 1), f l = true := by
  intro l hl
  rw [List.take_add_one, hx] at hl
  rcases List.mem_append.1 hl with hl | hl
  · exact h l hl
  · simp at hl; subst hl; exact hf
theorem rall_false_at {α : Type} {f : α → Bool} {xs : List α} {k : Nat} {x : α} (hx : xs[k]? = some x) (hf : f x = false) : xs.all f = false := by
  cases h : xs.all f with
  | false => rfl
  | true => rw [List.all_eq_true.1 h x (List.mem_of_getElem? hx)] at hf; cases hf
theorem rall_of_take {α : Type} {f : α → Bool} {xs : List α} {k : Nat} (h : ∀ l ∈ xs.take k, f l = true) (hk : xs.length ≤ k) : xs.all f = true := by
  rw [List.take_of_length_le hk] at h
  exact List.all_eq_true.2 h

set_option maxHeartbeats 2000000 in
theorem rValidateState_any (s : List Int) (v : Value) (w : World) (hs : IntsAt w v s) (R : Ending → World → Prop) (hR : R (.returned (.int .i64 (valS s))) w) :
    Calls Try.prog 28 #[v] w R := by
  obtain ⟨a, c, rfl, h1, h2, h3⟩ := hs
  by_cases hl : s.length = 4
  · have hV : valS s = errB (s.all fun n => inB n (-999) 999) := by simp [valS, hl]
    rw [hV] at hR
    clear hV
    have hm : s.length ≤ 9223372036854775807 := by omega
    have hb : ((s.length : Int) == 4) = true := by simp [hl]
    have hb2 : ((s.length : Int) != 4) = false := by simp [hl]
    have HL := Lib.hid hl
    clear hl
    go_enter Try.func28, Try.ntmps28
    go_wp2_with fail
    go_loopw [3] (fun i wr => ∃ k : Nat, k ≤ s.length ∧ i = .int .i64 k ∧ wr = w ∧ ∀ l ∈ s.take k, inB l (-999) 999 = true) (fun i _ => s.length - (intOf i).toNat)
    case atStart => exact ⟨0, Nat.zero_le _, rfl, rfl, by simp⟩
    case round =>
      obtain ⟨k, hk, rfl, rfl, hall⟩ := hrel
      by_cases hlt : k < s.length
      · replace h3 := h3.resolve_left (by intro h; simp [h.1] at hlt)
        obtain ⟨b, o, rfl, hb', hc⟩ := h3
        obtain ⟨x, hx⟩ : ∃ l, s[k]? = some l := ⟨_, List.getElem?_eq_getElem hlt⟩
        have e0 := ints_cell hc k x hx
        have HX := Lib.hid hx
        have HA := Lib.hid hall
        clear hc hx hall
        cases hv : inB x (-999) 999 with
        | true =>
          have HV := Lib.hid hv
          clear hv
          go_wp2_with fail
          refine rwithin_any _ _ _ _ _ ?_
          rw [HV.out]
          go_wp2_with fail
          go_roundw
          case rel => exact ⟨k + 1, by omega, by go_num, trivial, rall_take_succ HA.out HX.out HV.out⟩
          case measure => simp [intOf]; omega
        | false =>
          have HV := Lib.hid hv
          clear hv
          rw [rall_false_at (f := fun n => inB n (-999) 999) HX.out HV.out] at hR
          rw [show errB false = 1 from rfl] at hR
          have HR := Lib.hid hR
          clear hR
          go_wp2_with fail
          refine rwithin_any _ _ _ _ _ ?_
          rw [HV.out]
          go_wp2_with fail
          exact HR.out
      · rw [rall_of_take hall (by omega)] at hR
        rw [show errB true = 0 from rfl] at hR
        go_wp2_with fail
        exact hR
  · have hV : valS s = 1 := by simp [valS, hl]
    rw [hV] at hR
    clear hV
    have hb : ((s.length : Int) == 4) = false := by simp; omega
    have hb2 : ((s.length : Int) != 4) = true := by simp; omega
    go_enter Try.func28, Try.ntmps28
    go_wp2_with fail
    exact hR

theorem rasked_any (p : List Ln) (s : List Int) (v u : Value) (w : World) (hp : LinesAt w v p) (hs : IntsAt w u s) (R : Ending → World → Prop) (hR : ∀ w', Grow w w' → R (.returned (.int .i64 (chk p s))) w') :
    Calls Try.prog 66 #[v, u] w R := by
  have HP := Lib.hid hp
  have HS := Lib.hid hs
  obtain ⟨a, c, rfl, _, _, _⟩ := hp
  obtain ⟨a', c', rfl, _, _, _⟩ := hs
  by_cases h : valP p = 0
  · rw [show chk p s = valS s by simp [chk, h]] at hR
    have HR := Lib.hid hR
    clear hR
    go_enter Try.func66, Try.ntmps66
    go_wp2_with fail
    refine rValidate_any p _ _ HP.out _ ?_
    intro w1 hg1
    rw [h]
    go_wp2_with fail
    refine rValidateState_any s _ _ (HS.out.grow hg1) _ ?_
    have HF := Lib.hid (HR.out w1 hg1)
    generalize valS s = e at HF ⊢
    go_wp2_with fail
    exact HF.out
  · rw [show chk p s = valP p by simp [chk, h]] at hR
    have HR := Lib.hid hR
    clear hR
    generalize he : valP p = e at h HR
    have HE := Lib.hid he
    clear he
    have hb : (e == 0) = false := by simpa using h
    have hb2 : (e != 0) = true := by simpa using h
    go_enter Try.func66, Try.ntmps66
    go_wp2_with fail
    refine rValidate_any p _ _ HP.out _ ?_
    intro w1 hg1
    rw [HE.out]
    go_wp2_with fail
    exact HR.out _ hg1

theorem long_any (p : List Ln) (v : Value) (w : World) (hp : LinesAt w v p) (R : Ending → World → Prop) (hR : R (.returned (.bool (decide (100 < p.length)))) w) :
    Calls Try.prog 15 #[v] w R := by
  obtain ⟨a, c, rfl, _, _, _⟩ := hp
  by_cases h : 100 < p.length
  · rw [decide_eq_true h] at hR
    have hd : decide (100 < (p.length : Int)) = true := by simp; omega
    go_enter Try.func15, Try.ntmps15
    go_wp2_with fail
    first | exact hR | (rw [hd]; exact hR)
  · rw [decide_eq_false h] at hR
    have hd : decide (100 < (p.length : Int)) = false := by simp; omega
    go_enter Try.func15, Try.ntmps15
    go_wp2_with fail
    first | exact hR | (rw [hd]; exact hR)
theorem large_any (p : List Int) (v : Value) (w : World) (hp : IntsAt w v p) (R : Ending → World → Prop) (hR : R (.returned (.bool (decide (100 < p.length)))) w) :
    Calls Try.prog 16 #[v] w R := by
  obtain ⟨a, c, rfl, _, _, _⟩ := hp
  by_cases h : 100 < p.length
  · rw [decide_eq_true h] at hR
    have hd : decide (100 < (p.length : Int)) = true := by simp; omega
    go_enter Try.func16, Try.ntmps16
    go_wp2_with fail
    first | exact hR | (rw [hd]; exact hR)
  · rw [decide_eq_false h] at hR
    have hd : decide (100 < (p.length : Int)) = false := by simp; omega
    go_enter Try.func16, Try.ntmps16
    go_wp2_with fail
    first | exact hR | (rw [hd]; exact hR)
end Go.Proofs.Ytmaphlbmmemgcaa
