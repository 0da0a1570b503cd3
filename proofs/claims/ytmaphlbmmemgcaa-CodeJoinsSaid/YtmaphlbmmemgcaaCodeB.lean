/- The walks of package code: which programs and states are valid. -/
import Derived.Test.YtmaphlbmmemgcaaCodeA
namespace Go.Proofs.Ytmaphlbmmemgcaa
open Go.RowKit

theorem all_take_succ {α : Type} {p : List α} {f : α → Bool} {k : Nat} {x : α} (h : ∀ l ∈ p.take k, f l = true) (hx : p[k]? = some x) (hf : f x = true) : ∀ l ∈ p.take (k + 1), f l = true := by
  intro l hl
  rw [List.take_add_one, hx] at hl
  rcases List.mem_append.1 hl with hl | hl
  · exact h l hl
  · simp at hl; subst hl; exact hf
theorem all_false_at {α : Type} {p : List α} {f : α → Bool} {k : Nat} {x : α} (hx : p[k]? = some x) (hf : f x = false) : p.all f = false := by
  rw [← Bool.not_eq_true]
  intro h
  have := List.all_eq_true.1 h x (List.mem_of_getElem? hx)
  rw [this] at hf; cases hf
theorem all_of_take {α : Type} {p : List α} {f : α → Bool} {k : Nat} (h : ∀ l ∈ p.take k, f l = true) (hk : p.length ≤ k) : p.all f = true := by
  rw [List.take_of_length_le hk] at h
  exact List.all_eq_true.2 h

set_option maxHeartbeats 1000000 in
theorem validate_any (p : List Ln) (v : Value) (w : World) (hp : LinesAt w v p) (R : Ending → World → Prop) (hR : ∀ w', Grow w w' → R (.returned (.int .i64 (valP p))) w') :
    Calls Try.prog 25 #[v] w R := by
  obtain ⟨a, c, rfl, h1, h2, h3⟩ := hp
  by_cases hl : 8 < p.length
  · rw [show valP p = 3 by simp [valP, hl]] at hR
    go_enter Try.func25, Try.ntmps25
    go_wp2_with fail
    exact Grow.refl _
  · have hV : valP p = errB (p.all Ln.ok) := by simp [valP, hl]
    rw [hV] at hR
    clear hV
    have hm : p.length ≤ 9223372036854775807 := by omega
    go_enter Try.func25, Try.ntmps25
    go_wp2_with fail
    go_loopw [2, 4, 5, 11] (fun _ _ _ i wr => ∃ k : Nat, k ≤ p.length ∧ i = .int .i64 k ∧ Grow w wr ∧ ∀ l ∈ p.take k, Ln.ok l = true) (fun _ _ _ i _ => p.length - (intOf i).toNat)
    case atStart => exact ⟨0, Nat.zero_le _, rfl, Grow.refl _, by simp⟩
    case round =>
      obtain ⟨k, hk, rfl, hg, hall⟩ := hrel
      by_cases hlt : k < p.length
      · replace h3 := h3.resolve_left (by intro h; simp [h] at hlt)
        obtain ⟨b, o, rfl, hb, hc⟩ := h3
        obtain ⟨⟨op, d, x, y⟩, hx⟩ : ∃ l, p[k]? = some l := ⟨_, List.getElem?_eq_getElem hlt⟩
        obtain ⟨c0, c1, c2, c3⟩ := lines_cell hc k op d x y hx
        have e0 := hg.cell c0
        have e1 := hg.cell c1
        have e2 := hg.cell c2
        have e3 := hg.cell c3
        have hz := hg.sz
        clear hc c0 c1 c2 c3
        have HX := Lib.hid hx
        clear hx
        by_cases hv : vL op d x y = true
        · have he : errB (vL op d x y) = 0 := by rw [hv]; rfl
          have HE := Lib.hid he
          clear he
          go_wp2_with fail
          refine validateLine_any _ _ _ _ _ _ ?_
          intro w1 hg1
          rw [HE.out]
          have hg2 := (hg.alloc _).trans hg1
          clear hg hg1
          go_wp2_with fail
          go_roundw
          case rel => exact ⟨k + 1, by omega, by go_num, hg2, all_take_succ hall HX.out hv⟩
          case measure => simp [intOf]; omega
        · replace hv : vL op d x y = false := by simpa using hv
          have he : errB (vL op d x y) = 1 := by rw [hv]; rfl
          have HE := Lib.hid he
          clear he
          rw [all_false_at HX.out hv] at hR
          rw [show errB false = 1 from rfl] at hR
          go_wp2_with fail
          refine validateLine_any _ _ _ _ _ _ ?_
          intro w1 hg1
          rw [HE.out]
          have hg2 := (hg.alloc _).trans hg1
          clear hg hg1
          go_wp2_with fail
          exact hg2
      · rw [all_of_take hall (by omega)] at hR
        rw [show errB true = 0 from rfl] at hR
        go_wp2_with fail
        exact hg

/-- A function value that answers pr of an integer, in every world that comes of w. -/
def PredI (g : Nat) (cb : Array Value) (w : World) (pr : Int → Bool) : Prop :=
  ∀ x W, Grow w W → ∀ R : Ending → World → Prop, (∀ W', Grow W W' → R (.returned (.bool (pr x))) W') → Calls Try.prog g (#[.int .i64 x] ++ cb) W R

def idxI (pr : Int → Bool) (xs : List Int) : Int := if xs.any pr then (xs.findIdx pr : Int) else -1

theorem findIdx_at {pr : Int → Bool} {xs : List Int} {k : Nat} {x : Int} (h : ∀ y ∈ xs.take k, pr y = false) (hx : xs[k]? = some x) (hp : pr x = true) : idxI pr xs = k := by
  have ha : xs.any pr = true := List.any_eq_true.2 ⟨x, List.mem_of_getElem? hx, hp⟩
  have hlt : k < xs.length := (List.getElem?_eq_some_iff.1 hx).1
  have hxe : xs[k] = x := by rw [List.getElem?_eq_getElem hlt] at hx; exact Option.some.inj hx
  unfold idxI
  rw [if_pos ha]
  have : xs.findIdx pr = k := by
    rw [List.findIdx_eq hlt]
    refine ⟨by rw [hxe]; exact hp, fun j hj => ?_⟩
    have := h xs[j] (by rw [List.mem_take_iff_getElem]; exact ⟨j, by omega, rfl⟩)
    simpa using this
  rw [this]
theorem idxI_none {pr : Int → Bool} {xs : List Int} {k : Nat} (h : ∀ y ∈ xs.take k, pr y = false) (hk : xs.length ≤ k) : idxI pr xs = -1 := by
  rw [List.take_of_length_le hk] at h
  unfold idxI
  rw [if_neg]
  intro ha
  obtain ⟨y, hy, hp⟩ := List.any_eq_true.1 ha
  rw [h y hy] at hp; cases hp
theorem take_succ_false {pr : Int → Bool} {xs : List Int} {k : Nat} {x : Int} (h : ∀ y ∈ xs.take k, pr y = false) (hx : xs[k]? = some x) (hp : pr x = false) : ∀ y ∈ xs.take (k + 1), pr y = false := by
  intro l hl
  rw [List.take_add_one, hx] at hl
  rcases List.mem_append.1 hl with hl | hl
  · exact h l hl
  · simp at hl; subst hl; exact hp
theorem idxI_ge (pr : Int → Bool) (xs : List Int) : decide (0 ≤ idxI pr xs) = xs.any pr := by
  unfold idxI; cases xs.any pr <;> simp

set_option maxHeartbeats 1000000 in
theorem indexFuncI_any (g : Nat) (cb : Array Value) (eg : Enters Try.prog g) (pr : Int → Bool) (xs : List Int) (v : Value) (w : World) (hx : IntsAt w v xs) (hp : PredI g cb w pr)
    (R : Ending → World → Prop) (hR : ∀ w', Grow w w' → R (.returned (.int .i64 (idxI pr xs))) w') :
    Calls Try.prog 94 #[v, .func (.func g) #[] cb] w R := by
  obtain ⟨a, c, rfl, h1, h2, h3⟩ := hx
  have hm : xs.length ≤ 9223372036854775807 := by omega
  unfold Enters at eg
  go_enter Try.func94, Try.ntmps94
  go_wp2_with fail
  go_loopw [4, 5, 8] (fun _ _ i wr => ∃ k : Nat, k ≤ xs.length ∧ i = .int .i64 k ∧ Grow w wr ∧ ∀ y ∈ xs.take k, pr y = false) (fun _ _ i _ => xs.length - (intOf i).toNat)
  case atStart => exact ⟨0, Nat.zero_le _, rfl, Grow.refl _, by simp⟩
  case round =>
    obtain ⟨k, hk, rfl, hg, hall⟩ := hrel
    by_cases hlt : k < xs.length
    · replace h3 := h3.resolve_left (by intro h; simp [h] at hlt)
      obtain ⟨b, o, rfl, hb, hc⟩ := h3
      obtain ⟨x, hx⟩ : ∃ x, xs[k]? = some x := ⟨_, List.getElem?_eq_getElem hlt⟩
      have e0 := hg.cell (ints_cell hc k x hx)
      have hz := hg.sz
      clear hc
      have HX := Lib.hid hx
      have HP := Lib.hid hp
      clear hx hp
      by_cases hv : pr x = true
      · rw [findIdx_at hall HX.out hv] at hR
        go_wp2_with fail
        refine HP.out x _ hg _ ?_
        intro w1 hg1
        rw [hv]
        have hg2 := hg.trans hg1
        clear hg hg1
        go_wp2_with fail
        exact hg2
      · replace hv : pr x = false := by simpa using hv
        go_wp2_with fail
        refine HP.out x _ hg _ ?_
        intro w1 hg1
        rw [hv]
        have hg2 := hg.trans hg1
        clear hg hg1
        go_wp2_with fail
        go_roundw
        case rel => exact ⟨k + 1, by omega, by go_num, hg2, take_succ_false hall HX.out hv⟩
        case measure => simp [intOf]; omega
    · rw [idxI_none hall (by omega)] at hR
      go_wp2_with fail
      exact hg

set_option maxHeartbeats 1000000 in
theorem containsFuncI_any (g : Nat) (cb : Array Value) (eg : Enters Try.prog g) (pr : Int → Bool) (xs : List Int) (v : Value) (w : World) (hx : IntsAt w v xs) (hp : PredI g cb w pr)
    (R : Ending → World → Prop) (hR : ∀ w', Grow w w' → R (.returned (.bool (xs.any pr))) w') :
    Calls Try.prog 73 #[v, .func (.func g) #[] cb] w R := by
  rw [← idxI_ge] at hR
  generalize hi : idxI pr xs = i at hR
  have HI := Lib.hid hi
  clear hi
  go_enter Try.func73, Try.ntmps73
  go_wp2_with fail
  refine indexFuncI_any g cb eg pr xs v _ hx hp _ ?_
  intro w1 hg1
  rw [HI.out]
  go_wp2_with fail
  exact hg1

theorem validateState1_any (x : Int) (w : World) (R : Ending → World → Prop) (hR : R (.returned (.bool (!inB x (-999) 999))) w) :
    Calls Try.prog 74 #[.int .i64 x] w R := by
  go_enter Try.func74, Try.ntmps74
  go_wp2_with (go_at_call 75; refine (within_any _ _ _ _ _ ?_))
  simpa using hR

theorem any_not (xs : List Int) : (xs.any fun x => !inB x (-999) 999) = !(xs.all fun n => inB n (-999) 999) := by
  rw [List.not_all_eq_any_not]

set_option maxHeartbeats 1000000 in
theorem validateState_any (s : List Int) (v : Value) (w : World) (hs : IntsAt w v s) (R : Ending → World → Prop) (hR : ∀ w', Grow w w' → R (.returned (.int .i64 (valS s))) w') :
    Calls Try.prog 27 #[v] w R := by
  have hs' := hs
  obtain ⟨a, c, rfl, h1, h2, h3⟩ := hs'
  clear h3
  by_cases hl : s.length = 4
  · have hV : valS s = errB (s.all fun n => inB n (-999) 999) := by simp [valS, hl]
    rw [hV] at hR
    clear hV
    have hb : ((s.length : Int) == 4) = true := by simp [hl]
    have hb2 : ((s.length : Int) != 4) = false := by simp [hl]
    have HL := Lib.hid hl
    clear hl
    have hp : PredI 74 #[] w (fun x => !inB x (-999) 999) := fun x W _ R hR => validateState1_any x W R (hR W (Grow.refl _))
    have HS := Lib.hid hs
    have HP := Lib.hid hp
    clear hs hp
    go_enter Try.func27, Try.ntmps27
    cases hq : s.all fun n => inB n (-999) 999
    · rw [hq] at hR
      rw [show errB false = 1 from rfl] at hR
      have HQ := Lib.hid hq
      clear hq
      go_wp2_with fail
      refine containsFuncI_any _ _ (enters_of Try.func74 (by kernel_rfl) rfl) _ s _ _ HS.out HP.out _ ?_
      intro w1 hg1
      rw [any_not, HQ.out]
      go_wp2_with fail
      exact hg1
    · rw [hq] at hR
      rw [show errB true = 0 from rfl] at hR
      have HQ := Lib.hid hq
      clear hq
      go_wp2_with fail
      refine containsFuncI_any _ _ (enters_of Try.func74 (by kernel_rfl) rfl) _ s _ _ HS.out HP.out _ ?_
      intro w1 hg1
      rw [any_not, HQ.out]
      go_wp2_with fail
      exact hg1
  · have hV : valS s = 1 := by simp [valS, hl]
    rw [hV] at hR
    clear hV
    have hb : ((s.length : Int) == 4) = false := by simp; omega
    have hb2 : ((s.length : Int) != 4) = true := by simp; omega
    go_enter Try.func27, Try.ntmps27
    go_wp2_with fail
    exact Grow.refl _

end Go.Proofs.Ytmaphlbmmemgcaa
