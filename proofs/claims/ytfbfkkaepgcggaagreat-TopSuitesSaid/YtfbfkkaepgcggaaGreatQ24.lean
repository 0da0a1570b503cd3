/-
The walks of package seek: how lines are compared, which are valid beside another one, and the fields of a line.
The order of lists of numbers: plain laws.
-/
import Derived.Test.YtfbfkkaepgcggaaGreatQ03
import Derived.Test.YtfbfkkaepgcggaaGreatQ12
import Derived.Test.YtfbfkkaepgcggaaGreatQ04
import Derived.Test.YtfbfkkaepgcggaaGreatQ01
import Derived.StillTailTactics
import Derived.RegionTactic
import Derived.BigRegion
import Derived.Shelf.SlSortCmp.WholeK
namespace Go.Proofs.YtfbfkkaepgcggaaGreat
open Go.RowKit

theorem box4 {w : World} {b : Nat} {c0 c1 c2 c3 : Value} {e : TypeId} (h : w.heap[b]? = some (.cells #[c0, c1, c2, c3] e (0, 0))) :
    w.cell? ⟨b, 0, none⟩ = some c0 ∧ w.cell? ⟨b, 1, none⟩ = some c1 ∧ w.cell? ⟨b, 2, none⟩ = some c2 ∧ w.cell? ⟨b, 3, none⟩ = some c3 := by
  refine ⟨?_, ?_, ?_, ?_⟩ <;> (unfold World.cell?; simp only [h]; rfl)

theorem swithin_any (n lo hi : Int) (w : World) (R : Ending → World → Prop) (hR : R (.returned (.bool (inB n lo hi))) w) :
    Calls Tryz.prog 45 #[.int .i64 n, .int .i64 lo, .int .i64 hi] w R := by
  by_cases h : lo ≤ n
  · by_cases h2 : n ≤ hi
    · rw [inB_true.2 ⟨h, h2⟩] at hR
      go_enter Tryz.func45, Tryz.ntmps45
      go_wp2
      simpa using hR
    · rw [inB_false.2 (by omega)] at hR
      go_enter Tryz.func45, Tryz.ntmps45
      go_wp2
      simpa using hR
  · rw [inB_false.2 (by omega)] at hR
    go_enter Tryz.func45, Tryz.ntmps45
    go_wp2
    simpa using hR

theorem isNaN_any (x : Int) (w : World) (R : Ending → World → Prop) (hR : R (.returned (.bool false)) w) : Calls Tryz.prog 75 #[.int .i64 x] w R := by
  go_enter Tryz.func75, Tryz.ntmps75
  go_wp2
  simpa using hR

theorem cmpI_any (x y : Int) (w : World) (R : Ending → World → Prop) (hR : R (.returned (.int .i64 (cmpI x y))) w) : Calls Tryz.prog 56 #[.int .i64 x, .int .i64 y] w R := by
  have HR := Lib.hid hR
  clear hR
  by_cases h1 : x < y
  · rw [show cmpI x y = -1 by unfold cmpI; rw [if_pos h1]] at HR
    go_enter Tryz.func56, Tryz.ntmps56
    go_wp2_with (go_at_call 75; refine isNaN_any _ _ _ ?_)
    exact HR.out
  · by_cases h2 : y < x
    · rw [show cmpI x y = 1 by unfold cmpI; rw [if_neg h1, if_pos h2]] at HR
      go_enter Tryz.func56, Tryz.ntmps56
      go_wp2_with (go_at_call 75; refine isNaN_any _ _ _ ?_)
      exact HR.out
    · rw [show cmpI x y = 0 by unfold cmpI; rw [if_neg h1, if_neg h2]] at HR
      go_enter Tryz.func56, Tryz.ntmps56
      go_wp2_with (go_at_call 75; refine isNaN_any _ _ _ ?_)
      exact HR.out
theorem cmpI_still (x y : Int) (w : World) : Calls Tryz.prog 56 #[.int .i64 x, .int .i64 y] w fun e w'' => e = .returned (.int .i64 (cmpI x y)) ∧ w'' = w := cmpI_any x y w _ ⟨rfl, rfl⟩

theorem orI_skip {xs : List Int} : ∀ (k : Nat), (∀ y ∈ xs.take k, y = 0) → orI xs = orI (xs.drop k) := by
  induction xs with
  | nil => intro k _; simp
  | cons x r ih =>
    intro k h
    cases k with
    | zero => rfl
    | succ k =>
      have hx : x = 0 := h x (by simp)
      rw [List.drop_succ_cons, ← ih k (fun y hy => h y (by simp [hy]))]
      show (if x = 0 then orI r else x) = _
      rw [if_pos hx]
theorem orI_at {xs : List Int} {k : Nat} {x : Int} (h : ∀ y ∈ xs.take k, y = 0) (hx : xs[k]? = some x) (h0 : x ≠ 0) : orI xs = x := by
  obtain ⟨hk, rfl⟩ := List.getElem?_eq_some_iff.1 hx
  rw [orI_skip k h, List.drop_eq_getElem_cons hk]
  show (if _ then _ else _) = _
  rw [if_neg h0]
theorem orI_none {xs : List Int} {k : Nat} (h : ∀ y ∈ xs.take k, y = 0) (hk : xs.length ≤ k) : orI xs = 0 := by
  rw [orI_skip k h, List.drop_eq_nil_of_le hk]; rfl
theorem zero_take_succ {xs : List Int} {k : Nat} (h : ∀ y ∈ xs.take k, y = 0) (hx : xs[k]? = some 0) : ∀ y ∈ xs.take (k + 1), y = 0 := by
  intro l hl
  rw [List.take_add_one, hx] at hl
  rcases List.mem_append.1 hl with hl | hl
  · exact h l hl
  · simp at hl; exact hl

set_option maxHeartbeats 1000000 in
theorem orI_any (xs : List Int) (v : Value) (w : World) (hx : IntsAt w v xs) (R : Ending → World → Prop) (hR : R (.returned (.int .i64 (orI xs))) w) : Calls Tryz.prog 84 #[v] w R := by
  have HX := Lib.hid hx
  have HR := Lib.hid hR
  obtain ⟨a, c, rfl, h1, h2, _⟩ := hx
  clear hR
  go_enter Tryz.func84, Tryz.ntmps84
  go_wp2_with fail
  go_loopw [8] (fun i wr => ∃ k : Nat, k ≤ xs.length ∧ i = .int .i64 k ∧ wr = w ∧ ∀ y ∈ xs.take k, y = 0) (fun i _ => xs.length - (intOf i).toNat)
  case atStart => exact ⟨0, Nat.zero_le _, rfl, rfl, by simp⟩
  case round =>
    obtain ⟨k, hk, rfl, rfl, hno⟩ := hrel
    have HNO := Lib.hid hno
    clear hno
    by_cases hlt : k < xs.length
    · obtain ⟨y, hy⟩ : ∃ y, xs[k]? = some y := ⟨_, List.getElem?_eq_getElem hlt⟩
      obtain ⟨b, o, rfl, _, ey⟩ := ints_at HX.out hy
      have HY := Lib.hid hy
      clear hy
      by_cases h0 : y = 0
      · subst h0
        go_wp2_with fail
        go_roundw
        case rel => exact ⟨k + 1, by omega, by go_num, trivial, zero_take_succ HNO.out HY.out⟩
        case measure => simp [intOf]; omega
      · rw [orI_at HNO.out HY.out h0] at HR
        have t1 : (y == 0) = false := by simpa using h0
        have t2 : (y != 0) = true := by simpa using h0
        go_wp2_with fail
        exact HR.out
    · rw [orI_none HNO.out (by omega)] at HR
      go_wp2_with fail
      exact HR.out

set_option maxRecDepth 100000 in
set_option maxHeartbeats 4000000 in
theorem compare_any (op d a b op' d' a' b' : Int) (w : World) (R : Ending → World → Prop) (hR : ∀ w' : World, (∃ q os', w' = Go.Sort.grow (w.drewN q) os') → R (.returned (.int .i64 (cmpL ⟨op, d, a, b⟩ ⟨op', d', a', b'⟩))) w') :
    Calls Tryz.prog 85 #[.agg #[.int .i64 op, .int .i64 d, .int .i64 a, .int .i64 b], .agg #[.int .i64 op', .int .i64 d', .int .i64 a', .int .i64 b']] w R := by
  have HR := Lib.hid hR
  clear hR
  have hc : cmpL ⟨op, d, a, b⟩ ⟨op', d', a', b'⟩ = orI [cmpI op op', cmpI d d', cmpI a a', cmpI b b'] := rfl
  rw [hc] at HR
  have k0 := fun W => cmpI_still op op' W
  have k1 := fun W => cmpI_still d d' W
  have k2 := fun W => cmpI_still a a' W
  have k3 := fun W => cmpI_still b b' W
  generalize cmpI op op' = c0 at HR k0
  generalize cmpI d d' = c1 at HR k1
  generalize cmpI a a' = c2 at HR k2
  generalize cmpI b b' = c3 at HR k3
  have K0 := Lib.hid k0
  have K1 := Lib.hid k1
  have K2 := Lib.hid k2
  have K3 := Lib.hid k3
  clear k0 k1 k2 k3 hc
  go_enter Tryz.func85, Tryz.ntmps85
  go_wp2_with fail
  have hb0 := heap_two0 w (.cells #[.int .i64 op, .int .i64 d, .int .i64 a, .int .i64 b] 44) (.cells #[.int .i64 op', .int .i64 d', .int .i64 a', .int .i64 b'] 44)
  have hb1 := heap_two1 w (.cells #[.int .i64 op, .int .i64 d, .int .i64 a, .int .i64 b] 44) (.cells #[.int .i64 op', .int .i64 d', .int .i64 a', .int .i64 b'] 44)
  generalize hW : (w.alloc (.cells #[.int .i64 op, .int .i64 d, .int .i64 a, .int .i64 b] 44)).alloc (.cells #[.int .i64 op', .int .i64 d', .int .i64 a', .int .i64 b'] 44) = W at hb0 hb1 ⊢
  have HW := Lib.hid hW
  obtain ⟨e0, e1, e2, e3⟩ := box4 hb0
  obtain ⟨f0, f1, f2, f3⟩ := box4 hb1
  clear hW hb0 hb1
  go_still_tail 20, (by kernel_rfl)
  still_call K0.out _
  repeat still_step
  still_call K1.out _
  repeat still_step
  still_call K2.out _
  repeat still_step
  still_call K3.out _
  repeat still_step
  refine wpStill_nil ?_
  change wpList _ _ _ _ _ W.drew
  clear e0 e1 e2 e3 f0 f1 f2 f3
  go_wp2_with fail
  have hi : IntsAt (W.drew.alloc (.cells #[.int .i64 c0, .int .i64 c1, .int .i64 c2, .int .i64 c3] 3)) (.slice (some ⟨W.heap.size, 0, none⟩) 4 4) [c0, c1, c2, c3] := by
    have h : (W.drew.alloc (.cells #[.int .i64 c0, .int .i64 c1, .int .i64 c2, .int .i64 c3] 3)).ownsRow W.heap.size 3 1 (.slice (some ⟨W.heap.size, 0, none⟩) 4 4) 4 ([c0, c1, c2, c3].flatMap encI) := World.ownsRow_lit W.drew #[.int .i64 c0, .int .i64 c1, .int .i64 c2, .int .i64 c3] 4 (Nat.le_refl _) (by simp [maxLen]) rfl
    exact slc_of_owns encI_len (xs := [c0, c1, c2, c3]) h
  refine orI_any [c0, c1, c2, c3] _ _ hi _ ?_
  generalize orI [c0, c1, c2, c3] = z at HR ⊢
  have HF := Lib.hid (HR.out (W.drew.alloc (.cells #[.int .i64 c0, .int .i64 c1, .int .i64 c2, .int .i64 c3] 3)) ⟨1, _, by
    rw [← HW.out]
    simp only [Go.Sort.alloc_eq_grow, Go.Sort.drew_grow, Go.Sort.grow_grow]
    rfl⟩)
  clear hi
  go_wp2_with fail
  exact HF.out

theorem cmpL_lays (blk off size : Nat) (w : World) : CmpLays Tryz.prog 85 #[] encL 4 cmpL blk off size w := by
  intro m os dk _ x y
  have := compare_any x.op x.d x.a x.b y.op y.d y.a y.b (sortWorldK encL 4 w blk off m dk os) (fun e w' => e = .returned (.int .i64 (cmpL x y)) ∧ ∃ q os', w' = Go.Sort.grow ((sortWorldK encL 4 w blk off m dk os).drewN q) os') (fun w' h => ⟨rfl, h⟩)
  exact this
theorem swoL : Go.Sort.SWO (ltOf cmpL) where
  irrefl x := by show decide (cmpL x x < 0) = false; rw [cmpL_lt]; exact decide_eq_false (ltP_irrefl x)
  trans x y z h1 h2 := by
    have h1' : decide (cmpL x y < 0) = true := h1
    have h2' : decide (cmpL y z < 0) = true := h2
    show decide (cmpL x z < 0) = true
    rw [cmpL_lt] at *
    exact decide_eq_true (ltP_trans (of_decide_eq_true h1') (of_decide_eq_true h2'))
  ntrans x y z h1 h2 := by
    have h1' : decide (cmpL x y < 0) = false := h1
    have h2' : decide (cmpL y z < 0) = false := h2
    show decide (cmpL x z < 0) = false
    rw [cmpL_lt] at *
    have n1 := of_decide_eq_false h1'
    have n2 := of_decide_eq_false h2'
    refine decide_eq_false fun h => ?_
    rcases ltP_total x y with k | k | k
    · exact n1 k
    · subst k; exact n2 h
    · exact n2 (ltP_trans k h)

/-! ### The closure of valid -/
set_option maxHeartbeats 4000000 in
theorem validF_any (op d a b op' d' a' b' : Int) (cb : Nat) (w : World) (hcb : w.heap[cb]? = some (.cells #[.int .i64 op', .int .i64 d', .int .i64 a', .int .i64 b'] 44 (0, 0))) (R : Ending → World → Prop)
    (hR : ∀ w', Grow w w' → R (.returned (.bool (decide ((⟨op, d, a, b⟩ : Ln) = ⟨op', d', a', b'⟩) || !vL op d a b))) w') :
    Calls Tryz.prog 91 #[.agg #[.int .i64 op, .int .i64 d, .int .i64 a, .int .i64 b], .pointer (some ⟨cb, 0, none⟩)] w R := by
  have HR := Lib.hid hR
  obtain ⟨e0, e1, e2, e3⟩ := box4 hcb
  have hz := lt_of_block hcb
  clear hR hcb
  by_cases hxy : (⟨op, d, a, b⟩ : Ln) = ⟨op', d', a', b'⟩
  · have HR2 := HR.out
    rw [decide_eq_true hxy, Bool.true_or] at HR2
    have HR3 := Lib.hid HR2
    clear HR2
    cases hxy
    go_enter Tryz.func91, Tryz.ntmps91
    go_wp2_with fail
    exact HR3.out _ ((Grow.refl _).alloc _)
  · have HR2 := HR.out
    rw [decide_eq_false hxy, Bool.false_or] at HR2
    have HR3 := Lib.hid HR2
    obtain ⟨v, hv⟩ : ∃ v, vL op d a b = v := ⟨_, rfl⟩
    have HV := Lib.hid hv
    have HXY := Lib.hid hxy
    clear HR2 hv hxy HR
    by_cases gq0 : op = op'
    rotate_left
    · have tq1 : (op == op') = false := by simpa using gq0
      have tq2 : (op != op') = true := by simpa using gq0
      go_enter Tryz.func91, Tryz.ntmps91
      go_wp2_with fail
      refine validateLine_any op d a b _ _ ?_
      intro w1 hg1
      have HF := HR3.out w1 (((Grow.refl _).alloc _).trans hg1)
      rw [HV.out] at HF ⊢
      clear hg1
      cases v with
      | true =>
        have HF2 := Lib.hid HF
        rw [errB_true]
        clear HF
        go_wp2_with fail
        exact HF2.out
      | false =>
        have HF2 := Lib.hid HF
        rw [errB_false]
        clear HF
        go_wp2_with fail
        exact HF2.out
    subst gq0
    by_cases gq1 : d = d'
    rotate_left
    · have tq1 : (d == d') = false := by simpa using gq1
      have tq2 : (d != d') = true := by simpa using gq1
      go_enter Tryz.func91, Tryz.ntmps91
      go_wp2_with fail
      refine validateLine_any op d a b _ _ ?_
      intro w1 hg1
      have HF := HR3.out w1 (((Grow.refl _).alloc _).trans hg1)
      rw [HV.out] at HF ⊢
      clear hg1
      cases v with
      | true =>
        have HF2 := Lib.hid HF
        rw [errB_true]
        clear HF
        go_wp2_with fail
        exact HF2.out
      | false =>
        have HF2 := Lib.hid HF
        rw [errB_false]
        clear HF
        go_wp2_with fail
        exact HF2.out
    subst gq1
    by_cases gq2 : a = a'
    rotate_left
    · have tq1 : (a == a') = false := by simpa using gq2
      have tq2 : (a != a') = true := by simpa using gq2
      go_enter Tryz.func91, Tryz.ntmps91
      go_wp2_with fail
      refine validateLine_any op d a b _ _ ?_
      intro w1 hg1
      have HF := HR3.out w1 (((Grow.refl _).alloc _).trans hg1)
      rw [HV.out] at HF ⊢
      clear hg1
      cases v with
      | true =>
        have HF2 := Lib.hid HF
        rw [errB_true]
        clear HF
        go_wp2_with fail
        exact HF2.out
      | false =>
        have HF2 := Lib.hid HF
        rw [errB_false]
        clear HF
        go_wp2_with fail
        exact HF2.out
    subst gq2
    by_cases gq3 : b = b'
    rotate_left
    · have tq1 : (b == b') = false := by simpa using gq3
      have tq2 : (b != b') = true := by simpa using gq3
      go_enter Tryz.func91, Tryz.ntmps91
      go_wp2_with fail
      refine validateLine_any op d a b _ _ ?_
      intro w1 hg1
      have HF := HR3.out w1 (((Grow.refl _).alloc _).trans hg1)
      rw [HV.out] at HF ⊢
      clear hg1
      cases v with
      | true =>
        have HF2 := Lib.hid HF
        rw [errB_true]
        clear HF
        go_wp2_with fail
        exact HF2.out
      | false =>
        have HF2 := Lib.hid HF
        rw [errB_false]
        clear HF
        go_wp2_with fail
        exact HF2.out
    subst gq3
    exact absurd rfl HXY.out
end Go.Proofs.YtfbfkkaepgcggaaGreat

namespace Go.Proofs.YtfbfkkaepgcggaaGreat
open Go.RowKit

/-- Which of two lists of numbers comes first. -/
def ltIs : List Int → List Int → Bool
  | [], [] => false
  | [], _ :: _ => true
  | _ :: _, [] => false
  | x :: a, y :: b => if x = y then ltIs a b else decide (x < y)
def cmpIs : List Int → List Int → Int
  | [], [] => 0
  | [], _ :: _ => -1
  | _ :: _, [] => 1
  | x :: a, y :: b => if cmpI x y = 0 then cmpIs a b else cmpI x y
theorem cmpI_zero {x y : Int} : cmpI x y = 0 ↔ x = y := by unfold cmpI; split <;> (try split) <;> omega
theorem cmpI_neg {x y : Int} : cmpI x y < 0 ↔ x < y := by unfold cmpI; split <;> (try split) <;> omega
theorem cmpIs_lt : ∀ a b : List Int, decide (cmpIs a b < 0) = ltIs a b
  | [], [] => rfl
  | [], _ :: _ => rfl
  | _ :: _, [] => rfl
  | x :: a, y :: b => by
    unfold cmpIs ltIs
    by_cases h : x = y
    · rw [if_pos h, if_pos (cmpI_zero.2 h)]; exact cmpIs_lt a b
    · rw [if_neg h, if_neg (fun e => h (cmpI_zero.1 e))]
      exact decide_eq_decide.2 cmpI_neg
theorem drop_cons {α : Type} {a : List α} {k : Nat} {x : α} (h : a[k]? = some x) : a.drop k = x :: a.drop (k + 1) := by
  obtain ⟨h1, rfl⟩ := List.getElem?_eq_some_iff.1 h
  exact List.drop_eq_getElem_cons h1
end Go.Proofs.YtfbfkkaepgcggaaGreat
