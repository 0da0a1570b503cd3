/- The walks of the document's answer to layer 1: what is valid, what lines read and write, and when lists are the same. -/
import Derived.Test.YtmaphlbmmemgcaaPlR
import Derived.Test.YtmaphlbmmemgcaaCodeI
import Derived.Deep.QuietTactic
import Derived.BigQuiet
namespace Go.Proofs.Ytmaphlbmmemgcaa
open Go.RowKit

theorem rwithin_any (n lo hi : Int) (w : World) (R : Ending → World → Prop) (hR : R (.returned (.bool (inB n lo hi))) w) :
    Calls Try.prog 76 #[.int .i64 n, .int .i64 lo, .int .i64 hi] w R := by
  by_cases h : lo ≤ n
  · by_cases h2 : n ≤ hi
    · rw [inB_true.2 ⟨h, h2⟩] at hR
      go_enter Try.func76, Try.ntmps76
      go_wp2
      simpa using hR
    · rw [inB_false.2 (by omega)] at hR
      go_enter Try.func76, Try.ntmps76
      go_wp2
      simpa using hR
  · rw [inB_false.2 (by omega)] at hR
    go_enter Try.func76, Try.ntmps76
    go_wp2
    simpa using hR

theorem risRegister_any (n : Int) (w : World) (R : Ending → World → Prop) (hR : R (.returned (.bool (inB n 0 3))) w) :
    Calls Try.prog 67 #[.int .i64 n] w R := by
  go_enter Try.func67, Try.ntmps67
  go_wp2_with (go_at_call 76; refine (rwithin_any _ _ _ _ _ ?_))
  simpa using hR

set_option maxHeartbeats 1000000 in
theorem risLine_0 (d a b : Int) (w : World) (R : Ending → World → Prop) (hR : ∀ w', Grow w w' → R (.returned (.bool (vL 0 d a b))) w') :
    Calls Try.prog 72 #[.agg #[.int .i64 0, .int .i64 d, .int .i64 a, .int .i64 b]] w R := by
  by_cases c0 : d = 0
  rotate_left
  · rw [show vL 0 d a b = false by simp [vL, c0]] at hR
    have _d : (d == 0) = false := by simpa using c0
    go_enter Try.func72, Try.ntmps72
    go_wp2_with (first | (go_at_call 67; refine risRegister_any _ _ _ ?_) | (go_at_call 76; refine rwithin_any _ _ _ _ _ ?_))
    exact (Grow.refl _).alloc _
  subst c0
  by_cases c1 : a = 0
  rotate_left
  · rw [show vL 0 0 a b = false by simp [vL, c1]] at hR
    have _d : (a == 0) = false := by simpa using c1
    go_enter Try.func72, Try.ntmps72
    go_wp2_with (first | (go_at_call 67; refine risRegister_any _ _ _ ?_) | (go_at_call 76; refine rwithin_any _ _ _ _ _ ?_))
    exact (Grow.refl _).alloc _
  subst c1
  by_cases c2 : b = 0
  rotate_left
  · rw [show vL 0 0 0 b = false by simp [vL, c2]] at hR
    have _d : (b == 0) = false := by simpa using c2
    go_enter Try.func72, Try.ntmps72
    go_wp2_with (first | (go_at_call 67; refine risRegister_any _ _ _ ?_) | (go_at_call 76; refine rwithin_any _ _ _ _ _ ?_))
    exact (Grow.refl _).alloc _
  subst c2
  rw [show vL 0 0 0 0 = true by simp [vL]] at hR
  go_enter Try.func72, Try.ntmps72
  go_wp2_with (first | (go_at_call 67; refine risRegister_any _ _ _ ?_) | (go_at_call 76; refine rwithin_any _ _ _ _ _ ?_))
  exact (Grow.refl _).alloc _

set_option maxHeartbeats 1000000 in
theorem risLine_1 (d a b : Int) (w : World) (R : Ending → World → Prop) (hR : ∀ w', Grow w w' → R (.returned (.bool (vL 1 d a b))) w') :
    Calls Try.prog 72 #[.agg #[.int .i64 1, .int .i64 d, .int .i64 a, .int .i64 b]] w R := by
  by_cases c0 : inB d 0 3 = true
  rotate_left
  · rw [show vL 1 d a b = false by simp [vL, c0]] at hR
    replace c0 : inB d 0 3 = false := by simpa using c0
    go_enter Try.func72, Try.ntmps72
    go_wp2_with (first | (go_at_call 67; refine risRegister_any _ _ _ ?_) | (go_at_call 76; refine rwithin_any _ _ _ _ _ ?_))
    exact (Grow.refl _).alloc _
  by_cases c1 : inB a (-9) 9 = true
  rotate_left
  · rw [show vL 1 d a b = false by simp [vL, c1]] at hR
    replace c1 : inB a (-9) 9 = false := by simpa using c1
    go_enter Try.func72, Try.ntmps72
    go_wp2_with (first | (go_at_call 67; refine risRegister_any _ _ _ ?_) | (go_at_call 76; refine rwithin_any _ _ _ _ _ ?_))
    exact (Grow.refl _).alloc _
  by_cases c2 : b = 0
  rotate_left
  · rw [show vL 1 d a b = false by simp [vL, c2]] at hR
    have _d : (b == 0) = false := by simpa using c2
    go_enter Try.func72, Try.ntmps72
    go_wp2_with (first | (go_at_call 67; refine risRegister_any _ _ _ ?_) | (go_at_call 76; refine rwithin_any _ _ _ _ _ ?_))
    exact (Grow.refl _).alloc _
  subst c2
  rw [show vL 1 d a 0 = true by simp [vL, c0, c1]] at hR
  go_enter Try.func72, Try.ntmps72
  go_wp2_with (first | (go_at_call 67; refine risRegister_any _ _ _ ?_) | (go_at_call 76; refine rwithin_any _ _ _ _ _ ?_))
  exact (Grow.refl _).alloc _

set_option maxHeartbeats 1000000 in
theorem risLine_2 (d a b : Int) (w : World) (R : Ending → World → Prop) (hR : ∀ w', Grow w w' → R (.returned (.bool (vL 2 d a b))) w') :
    Calls Try.prog 72 #[.agg #[.int .i64 2, .int .i64 d, .int .i64 a, .int .i64 b]] w R := by
  by_cases c0 : inB d 0 3 = true
  rotate_left
  · rw [show vL 2 d a b = false by simp [vL, c0]] at hR
    replace c0 : inB d 0 3 = false := by simpa using c0
    go_enter Try.func72, Try.ntmps72
    go_wp2_with (first | (go_at_call 67; refine risRegister_any _ _ _ ?_) | (go_at_call 76; refine rwithin_any _ _ _ _ _ ?_))
    exact (Grow.refl _).alloc _
  by_cases c1 : inB a 0 3 = true
  rotate_left
  · rw [show vL 2 d a b = false by simp [vL, c1]] at hR
    replace c1 : inB a 0 3 = false := by simpa using c1
    go_enter Try.func72, Try.ntmps72
    go_wp2_with (first | (go_at_call 67; refine risRegister_any _ _ _ ?_) | (go_at_call 76; refine rwithin_any _ _ _ _ _ ?_))
    exact (Grow.refl _).alloc _
  by_cases c2 : b = 0
  rotate_left
  · rw [show vL 2 d a b = false by simp [vL, c2]] at hR
    have _d : (b == 0) = false := by simpa using c2
    go_enter Try.func72, Try.ntmps72
    go_wp2_with (first | (go_at_call 67; refine risRegister_any _ _ _ ?_) | (go_at_call 76; refine rwithin_any _ _ _ _ _ ?_))
    exact (Grow.refl _).alloc _
  subst c2
  rw [show vL 2 d a 0 = true by simp [vL, c0, c1]] at hR
  go_enter Try.func72, Try.ntmps72
  go_wp2_with (first | (go_at_call 67; refine risRegister_any _ _ _ ?_) | (go_at_call 76; refine rwithin_any _ _ _ _ _ ?_))
  exact (Grow.refl _).alloc _

set_option maxHeartbeats 1000000 in
theorem risLine_3 (d a b : Int) (w : World) (R : Ending → World → Prop) (hR : ∀ w', Grow w w' → R (.returned (.bool (vL 3 d a b))) w') :
    Calls Try.prog 72 #[.agg #[.int .i64 3, .int .i64 d, .int .i64 a, .int .i64 b]] w R := by
  by_cases c0 : inB d 0 3 = true
  rotate_left
  · rw [show vL 3 d a b = false by simp [vL, c0]] at hR
    replace c0 : inB d 0 3 = false := by simpa using c0
    go_enter Try.func72, Try.ntmps72
    go_wp2_with (first | (go_at_call 67; refine risRegister_any _ _ _ ?_) | (go_at_call 76; refine rwithin_any _ _ _ _ _ ?_))
    exact (Grow.refl _).alloc _
  by_cases c1 : inB a 0 3 = true
  rotate_left
  · rw [show vL 3 d a b = false by simp [vL, c1]] at hR
    replace c1 : inB a 0 3 = false := by simpa using c1
    go_enter Try.func72, Try.ntmps72
    go_wp2_with (first | (go_at_call 67; refine risRegister_any _ _ _ ?_) | (go_at_call 76; refine rwithin_any _ _ _ _ _ ?_))
    exact (Grow.refl _).alloc _
  by_cases c2 : inB b 0 3 = true
  rotate_left
  · rw [show vL 3 d a b = false by simp [vL, c2]] at hR
    replace c2 : inB b 0 3 = false := by simpa using c2
    go_enter Try.func72, Try.ntmps72
    go_wp2_with (first | (go_at_call 67; refine risRegister_any _ _ _ ?_) | (go_at_call 76; refine rwithin_any _ _ _ _ _ ?_))
    exact (Grow.refl _).alloc _
  rw [show vL 3 d a b = true by simp [vL, c0, c1, c2]] at hR
  go_enter Try.func72, Try.ntmps72
  go_wp2_with (first | (go_at_call 67; refine risRegister_any _ _ _ ?_) | (go_at_call 76; refine rwithin_any _ _ _ _ _ ?_))
  exact (Grow.refl _).alloc _

set_option maxHeartbeats 1000000 in
theorem risLine_4 (d a b : Int) (w : World) (R : Ending → World → Prop) (hR : ∀ w', Grow w w' → R (.returned (.bool (vL 4 d a b))) w') :
    Calls Try.prog 72 #[.agg #[.int .i64 4, .int .i64 d, .int .i64 a, .int .i64 b]] w R := by
  by_cases c0 : inB d 0 3 = true
  rotate_left
  · rw [show vL 4 d a b = false by simp [vL, c0]] at hR
    replace c0 : inB d 0 3 = false := by simpa using c0
    go_enter Try.func72, Try.ntmps72
    go_wp2_with (first | (go_at_call 67; refine risRegister_any _ _ _ ?_) | (go_at_call 76; refine rwithin_any _ _ _ _ _ ?_))
    exact (Grow.refl _).alloc _
  by_cases c1 : inB a 0 3 = true
  rotate_left
  · rw [show vL 4 d a b = false by simp [vL, c1]] at hR
    replace c1 : inB a 0 3 = false := by simpa using c1
    go_enter Try.func72, Try.ntmps72
    go_wp2_with (first | (go_at_call 67; refine risRegister_any _ _ _ ?_) | (go_at_call 76; refine rwithin_any _ _ _ _ _ ?_))
    exact (Grow.refl _).alloc _
  by_cases c2 : inB b 0 3 = true
  rotate_left
  · rw [show vL 4 d a b = false by simp [vL, c2]] at hR
    replace c2 : inB b 0 3 = false := by simpa using c2
    go_enter Try.func72, Try.ntmps72
    go_wp2_with (first | (go_at_call 67; refine risRegister_any _ _ _ ?_) | (go_at_call 76; refine rwithin_any _ _ _ _ _ ?_))
    exact (Grow.refl _).alloc _
  rw [show vL 4 d a b = true by simp [vL, c0, c1, c2]] at hR
  go_enter Try.func72, Try.ntmps72
  go_wp2_with (first | (go_at_call 67; refine risRegister_any _ _ _ ?_) | (go_at_call 76; refine rwithin_any _ _ _ _ _ ?_))
  exact (Grow.refl _).alloc _

set_option maxHeartbeats 1000000 in
theorem risLine_5 (d a b : Int) (w : World) (R : Ending → World → Prop) (hR : ∀ w', Grow w w' → R (.returned (.bool (vL 5 d a b))) w') :
    Calls Try.prog 72 #[.agg #[.int .i64 5, .int .i64 d, .int .i64 a, .int .i64 b]] w R := by
  by_cases c0 : inB d 0 3 = true
  rotate_left
  · rw [show vL 5 d a b = false by simp [vL, c0]] at hR
    replace c0 : inB d 0 3 = false := by simpa using c0
    go_enter Try.func72, Try.ntmps72
    go_wp2_with (first | (go_at_call 67; refine risRegister_any _ _ _ ?_) | (go_at_call 76; refine rwithin_any _ _ _ _ _ ?_))
    exact (Grow.refl _).alloc _
  by_cases c1 : inB a 0 3 = true
  rotate_left
  · rw [show vL 5 d a b = false by simp [vL, c1]] at hR
    replace c1 : inB a 0 3 = false := by simpa using c1
    go_enter Try.func72, Try.ntmps72
    go_wp2_with (first | (go_at_call 67; refine risRegister_any _ _ _ ?_) | (go_at_call 76; refine rwithin_any _ _ _ _ _ ?_))
    exact (Grow.refl _).alloc _
  by_cases c2 : inB b 0 3 = true
  rotate_left
  · rw [show vL 5 d a b = false by simp [vL, c2]] at hR
    replace c2 : inB b 0 3 = false := by simpa using c2
    go_enter Try.func72, Try.ntmps72
    go_wp2_with (first | (go_at_call 67; refine risRegister_any _ _ _ ?_) | (go_at_call 76; refine rwithin_any _ _ _ _ _ ?_))
    exact (Grow.refl _).alloc _
  rw [show vL 5 d a b = true by simp [vL, c0, c1, c2]] at hR
  go_enter Try.func72, Try.ntmps72
  go_wp2_with (first | (go_at_call 67; refine risRegister_any _ _ _ ?_) | (go_at_call 76; refine rwithin_any _ _ _ _ _ ?_))
  exact (Grow.refl _).alloc _

set_option maxHeartbeats 1000000 in
theorem risLine_6 (d a b : Int) (w : World) (R : Ending → World → Prop) (hR : ∀ w', Grow w w' → R (.returned (.bool (vL 6 d a b))) w') :
    Calls Try.prog 72 #[.agg #[.int .i64 6, .int .i64 d, .int .i64 a, .int .i64 b]] w R := by
  by_cases c0 : inB d 0 3 = true
  rotate_left
  · rw [show vL 6 d a b = false by simp [vL, c0]] at hR
    replace c0 : inB d 0 3 = false := by simpa using c0
    go_enter Try.func72, Try.ntmps72
    go_wp2_with (first | (go_at_call 67; refine risRegister_any _ _ _ ?_) | (go_at_call 76; refine rwithin_any _ _ _ _ _ ?_))
    exact (Grow.refl _).alloc _
  by_cases c1 : inB a 0 3 = true
  rotate_left
  · rw [show vL 6 d a b = false by simp [vL, c1]] at hR
    replace c1 : inB a 0 3 = false := by simpa using c1
    go_enter Try.func72, Try.ntmps72
    go_wp2_with (first | (go_at_call 67; refine risRegister_any _ _ _ ?_) | (go_at_call 76; refine rwithin_any _ _ _ _ _ ?_))
    exact (Grow.refl _).alloc _
  by_cases c2 : inB b 0 3 = true
  rotate_left
  · rw [show vL 6 d a b = false by simp [vL, c2]] at hR
    replace c2 : inB b 0 3 = false := by simpa using c2
    go_enter Try.func72, Try.ntmps72
    go_wp2_with (first | (go_at_call 67; refine risRegister_any _ _ _ ?_) | (go_at_call 76; refine rwithin_any _ _ _ _ _ ?_))
    exact (Grow.refl _).alloc _
  rw [show vL 6 d a b = true by simp [vL, c0, c1, c2]] at hR
  go_enter Try.func72, Try.ntmps72
  go_wp2_with (first | (go_at_call 67; refine risRegister_any _ _ _ ?_) | (go_at_call 76; refine rwithin_any _ _ _ _ _ ?_))
  exact (Grow.refl _).alloc _

set_option maxHeartbeats 1000000 in
theorem risLine_7 (d a b : Int) (w : World) (R : Ending → World → Prop) (hR : ∀ w', Grow w w' → R (.returned (.bool (vL 7 d a b))) w') :
    Calls Try.prog 72 #[.agg #[.int .i64 7, .int .i64 d, .int .i64 a, .int .i64 b]] w R := by
  by_cases c0 : inB d 1 8 = true
  rotate_left
  · rw [show vL 7 d a b = false by simp [vL, c0]] at hR
    replace c0 : inB d 1 8 = false := by simpa using c0
    go_enter Try.func72, Try.ntmps72
    go_wp2_with (first | (go_at_call 67; refine risRegister_any _ _ _ ?_) | (go_at_call 76; refine rwithin_any _ _ _ _ _ ?_))
    exact (Grow.refl _).alloc _
  by_cases c1 : inB a 0 3 = true
  rotate_left
  · rw [show vL 7 d a b = false by simp [vL, c1]] at hR
    replace c1 : inB a 0 3 = false := by simpa using c1
    go_enter Try.func72, Try.ntmps72
    go_wp2_with (first | (go_at_call 67; refine risRegister_any _ _ _ ?_) | (go_at_call 76; refine rwithin_any _ _ _ _ _ ?_))
    exact (Grow.refl _).alloc _
  by_cases c2 : inB b 0 3 = true
  rotate_left
  · rw [show vL 7 d a b = false by simp [vL, c2]] at hR
    replace c2 : inB b 0 3 = false := by simpa using c2
    go_enter Try.func72, Try.ntmps72
    go_wp2_with (first | (go_at_call 67; refine risRegister_any _ _ _ ?_) | (go_at_call 76; refine rwithin_any _ _ _ _ _ ?_))
    exact (Grow.refl _).alloc _
  rw [show vL 7 d a b = true by simp [vL, c0, c1, c2]] at hR
  go_enter Try.func72, Try.ntmps72
  go_wp2_with (first | (go_at_call 67; refine risRegister_any _ _ _ ?_) | (go_at_call 76; refine rwithin_any _ _ _ _ _ ?_))
  exact (Grow.refl _).alloc _

set_option maxHeartbeats 1000000 in
theorem risLine_any (op d a b : Int) (w : World) (R : Ending → World → Prop) (hR : ∀ w', Grow w w' → R (.returned (.bool (vL op d a b))) w') :
    Calls Try.prog 72 #[.agg #[.int .i64 op, .int .i64 d, .int .i64 a, .int .i64 b]] w R := by
  by_cases h0 : op = 0
  · subst h0; exact risLine_0 d a b w R hR
  by_cases h1 : op = 1
  · subst h1; exact risLine_1 d a b w R hR
  by_cases h2 : op = 2
  · subst h2; exact risLine_2 d a b w R hR
  by_cases h3 : op = 3
  · subst h3; exact risLine_3 d a b w R hR
  by_cases h4 : op = 4
  · subst h4; exact risLine_4 d a b w R hR
  by_cases h5 : op = 5
  · subst h5; exact risLine_5 d a b w R hR
  by_cases h6 : op = 6
  · subst h6; exact risLine_6 d a b w R hR
  by_cases h7 : op = 7
  · subst h7; exact risLine_7 d a b w R hR
  rw [show vL op d a b = false by simp [vL, h0, h1, h2, h3, h4, h5, h6, h7]] at hR
  go_enter Try.func72, Try.ntmps72
  go_wp2_with fail
  exact (Grow.refl _).alloc _

set_option maxHeartbeats 1000000 in
theorem rValidateLine_any (op d a b : Int) (w : World) (R : Ending → World → Prop) (hR : ∀ w', Grow w w' → R (.returned (.int .i64 (errB (vL op d a b)))) w') :
    Calls Try.prog 34 #[.agg #[.int .i64 op, .int .i64 d, .int .i64 a, .int .i64 b]] w R := by
  have HR := Lib.hid hR
  clear hR
  cases hv : vL op d a b with
  | true =>
    have HRR := Lib.hid (hv ▸ HR.out)
    go_enter Try.func34, Try.ntmps34
    go_wp2_with fail
    refine risLine_any op d a b _ _ ?_
    intro w1 hg1
    rw [hv]
    go_wp2_with fail
    exact HRR.out _ (((Grow.refl w).alloc _).trans hg1)
  | false =>
    have HRR := Lib.hid (hv ▸ HR.out)
    go_enter Try.func34, Try.ntmps34
    go_wp2_with fail
    refine risLine_any op d a b _ _ ?_
    intro w1 hg1
    rw [hv]
    go_wp2_with fail
    exact HRR.out _ (((Grow.refl w).alloc _).trans hg1)

theorem rwrites_any (op d a b : Int) (w : World) (R : Ending → World → Prop) (hR : ∀ w', Grow w w' → R (.returned (.bool (!(op == 0) && !(op == 7)))) w') :
    Calls Try.prog 69 #[.agg #[.int .i64 op, .int .i64 d, .int .i64 a, .int .i64 b]] w R := by
  by_cases h : op = 0
  · subst h
    go_enter Try.func69, Try.ntmps69
    go_wp2_with fail
    exact (Grow.refl _).alloc _
  · by_cases h7 : op = 7
    · subst h7
      go_enter Try.func69, Try.ntmps69
      go_wp2_with fail
      exact (Grow.refl _).alloc _
    · have t1 : (op == 0) = false := by simpa using h
      have t2 : (op != 0) = true := by simpa using h
      have t3 : (op == 7) = false := by simpa using h7
      have t4 : (op != 7) = true := by simpa using h7
      have HR := Lib.hid hR
      clear hR
      go_enter Try.func69, Try.ntmps69
      go_wp2_with fail
      have := HR.out _ ((Grow.refl w).alloc (.cells #[.int .i64 op, .int .i64 d, .int .i64 a, .int .i64 b] 37))
      rw [t1, t3] at this
      exact this

theorem sameInts_loop {xs ys : List Int} (k : Nat) (hl : xs.length = ys.length) (h : xs.take k = ys.take k) (hk : xs.length ≤ k) : decide (xs = ys) = true := by
  rw [List.take_of_length_le hk, List.take_of_length_le (by omega)] at h
  simp [h]
theorem take_succ_eq {α : Type} {xs ys : List α} {k : Nat} {x : α} (h : xs.take k = ys.take k) (hx : xs[k]? = some x) (hy : ys[k]? = some x) : xs.take (k + 1) = ys.take (k + 1) := by
  rw [List.take_add_one, List.take_add_one, h, hx, hy]

set_option maxHeartbeats 2000000 in
theorem sameInts_any (xs ys : List Int) (v u : Value) (w : World) (hx : IntsAt w v xs) (hy : IntsAt w u ys) (R : Ending → World → Prop) (hR : ∀ w', Grow w w' → R (.returned (.bool (decide (xs = ys)))) w') :
    Calls Try.prog 20 #[v, u] w R := by
  have HR := Lib.hid hR
  clear hR
  obtain ⟨a, c, rfl, h1, h2, h3⟩ := hx
  obtain ⟨a', c', rfl, h1', h2', h3'⟩ := hy
  by_cases hl : xs.length = ys.length
  · rw [← hl] at h1' ⊢
    go_enter Try.func20, Try.ntmps20
    go_wp2_with fail
    go_loopw [5] (fun i wr => ∃ k : Nat, k ≤ xs.length ∧ i = .int .i64 k ∧ xs.take k = ys.take k ∧ Grow w wr) (fun i _ => xs.length - (intOf i).toNat)
    case atStart => exact ⟨0, Nat.zero_le _, rfl, rfl, Grow.refl _⟩
    case round =>
      obtain ⟨k, hk, rfl, hs, hg⟩ := hrel
      by_cases hlt : k < xs.length
      · replace h3 := h3.resolve_left (by intro h; simp [h.1] at hlt)
        replace h3' := h3'.resolve_left (by intro h; have h0 := h.1; rw [h0] at hl; rw [hl] at hlt; simp at hlt)
        obtain ⟨b, o, rfl, hb, hc⟩ := h3
        obtain ⟨b', o', rfl, hb', hc'⟩ := h3'
        obtain ⟨x, hx⟩ : ∃ l, xs[k]? = some l := ⟨_, List.getElem?_eq_getElem hlt⟩
        obtain ⟨y, hy⟩ : ∃ l, ys[k]? = some l := ⟨_, List.getElem?_eq_getElem (by omega)⟩
        have e0 := hg.cell (ints_cell hc k x hx)
        have e1 := hg.cell (ints_cell hc' k y hy)
        have HX := Lib.hid hx
        have HY := Lib.hid hy
        have HG := Lib.hid hg
        have HS := Lib.hid hs
        have HL := Lib.hid hl
        clear hc hc' hx hy hg hs hl
        by_cases hxy : x = y
        · subst hxy
          go_wp2_with (go_quiet (fail))
          go_roundw
          case rel => exact ⟨k + 1, by omega, by go_num, take_succ_eq HS.out HX.out HY.out, HG.out.drewN _⟩
          case measure => simp [intOf]; omega
        · have t1 : (x == y) = false := by simpa using hxy
          have t2 : (x != y) = true := by simpa using hxy
          have hne : decide (xs = ys) = false := by
            simp only [decide_eq_false_iff_not]; intro e; rw [e, HY.out] at HX; exact hxy (Option.some.inj HX.out).symm
          rw [hne] at HR
          go_wp2_with (go_quiet (fail))
          exact HR.out _ (HG.out.drewN _)
      · have ht := sameInts_loop k hl hs (by omega)
        rw [ht] at HR
        go_wp2_with fail
        exact HR.out _ hg
  · have hne : decide (xs = ys) = false := by
      simp only [decide_eq_false_iff_not]; intro e; exact hl (by rw [e])
    rw [hne] at HR
    have hl2 : (xs.length : Int) ≠ ys.length := by omega
    have t1 : ((xs.length : Int) == ys.length) = false := beq_eq_false_iff_ne.2 hl2
    have t2 : ((xs.length : Int) != ys.length) = true := bne_iff_ne.2 hl2
    go_enter Try.func20, Try.ntmps20
    go_wp2_with fail
    exact HR.out _ (Grow.refl _)
end Go.Proofs.Ytmaphlbmmemgcaa
