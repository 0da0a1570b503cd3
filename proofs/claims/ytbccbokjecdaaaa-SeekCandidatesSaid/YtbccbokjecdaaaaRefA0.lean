/- The walks of the document's answer to layer 1: what is valid (for the seats that reach no more of it). -/
import Derived.Test.YtbccbokjecdaaaaCodeB
namespace Go.Proofs.Ytbccbokjecdaaaa
open Go.RowKit

theorem rwithin_any (n lo hi : Int) (w : World) (R : Ending → World → Prop) (hR : R (.returned (.bool (inB n lo hi))) w) :
    Calls Try.prog 45 #[.int .i64 n, .int .i64 lo, .int .i64 hi] w R := by
  by_cases h : lo ≤ n
  · by_cases h2 : n ≤ hi
    · rw [inB_true.2 ⟨h, h2⟩] at hR
      go_enter Try.func45, Try.ntmps45
      go_wp2
      simpa using hR
    · rw [inB_false.2 (by omega)] at hR
      go_enter Try.func45, Try.ntmps45
      go_wp2
      simpa using hR
  · rw [inB_false.2 (by omega)] at hR
    go_enter Try.func45, Try.ntmps45
    go_wp2
    simpa using hR

theorem risRegister_any (n : Int) (w : World) (R : Ending → World → Prop) (hR : R (.returned (.bool (inB n 0 3))) w) :
    Calls Try.prog 44 #[.int .i64 n] w R := by
  go_enter Try.func44, Try.ntmps44
  go_wp2_with (go_at_call 45; refine (rwithin_any _ _ _ _ _ ?_))
  simpa using hR

set_option maxHeartbeats 1000000 in
theorem risLine_0 (d a b : Int) (w : World) (R : Ending → World → Prop) (hR : ∀ w', Grow w w' → R (.returned (.bool (vL 0 d a b))) w') :
    Calls Try.prog 37 #[.agg #[.int .i64 0, .int .i64 d, .int .i64 a, .int .i64 b]] w R := by
  by_cases c0 : d = 0
  rotate_left
  · rw [show vL 0 d a b = false by simp [vL, c0]] at hR
    have _d : (d == 0) = false := by simpa using c0
    go_enter Try.func37, Try.ntmps37
    go_wp2_with (first | (go_at_call 44; refine risRegister_any _ _ _ ?_) | (go_at_call 45; refine rwithin_any _ _ _ _ _ ?_))
    exact (Grow.refl _).alloc _
  subst c0
  by_cases c1 : a = 0
  rotate_left
  · rw [show vL 0 0 a b = false by simp [vL, c1]] at hR
    have _d : (a == 0) = false := by simpa using c1
    go_enter Try.func37, Try.ntmps37
    go_wp2_with (first | (go_at_call 44; refine risRegister_any _ _ _ ?_) | (go_at_call 45; refine rwithin_any _ _ _ _ _ ?_))
    exact (Grow.refl _).alloc _
  subst c1
  by_cases c2 : b = 0
  rotate_left
  · rw [show vL 0 0 0 b = false by simp [vL, c2]] at hR
    have _d : (b == 0) = false := by simpa using c2
    go_enter Try.func37, Try.ntmps37
    go_wp2_with (first | (go_at_call 44; refine risRegister_any _ _ _ ?_) | (go_at_call 45; refine rwithin_any _ _ _ _ _ ?_))
    exact (Grow.refl _).alloc _
  subst c2
  rw [show vL 0 0 0 0 = true by simp [vL]] at hR
  go_enter Try.func37, Try.ntmps37
  go_wp2_with (first | (go_at_call 44; refine risRegister_any _ _ _ ?_) | (go_at_call 45; refine rwithin_any _ _ _ _ _ ?_))
  exact (Grow.refl _).alloc _

set_option maxHeartbeats 1000000 in
theorem risLine_1 (d a b : Int) (w : World) (R : Ending → World → Prop) (hR : ∀ w', Grow w w' → R (.returned (.bool (vL 1 d a b))) w') :
    Calls Try.prog 37 #[.agg #[.int .i64 1, .int .i64 d, .int .i64 a, .int .i64 b]] w R := by
  by_cases c0 : inB d 0 3 = true
  rotate_left
  · rw [show vL 1 d a b = false by simp [vL, c0]] at hR
    replace c0 : inB d 0 3 = false := by simpa using c0
    go_enter Try.func37, Try.ntmps37
    go_wp2_with (first | (go_at_call 44; refine risRegister_any _ _ _ ?_) | (go_at_call 45; refine rwithin_any _ _ _ _ _ ?_))
    exact (Grow.refl _).alloc _
  by_cases c1 : inB a (-9) 9 = true
  rotate_left
  · rw [show vL 1 d a b = false by simp [vL, c1]] at hR
    replace c1 : inB a (-9) 9 = false := by simpa using c1
    go_enter Try.func37, Try.ntmps37
    go_wp2_with (first | (go_at_call 44; refine risRegister_any _ _ _ ?_) | (go_at_call 45; refine rwithin_any _ _ _ _ _ ?_))
    exact (Grow.refl _).alloc _
  by_cases c2 : b = 0
  rotate_left
  · rw [show vL 1 d a b = false by simp [vL, c2]] at hR
    have _d : (b == 0) = false := by simpa using c2
    go_enter Try.func37, Try.ntmps37
    go_wp2_with (first | (go_at_call 44; refine risRegister_any _ _ _ ?_) | (go_at_call 45; refine rwithin_any _ _ _ _ _ ?_))
    exact (Grow.refl _).alloc _
  subst c2
  rw [show vL 1 d a 0 = true by simp [vL, c0, c1]] at hR
  go_enter Try.func37, Try.ntmps37
  go_wp2_with (first | (go_at_call 44; refine risRegister_any _ _ _ ?_) | (go_at_call 45; refine rwithin_any _ _ _ _ _ ?_))
  exact (Grow.refl _).alloc _

set_option maxHeartbeats 1000000 in
theorem risLine_2 (d a b : Int) (w : World) (R : Ending → World → Prop) (hR : ∀ w', Grow w w' → R (.returned (.bool (vL 2 d a b))) w') :
    Calls Try.prog 37 #[.agg #[.int .i64 2, .int .i64 d, .int .i64 a, .int .i64 b]] w R := by
  by_cases c0 : inB d 0 3 = true
  rotate_left
  · rw [show vL 2 d a b = false by simp [vL, c0]] at hR
    replace c0 : inB d 0 3 = false := by simpa using c0
    go_enter Try.func37, Try.ntmps37
    go_wp2_with (first | (go_at_call 44; refine risRegister_any _ _ _ ?_) | (go_at_call 45; refine rwithin_any _ _ _ _ _ ?_))
    exact (Grow.refl _).alloc _
  by_cases c1 : inB a 0 3 = true
  rotate_left
  · rw [show vL 2 d a b = false by simp [vL, c1]] at hR
    replace c1 : inB a 0 3 = false := by simpa using c1
    go_enter Try.func37, Try.ntmps37
    go_wp2_with (first | (go_at_call 44; refine risRegister_any _ _ _ ?_) | (go_at_call 45; refine rwithin_any _ _ _ _ _ ?_))
    exact (Grow.refl _).alloc _
  by_cases c2 : b = 0
  rotate_left
  · rw [show vL 2 d a b = false by simp [vL, c2]] at hR
    have _d : (b == 0) = false := by simpa using c2
    go_enter Try.func37, Try.ntmps37
    go_wp2_with (first | (go_at_call 44; refine risRegister_any _ _ _ ?_) | (go_at_call 45; refine rwithin_any _ _ _ _ _ ?_))
    exact (Grow.refl _).alloc _
  subst c2
  rw [show vL 2 d a 0 = true by simp [vL, c0, c1]] at hR
  go_enter Try.func37, Try.ntmps37
  go_wp2_with (first | (go_at_call 44; refine risRegister_any _ _ _ ?_) | (go_at_call 45; refine rwithin_any _ _ _ _ _ ?_))
  exact (Grow.refl _).alloc _

set_option maxHeartbeats 1000000 in
theorem risLine_3 (d a b : Int) (w : World) (R : Ending → World → Prop) (hR : ∀ w', Grow w w' → R (.returned (.bool (vL 3 d a b))) w') :
    Calls Try.prog 37 #[.agg #[.int .i64 3, .int .i64 d, .int .i64 a, .int .i64 b]] w R := by
  by_cases c0 : inB d 0 3 = true
  rotate_left
  · rw [show vL 3 d a b = false by simp [vL, c0]] at hR
    replace c0 : inB d 0 3 = false := by simpa using c0
    go_enter Try.func37, Try.ntmps37
    go_wp2_with (first | (go_at_call 44; refine risRegister_any _ _ _ ?_) | (go_at_call 45; refine rwithin_any _ _ _ _ _ ?_))
    exact (Grow.refl _).alloc _
  by_cases c1 : inB a 0 3 = true
  rotate_left
  · rw [show vL 3 d a b = false by simp [vL, c1]] at hR
    replace c1 : inB a 0 3 = false := by simpa using c1
    go_enter Try.func37, Try.ntmps37
    go_wp2_with (first | (go_at_call 44; refine risRegister_any _ _ _ ?_) | (go_at_call 45; refine rwithin_any _ _ _ _ _ ?_))
    exact (Grow.refl _).alloc _
  by_cases c2 : inB b 0 3 = true
  rotate_left
  · rw [show vL 3 d a b = false by simp [vL, c2]] at hR
    replace c2 : inB b 0 3 = false := by simpa using c2
    go_enter Try.func37, Try.ntmps37
    go_wp2_with (first | (go_at_call 44; refine risRegister_any _ _ _ ?_) | (go_at_call 45; refine rwithin_any _ _ _ _ _ ?_))
    exact (Grow.refl _).alloc _
  rw [show vL 3 d a b = true by simp [vL, c0, c1, c2]] at hR
  go_enter Try.func37, Try.ntmps37
  go_wp2_with (first | (go_at_call 44; refine risRegister_any _ _ _ ?_) | (go_at_call 45; refine rwithin_any _ _ _ _ _ ?_))
  exact (Grow.refl _).alloc _

set_option maxHeartbeats 1000000 in
theorem risLine_4 (d a b : Int) (w : World) (R : Ending → World → Prop) (hR : ∀ w', Grow w w' → R (.returned (.bool (vL 4 d a b))) w') :
    Calls Try.prog 37 #[.agg #[.int .i64 4, .int .i64 d, .int .i64 a, .int .i64 b]] w R := by
  by_cases c0 : inB d 0 3 = true
  rotate_left
  · rw [show vL 4 d a b = false by simp [vL, c0]] at hR
    replace c0 : inB d 0 3 = false := by simpa using c0
    go_enter Try.func37, Try.ntmps37
    go_wp2_with (first | (go_at_call 44; refine risRegister_any _ _ _ ?_) | (go_at_call 45; refine rwithin_any _ _ _ _ _ ?_))
    exact (Grow.refl _).alloc _
  by_cases c1 : inB a 0 3 = true
  rotate_left
  · rw [show vL 4 d a b = false by simp [vL, c1]] at hR
    replace c1 : inB a 0 3 = false := by simpa using c1
    go_enter Try.func37, Try.ntmps37
    go_wp2_with (first | (go_at_call 44; refine risRegister_any _ _ _ ?_) | (go_at_call 45; refine rwithin_any _ _ _ _ _ ?_))
    exact (Grow.refl _).alloc _
  by_cases c2 : inB b 0 3 = true
  rotate_left
  · rw [show vL 4 d a b = false by simp [vL, c2]] at hR
    replace c2 : inB b 0 3 = false := by simpa using c2
    go_enter Try.func37, Try.ntmps37
    go_wp2_with (first | (go_at_call 44; refine risRegister_any _ _ _ ?_) | (go_at_call 45; refine rwithin_any _ _ _ _ _ ?_))
    exact (Grow.refl _).alloc _
  rw [show vL 4 d a b = true by simp [vL, c0, c1, c2]] at hR
  go_enter Try.func37, Try.ntmps37
  go_wp2_with (first | (go_at_call 44; refine risRegister_any _ _ _ ?_) | (go_at_call 45; refine rwithin_any _ _ _ _ _ ?_))
  exact (Grow.refl _).alloc _

set_option maxHeartbeats 1000000 in
theorem risLine_5 (d a b : Int) (w : World) (R : Ending → World → Prop) (hR : ∀ w', Grow w w' → R (.returned (.bool (vL 5 d a b))) w') :
    Calls Try.prog 37 #[.agg #[.int .i64 5, .int .i64 d, .int .i64 a, .int .i64 b]] w R := by
  by_cases c0 : inB d 0 3 = true
  rotate_left
  · rw [show vL 5 d a b = false by simp [vL, c0]] at hR
    replace c0 : inB d 0 3 = false := by simpa using c0
    go_enter Try.func37, Try.ntmps37
    go_wp2_with (first | (go_at_call 44; refine risRegister_any _ _ _ ?_) | (go_at_call 45; refine rwithin_any _ _ _ _ _ ?_))
    exact (Grow.refl _).alloc _
  by_cases c1 : inB a 0 3 = true
  rotate_left
  · rw [show vL 5 d a b = false by simp [vL, c1]] at hR
    replace c1 : inB a 0 3 = false := by simpa using c1
    go_enter Try.func37, Try.ntmps37
    go_wp2_with (first | (go_at_call 44; refine risRegister_any _ _ _ ?_) | (go_at_call 45; refine rwithin_any _ _ _ _ _ ?_))
    exact (Grow.refl _).alloc _
  by_cases c2 : inB b 0 3 = true
  rotate_left
  · rw [show vL 5 d a b = false by simp [vL, c2]] at hR
    replace c2 : inB b 0 3 = false := by simpa using c2
    go_enter Try.func37, Try.ntmps37
    go_wp2_with (first | (go_at_call 44; refine risRegister_any _ _ _ ?_) | (go_at_call 45; refine rwithin_any _ _ _ _ _ ?_))
    exact (Grow.refl _).alloc _
  rw [show vL 5 d a b = true by simp [vL, c0, c1, c2]] at hR
  go_enter Try.func37, Try.ntmps37
  go_wp2_with (first | (go_at_call 44; refine risRegister_any _ _ _ ?_) | (go_at_call 45; refine rwithin_any _ _ _ _ _ ?_))
  exact (Grow.refl _).alloc _

set_option maxHeartbeats 1000000 in
theorem risLine_6 (d a b : Int) (w : World) (R : Ending → World → Prop) (hR : ∀ w', Grow w w' → R (.returned (.bool (vL 6 d a b))) w') :
    Calls Try.prog 37 #[.agg #[.int .i64 6, .int .i64 d, .int .i64 a, .int .i64 b]] w R := by
  by_cases c0 : inB d 0 3 = true
  rotate_left
  · rw [show vL 6 d a b = false by simp [vL, c0]] at hR
    replace c0 : inB d 0 3 = false := by simpa using c0
    go_enter Try.func37, Try.ntmps37
    go_wp2_with (first | (go_at_call 44; refine risRegister_any _ _ _ ?_) | (go_at_call 45; refine rwithin_any _ _ _ _ _ ?_))
    exact (Grow.refl _).alloc _
  by_cases c1 : inB a 0 3 = true
  rotate_left
  · rw [show vL 6 d a b = false by simp [vL, c1]] at hR
    replace c1 : inB a 0 3 = false := by simpa using c1
    go_enter Try.func37, Try.ntmps37
    go_wp2_with (first | (go_at_call 44; refine risRegister_any _ _ _ ?_) | (go_at_call 45; refine rwithin_any _ _ _ _ _ ?_))
    exact (Grow.refl _).alloc _
  by_cases c2 : inB b 0 3 = true
  rotate_left
  · rw [show vL 6 d a b = false by simp [vL, c2]] at hR
    replace c2 : inB b 0 3 = false := by simpa using c2
    go_enter Try.func37, Try.ntmps37
    go_wp2_with (first | (go_at_call 44; refine risRegister_any _ _ _ ?_) | (go_at_call 45; refine rwithin_any _ _ _ _ _ ?_))
    exact (Grow.refl _).alloc _
  rw [show vL 6 d a b = true by simp [vL, c0, c1, c2]] at hR
  go_enter Try.func37, Try.ntmps37
  go_wp2_with (first | (go_at_call 44; refine risRegister_any _ _ _ ?_) | (go_at_call 45; refine rwithin_any _ _ _ _ _ ?_))
  exact (Grow.refl _).alloc _

set_option maxHeartbeats 1000000 in
theorem risLine_7 (d a b : Int) (w : World) (R : Ending → World → Prop) (hR : ∀ w', Grow w w' → R (.returned (.bool (vL 7 d a b))) w') :
    Calls Try.prog 37 #[.agg #[.int .i64 7, .int .i64 d, .int .i64 a, .int .i64 b]] w R := by
  by_cases c0 : inB d 1 8 = true
  rotate_left
  · rw [show vL 7 d a b = false by simp [vL, c0]] at hR
    replace c0 : inB d 1 8 = false := by simpa using c0
    go_enter Try.func37, Try.ntmps37
    go_wp2_with (first | (go_at_call 44; refine risRegister_any _ _ _ ?_) | (go_at_call 45; refine rwithin_any _ _ _ _ _ ?_))
    exact (Grow.refl _).alloc _
  by_cases c1 : inB a 0 3 = true
  rotate_left
  · rw [show vL 7 d a b = false by simp [vL, c1]] at hR
    replace c1 : inB a 0 3 = false := by simpa using c1
    go_enter Try.func37, Try.ntmps37
    go_wp2_with (first | (go_at_call 44; refine risRegister_any _ _ _ ?_) | (go_at_call 45; refine rwithin_any _ _ _ _ _ ?_))
    exact (Grow.refl _).alloc _
  by_cases c2 : inB b 0 3 = true
  rotate_left
  · rw [show vL 7 d a b = false by simp [vL, c2]] at hR
    replace c2 : inB b 0 3 = false := by simpa using c2
    go_enter Try.func37, Try.ntmps37
    go_wp2_with (first | (go_at_call 44; refine risRegister_any _ _ _ ?_) | (go_at_call 45; refine rwithin_any _ _ _ _ _ ?_))
    exact (Grow.refl _).alloc _
  rw [show vL 7 d a b = true by simp [vL, c0, c1, c2]] at hR
  go_enter Try.func37, Try.ntmps37
  go_wp2_with (first | (go_at_call 44; refine risRegister_any _ _ _ ?_) | (go_at_call 45; refine rwithin_any _ _ _ _ _ ?_))
  exact (Grow.refl _).alloc _

set_option maxHeartbeats 1000000 in
theorem risLine_any (op d a b : Int) (w : World) (R : Ending → World → Prop) (hR : ∀ w', Grow w w' → R (.returned (.bool (vL op d a b))) w') :
    Calls Try.prog 37 #[.agg #[.int .i64 op, .int .i64 d, .int .i64 a, .int .i64 b]] w R := by
  by_cases h0 : op = 0
  · subst h0; exact risLine_0 d a b w R hR
  by_cases h1 : op = 1
  · subst h1; exact risLine_1 d a b w R hR
  by_cases h2 : op = 2
  · subst h2; exact risLine_2 d a b w R hR
  by_cases h3 : op = 3
  · subst h3; exact risLine_3 d a b w R hR
  by_cases h4 : op = 4
  · subst h4; exact risLine_4 d a b w R hR
  by_cases h5 : op = 5
  · subst h5; exact risLine_5 d a b w R hR
  by_cases h6 : op = 6
  · subst h6; exact risLine_6 d a b w R hR
  by_cases h7 : op = 7
  · subst h7; exact risLine_7 d a b w R hR
  rw [show vL op d a b = false by simp [vL, h0, h1, h2, h3, h4, h5, h6, h7]] at hR
  go_enter Try.func37, Try.ntmps37
  go_wp2_with fail
  exact (Grow.refl _).alloc _

end Go.Proofs.Ytbccbokjecdaaaa
