/- The walks of package code: what is valid. -/
import Derived.Test.YtbccbokjecdaaaaPlA
import Derived.Test.YtbccbokjecdaaaaRows
namespace Go.Proofs.Ytbccbokjecdaaaa
open Go.RowKit

theorem within_any (n lo hi : Int) (w : World) (R : Ending → World → Prop) (hR : R (.returned (.bool (inB n lo hi))) w) :
    Calls Try.prog 27 #[.int .i64 n, .int .i64 lo, .int .i64 hi] w R := by
  by_cases h : lo ≤ n
  · by_cases h2 : n ≤ hi
    · rw [inB_true.2 ⟨h, h2⟩] at hR
      go_enter Try.func27, Try.ntmps27
      go_wp2
      simpa using hR
    · rw [inB_false.2 (by omega)] at hR
      go_enter Try.func27, Try.ntmps27
      go_wp2
      simpa using hR
  · rw [inB_false.2 (by omega)] at hR
    go_enter Try.func27, Try.ntmps27
    go_wp2
    simpa using hR

theorem isRegister_any (n : Int) (w : World) (R : Ending → World → Prop) (hR : R (.returned (.bool (inB n 0 3))) w) :
    Calls Try.prog 26 #[.int .i64 n] w R := by
  go_enter Try.func26, Try.ntmps26
  go_wp2_with (go_at_call 27; refine (within_any _ _ _ _ _ ?_))
  simpa using hR

set_option maxHeartbeats 1000000 in
theorem validateLine_0 (d a b : Int) (w : World) (R : Ending → World → Prop) (hR : ∀ w', Grow w w' → R (.returned (.int .i64 (errB (vL 0 d a b)))) w') :
    Calls Try.prog 15 #[.agg #[.int .i64 0, .int .i64 d, .int .i64 a, .int .i64 b]] w R := by
  by_cases c0 : d = 0
  rotate_left
  · rw [show errB (vL 0 d a b) = 1 by simp [vL, errB, c0]] at hR
    go_enter Try.func15, Try.ntmps15
    go_wp2_with (first | (go_at_call 26; refine isRegister_any _ _ _ ?_) | (go_at_call 27; refine within_any _ _ _ _ _ ?_))
    exact (Grow.refl _).alloc _
  subst c0
  by_cases c1 : a = 0
  rotate_left
  · rw [show errB (vL 0 0 a b) = 1 by simp [vL, errB, c1]] at hR
    go_enter Try.func15, Try.ntmps15
    go_wp2_with (first | (go_at_call 26; refine isRegister_any _ _ _ ?_) | (go_at_call 27; refine within_any _ _ _ _ _ ?_))
    exact (Grow.refl _).alloc _
  subst c1
  by_cases c2 : b = 0
  rotate_left
  · rw [show errB (vL 0 0 0 b) = 1 by simp [vL, errB, c2]] at hR
    go_enter Try.func15, Try.ntmps15
    go_wp2_with (first | (go_at_call 26; refine isRegister_any _ _ _ ?_) | (go_at_call 27; refine within_any _ _ _ _ _ ?_))
    exact (Grow.refl _).alloc _
  subst c2
  rw [show errB (vL 0 0 0 0) = 0 by simp [vL, errB]] at hR
  go_enter Try.func15, Try.ntmps15
  go_wp2_with (first | (go_at_call 26; refine isRegister_any _ _ _ ?_) | (go_at_call 27; refine within_any _ _ _ _ _ ?_))
  exact (Grow.refl _).alloc _

set_option maxHeartbeats 1000000 in
theorem validateLine_1 (d a b : Int) (w : World) (R : Ending → World → Prop) (hR : ∀ w', Grow w w' → R (.returned (.int .i64 (errB (vL 1 d a b)))) w') :
    Calls Try.prog 15 #[.agg #[.int .i64 1, .int .i64 d, .int .i64 a, .int .i64 b]] w R := by
  by_cases c0 : inB d 0 3 = true
  rotate_left
  · rw [show errB (vL 1 d a b) = 1 by simp [vL, errB, c0]] at hR
    replace c0 : inB d 0 3 = false := by simpa using c0
    go_enter Try.func15, Try.ntmps15
    go_wp2_with (first | (go_at_call 26; refine isRegister_any _ _ _ ?_) | (go_at_call 27; refine within_any _ _ _ _ _ ?_))
    exact (Grow.refl _).alloc _
  by_cases c1 : inB a (-9) 9 = true
  rotate_left
  · rw [show errB (vL 1 d a b) = 1 by simp [vL, errB, c1]] at hR
    replace c1 : inB a (-9) 9 = false := by simpa using c1
    go_enter Try.func15, Try.ntmps15
    go_wp2_with (first | (go_at_call 26; refine isRegister_any _ _ _ ?_) | (go_at_call 27; refine within_any _ _ _ _ _ ?_))
    exact (Grow.refl _).alloc _
  by_cases c2 : b = 0
  rotate_left
  · rw [show errB (vL 1 d a b) = 1 by simp [vL, errB, c2]] at hR
    have _d : (b == 0) = false := by simpa using c2
    go_enter Try.func15, Try.ntmps15
    go_wp2_with (first | (go_at_call 26; refine isRegister_any _ _ _ ?_) | (go_at_call 27; refine within_any _ _ _ _ _ ?_))
    exact (Grow.refl _).alloc _
  subst c2
  rw [show errB (vL 1 d a 0) = 0 by simp [vL, errB, c0, c1]] at hR
  go_enter Try.func15, Try.ntmps15
  go_wp2_with (first | (go_at_call 26; refine isRegister_any _ _ _ ?_) | (go_at_call 27; refine within_any _ _ _ _ _ ?_))
  exact (Grow.refl _).alloc _

set_option maxHeartbeats 1000000 in
theorem validateLine_2 (d a b : Int) (w : World) (R : Ending → World → Prop) (hR : ∀ w', Grow w w' → R (.returned (.int .i64 (errB (vL 2 d a b)))) w') :
    Calls Try.prog 15 #[.agg #[.int .i64 2, .int .i64 d, .int .i64 a, .int .i64 b]] w R := by
  by_cases c0 : inB d 0 3 = true
  rotate_left
  · rw [show errB (vL 2 d a b) = 1 by simp [vL, errB, c0]] at hR
    replace c0 : inB d 0 3 = false := by simpa using c0
    go_enter Try.func15, Try.ntmps15
    go_wp2_with (first | (go_at_call 26; refine isRegister_any _ _ _ ?_) | (go_at_call 27; refine within_any _ _ _ _ _ ?_))
    exact (Grow.refl _).alloc _
  by_cases c1 : inB a 0 3 = true
  rotate_left
  · rw [show errB (vL 2 d a b) = 1 by simp [vL, errB, c1]] at hR
    replace c1 : inB a 0 3 = false := by simpa using c1
    go_enter Try.func15, Try.ntmps15
    go_wp2_with (first | (go_at_call 26; refine isRegister_any _ _ _ ?_) | (go_at_call 27; refine within_any _ _ _ _ _ ?_))
    exact (Grow.refl _).alloc _
  by_cases c2 : b = 0
  rotate_left
  · rw [show errB (vL 2 d a b) = 1 by simp [vL, errB, c2]] at hR
    have _d : (b == 0) = false := by simpa using c2
    go_enter Try.func15, Try.ntmps15
    go_wp2_with (first | (go_at_call 26; refine isRegister_any _ _ _ ?_) | (go_at_call 27; refine within_any _ _ _ _ _ ?_))
    exact (Grow.refl _).alloc _
  subst c2
  rw [show errB (vL 2 d a 0) = 0 by simp [vL, errB, c0, c1]] at hR
  go_enter Try.func15, Try.ntmps15
  go_wp2_with (first | (go_at_call 26; refine isRegister_any _ _ _ ?_) | (go_at_call 27; refine within_any _ _ _ _ _ ?_))
  exact (Grow.refl _).alloc _

set_option maxHeartbeats 1000000 in
theorem validateLine_3 (d a b : Int) (w : World) (R : Ending → World → Prop) (hR : ∀ w', Grow w w' → R (.returned (.int .i64 (errB (vL 3 d a b)))) w') :
    Calls Try.prog 15 #[.agg #[.int .i64 3, .int .i64 d, .int .i64 a, .int .i64 b]] w R := by
  by_cases c0 : inB d 0 3 = true
  rotate_left
  · rw [show errB (vL 3 d a b) = 1 by simp [vL, errB, c0]] at hR
    replace c0 : inB d 0 3 = false := by simpa using c0
    go_enter Try.func15, Try.ntmps15
    go_wp2_with (first | (go_at_call 26; refine isRegister_any _ _ _ ?_) | (go_at_call 27; refine within_any _ _ _ _ _ ?_))
    exact (Grow.refl _).alloc _
  by_cases c1 : inB a 0 3 = true
  rotate_left
  · rw [show errB (vL 3 d a b) = 1 by simp [vL, errB, c1]] at hR
    replace c1 : inB a 0 3 = false := by simpa using c1
    go_enter Try.func15, Try.ntmps15
    go_wp2_with (first | (go_at_call 26; refine isRegister_any _ _ _ ?_) | (go_at_call 27; refine within_any _ _ _ _ _ ?_))
    exact (Grow.refl _).alloc _
  by_cases c2 : inB b 0 3 = true
  rotate_left
  · rw [show errB (vL 3 d a b) = 1 by simp [vL, errB, c2]] at hR
    replace c2 : inB b 0 3 = false := by simpa using c2
    go_enter Try.func15, Try.ntmps15
    go_wp2_with (first | (go_at_call 26; refine isRegister_any _ _ _ ?_) | (go_at_call 27; refine within_any _ _ _ _ _ ?_))
    exact (Grow.refl _).alloc _
  rw [show errB (vL 3 d a b) = 0 by simp [vL, errB, c0, c1, c2]] at hR
  go_enter Try.func15, Try.ntmps15
  go_wp2_with (first | (go_at_call 26; refine isRegister_any _ _ _ ?_) | (go_at_call 27; refine within_any _ _ _ _ _ ?_))
  exact (Grow.refl _).alloc _

set_option maxHeartbeats 1000000 in
theorem validateLine_4 (d a b : Int) (w : World) (R : Ending → World → Prop) (hR : ∀ w', Grow w w' → R (.returned (.int .i64 (errB (vL 4 d a b)))) w') :
    Calls Try.prog 15 #[.agg #[.int .i64 4, .int .i64 d, .int .i64 a, .int .i64 b]] w R := by
  by_cases c0 : inB d 0 3 = true
  rotate_left
  · rw [show errB (vL 4 d a b) = 1 by simp [vL, errB, c0]] at hR
    replace c0 : inB d 0 3 = false := by simpa using c0
    go_enter Try.func15, Try.ntmps15
    go_wp2_with (first | (go_at_call 26; refine isRegister_any _ _ _ ?_) | (go_at_call 27; refine within_any _ _ _ _ _ ?_))
    exact (Grow.refl _).alloc _
  by_cases c1 : inB a 0 3 = true
  rotate_left
  · rw [show errB (vL 4 d a b) = 1 by simp [vL, errB, c1]] at hR
    replace c1 : inB a 0 3 = false := by simpa using c1
    go_enter Try.func15, Try.ntmps15
    go_wp2_with (first | (go_at_call 26; refine isRegister_any _ _ _ ?_) | (go_at_call 27; refine within_any _ _ _ _ _ ?_))
    exact (Grow.refl _).alloc _
  by_cases c2 : inB b 0 3 = true
  rotate_left
  · rw [show errB (vL 4 d a b) = 1 by simp [vL, errB, c2]] at hR
    replace c2 : inB b 0 3 = false := by simpa using c2
    go_enter Try.func15, Try.ntmps15
    go_wp2_with (first | (go_at_call 26; refine isRegister_any _ _ _ ?_) | (go_at_call 27; refine within_any _ _ _ _ _ ?_))
    exact (Grow.refl _).alloc _
  rw [show errB (vL 4 d a b) = 0 by simp [vL, errB, c0, c1, c2]] at hR
  go_enter Try.func15, Try.ntmps15
  go_wp2_with (first | (go_at_call 26; refine isRegister_any _ _ _ ?_) | (go_at_call 27; refine within_any _ _ _ _ _ ?_))
  exact (Grow.refl _).alloc _

set_option maxHeartbeats 1000000 in
theorem validateLine_5 (d a b : Int) (w : World) (R : Ending → World → Prop) (hR : ∀ w', Grow w w' → R (.returned (.int .i64 (errB (vL 5 d a b)))) w') :
    Calls Try.prog 15 #[.agg #[.int .i64 5, .int .i64 d, .int .i64 a, .int .i64 b]] w R := by
  by_cases c0 : inB d 0 3 = true
  rotate_left
  · rw [show errB (vL 5 d a b) = 1 by simp [vL, errB, c0]] at hR
    replace c0 : inB d 0 3 = false := by simpa using c0
    go_enter Try.func15, Try.ntmps15
    go_wp2_with (first | (go_at_call 26; refine isRegister_any _ _ _ ?_) | (go_at_call 27; refine within_any _ _ _ _ _ ?_))
    exact (Grow.refl _).alloc _
  by_cases c1 : inB a 0 3 = true
  rotate_left
  · rw [show errB (vL 5 d a b) = 1 by simp [vL, errB, c1]] at hR
    replace c1 : inB a 0 3 = false := by simpa using c1
    go_enter Try.func15, Try.ntmps15
    go_wp2_with (first | (go_at_call 26; refine isRegister_any _ _ _ ?_) | (go_at_call 27; refine within_any _ _ _ _ _ ?_))
    exact (Grow.refl _).alloc _
  by_cases c2 : inB b 0 3 = true
  rotate_left
  · rw [show errB (vL 5 d a b) = 1 by simp [vL, errB, c2]] at hR
    replace c2 : inB b 0 3 = false := by simpa using c2
    go_enter Try.func15, Try.ntmps15
    go_wp2_with (first | (go_at_call 26; refine isRegister_any _ _ _ ?_) | (go_at_call 27; refine within_any _ _ _ _ _ ?_))
    exact (Grow.refl _).alloc _
  rw [show errB (vL 5 d a b) = 0 by simp [vL, errB, c0, c1, c2]] at hR
  go_enter Try.func15, Try.ntmps15
  go_wp2_with (first | (go_at_call 26; refine isRegister_any _ _ _ ?_) | (go_at_call 27; refine within_any _ _ _ _ _ ?_))
  exact (Grow.refl _).alloc _

set_option maxHeartbeats 1000000 in
theorem validateLine_6 (d a b : Int) (w : World) (R : Ending → World → Prop) (hR : ∀ w', Grow w w' → R (.returned (.int .i64 (errB (vL 6 d a b)))) w') :
    Calls Try.prog 15 #[.agg #[.int .i64 6, .int .i64 d, .int .i64 a, .int .i64 b]] w R := by
  by_cases c0 : inB d 0 3 = true
  rotate_left
  · rw [show errB (vL 6 d a b) = 1 by simp [vL, errB, c0]] at hR
    replace c0 : inB d 0 3 = false := by simpa using c0
    go_enter Try.func15, Try.ntmps15
    go_wp2_with (first | (go_at_call 26; refine isRegister_any _ _ _ ?_) | (go_at_call 27; refine within_any _ _ _ _ _ ?_))
    exact (Grow.refl _).alloc _
  by_cases c1 : inB a 0 3 = true
  rotate_left
  · rw [show errB (vL 6 d a b) = 1 by simp [vL, errB, c1]] at hR
    replace c1 : inB a 0 3 = false := by simpa using c1
    go_enter Try.func15, Try.ntmps15
    go_wp2_with (first | (go_at_call 26; refine isRegister_any _ _ _ ?_) | (go_at_call 27; refine within_any _ _ _ _ _ ?_))
    exact (Grow.refl _).alloc _
  by_cases c2 : inB b 0 3 = true
  rotate_left
  · rw [show errB (vL 6 d a b) = 1 by simp [vL, errB, c2]] at hR
    replace c2 : inB b 0 3 = false := by simpa using c2
    go_enter Try.func15, Try.ntmps15
    go_wp2_with (first | (go_at_call 26; refine isRegister_any _ _ _ ?_) | (go_at_call 27; refine within_any _ _ _ _ _ ?_))
    exact (Grow.refl _).alloc _
  rw [show errB (vL 6 d a b) = 0 by simp [vL, errB, c0, c1, c2]] at hR
  go_enter Try.func15, Try.ntmps15
  go_wp2_with (first | (go_at_call 26; refine isRegister_any _ _ _ ?_) | (go_at_call 27; refine within_any _ _ _ _ _ ?_))
  exact (Grow.refl _).alloc _

set_option maxHeartbeats 1000000 in
theorem validateLine_7 (d a b : Int) (w : World) (R : Ending → World → Prop) (hR : ∀ w', Grow w w' → R (.returned (.int .i64 (errB (vL 7 d a b)))) w') :
    Calls Try.prog 15 #[.agg #[.int .i64 7, .int .i64 d, .int .i64 a, .int .i64 b]] w R := by
  by_cases c0 : inB d 1 8 = true
  rotate_left
  · rw [show errB (vL 7 d a b) = 1 by simp [vL, errB, c0]] at hR
    replace c0 : inB d 1 8 = false := by simpa using c0
    go_enter Try.func15, Try.ntmps15
    go_wp2_with (first | (go_at_call 26; refine isRegister_any _ _ _ ?_) | (go_at_call 27; refine within_any _ _ _ _ _ ?_))
    exact (Grow.refl _).alloc _
  by_cases c1 : inB a 0 3 = true
  rotate_left
  · rw [show errB (vL 7 d a b) = 1 by simp [vL, errB, c1]] at hR
    replace c1 : inB a 0 3 = false := by simpa using c1
    go_enter Try.func15, Try.ntmps15
    go_wp2_with (first | (go_at_call 26; refine isRegister_any _ _ _ ?_) | (go_at_call 27; refine within_any _ _ _ _ _ ?_))
    exact (Grow.refl _).alloc _
  by_cases c2 : inB b 0 3 = true
  rotate_left
  · rw [show errB (vL 7 d a b) = 1 by simp [vL, errB, c2]] at hR
    replace c2 : inB b 0 3 = false := by simpa using c2
    go_enter Try.func15, Try.ntmps15
    go_wp2_with (first | (go_at_call 26; refine isRegister_any _ _ _ ?_) | (go_at_call 27; refine within_any _ _ _ _ _ ?_))
    exact (Grow.refl _).alloc _
  rw [show errB (vL 7 d a b) = 0 by simp [vL, errB, c0, c1, c2]] at hR
  go_enter Try.func15, Try.ntmps15
  go_wp2_with (first | (go_at_call 26; refine isRegister_any _ _ _ ?_) | (go_at_call 27; refine within_any _ _ _ _ _ ?_))
  exact (Grow.refl _).alloc _

set_option maxHeartbeats 1000000 in
theorem validateLine_any (op d a b : Int) (w : World) (R : Ending → World → Prop) (hR : ∀ w', Grow w w' → R (.returned (.int .i64 (errB (vL op d a b)))) w') :
    Calls Try.prog 15 #[.agg #[.int .i64 op, .int .i64 d, .int .i64 a, .int .i64 b]] w R := by
  by_cases h0 : op = 0
  · subst h0; exact validateLine_0 d a b w R hR
  by_cases h1 : op = 1
  · subst h1; exact validateLine_1 d a b w R hR
  by_cases h2 : op = 2
  · subst h2; exact validateLine_2 d a b w R hR
  by_cases h3 : op = 3
  · subst h3; exact validateLine_3 d a b w R hR
  by_cases h4 : op = 4
  · subst h4; exact validateLine_4 d a b w R hR
  by_cases h5 : op = 5
  · subst h5; exact validateLine_5 d a b w R hR
  by_cases h6 : op = 6
  · subst h6; exact validateLine_6 d a b w R hR
  by_cases h7 : op = 7
  · subst h7; exact validateLine_7 d a b w R hR
  rw [show errB (vL op d a b) = 1 by simp [vL, errB, h0, h1, h2, h3, h4, h5, h6, h7]] at hR
  go_enter Try.func15, Try.ntmps15
  go_wp2_with fail
  exact (Grow.refl _).alloc _

end Go.Proofs.Ytbccbokjecdaaaa
