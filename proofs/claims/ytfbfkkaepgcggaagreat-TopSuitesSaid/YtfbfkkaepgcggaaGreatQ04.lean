/-
The walks of package code: what is valid.
The walks of package code: which programs and states are valid.
The walks of package check: which tests are valid.
-/
import Derived.Test.YtfbfkkaepgcggaaGreatQ00
import Derived.Test.YtfbfkkaepgcggaaGreatRows
namespace Go.Proofs.YtfbfkkaepgcggaaGreat
open Go.RowKit

theorem within_any (n lo hi : Int) (w : World) (R : Ending → World → Prop) (hR : R (.returned (.bool (inB n lo hi))) w) :
    Calls Tryz.prog 81 #[.int .i64 n, .int .i64 lo, .int .i64 hi] w R := by
  by_cases h : lo ≤ n
  · by_cases h2 : n ≤ hi
    · rw [inB_true.2 ⟨h, h2⟩] at hR
      go_enter Tryz.func81, Tryz.ntmps81
      go_wp2
      simpa using hR
    · rw [inB_false.2 (by omega)] at hR
      go_enter Tryz.func81, Tryz.ntmps81
      go_wp2
      simpa using hR
  · rw [inB_false.2 (by omega)] at hR
    go_enter Tryz.func81, Tryz.ntmps81
    go_wp2
    simpa using hR

theorem isRegister_any (n : Int) (w : World) (R : Ending → World → Prop) (hR : R (.returned (.bool (inB n 0 3))) w) :
    Calls Tryz.prog 80 #[.int .i64 n] w R := by
  go_enter Tryz.func80, Tryz.ntmps80
  go_wp2_with (go_at_call 81; refine (within_any _ _ _ _ _ ?_))
  simpa using hR

set_option maxHeartbeats 1000000 in
theorem validateLine_0 (d a b : Int) (w : World) (R : Ending → World → Prop) (hR : ∀ w', Grow w w' → R (.returned (.int .i64 (errB (vL 0 d a b)))) w') :
    Calls Tryz.prog 67 #[.agg #[.int .i64 0, .int .i64 d, .int .i64 a, .int .i64 b]] w R := by
  by_cases c0 : d = 0
  rotate_left
  · rw [show errB (vL 0 d a b) = 1 by simp [vL, errB, c0]] at hR
    go_enter Tryz.func67, Tryz.ntmps67
    go_wp2_with (first | (go_at_call 80; refine isRegister_any _ _ _ ?_) | (go_at_call 81; refine within_any _ _ _ _ _ ?_))
    exact (Grow.refl _).alloc _
  subst c0
  by_cases c1 : a = 0
  rotate_left
  · rw [show errB (vL 0 0 a b) = 1 by simp [vL, errB, c1]] at hR
    go_enter Tryz.func67, Tryz.ntmps67
    go_wp2_with (first | (go_at_call 80; refine isRegister_any _ _ _ ?_) | (go_at_call 81; refine within_any _ _ _ _ _ ?_))
    exact (Grow.refl _).alloc _
  subst c1
  by_cases c2 : b = 0
  rotate_left
  · rw [show errB (vL 0 0 0 b) = 1 by simp [vL, errB, c2]] at hR
    go_enter Tryz.func67, Tryz.ntmps67
    go_wp2_with (first | (go_at_call 80; refine isRegister_any _ _ _ ?_) | (go_at_call 81; refine within_any _ _ _ _ _ ?_))
    exact (Grow.refl _).alloc _
  subst c2
  rw [show errB (vL 0 0 0 0) = 0 by simp [vL, errB]] at hR
  go_enter Tryz.func67, Tryz.ntmps67
  go_wp2_with (first | (go_at_call 80; refine isRegister_any _ _ _ ?_) | (go_at_call 81; refine within_any _ _ _ _ _ ?_))
  exact (Grow.refl _).alloc _

set_option maxHeartbeats 1000000 in
theorem validateLine_1 (d a b : Int) (w : World) (R : Ending → World → Prop) (hR : ∀ w', Grow w w' → R (.returned (.int .i64 (errB (vL 1 d a b)))) w') :
    Calls Tryz.prog 67 #[.agg #[.int .i64 1, .int .i64 d, .int .i64 a, .int .i64 b]] w R := by
  by_cases c0 : inB d 0 3 = true
  rotate_left
  · rw [show errB (vL 1 d a b) = 1 by simp [vL, errB, c0]] at hR
    replace c0 : inB d 0 3 = false := by simpa using c0
    go_enter Tryz.func67, Tryz.ntmps67
    go_wp2_with (first | (go_at_call 80; refine isRegister_any _ _ _ ?_) | (go_at_call 81; refine within_any _ _ _ _ _ ?_))
    exact (Grow.refl _).alloc _
  by_cases c1 : inB a (-9) 9 = true
  rotate_left
  · rw [show errB (vL 1 d a b) = 1 by simp [vL, errB, c1]] at hR
    replace c1 : inB a (-9) 9 = false := by simpa using c1
    go_enter Tryz.func67, Tryz.ntmps67
    go_wp2_with (first | (go_at_call 80; refine isRegister_any _ _ _ ?_) | (go_at_call 81; refine within_any _ _ _ _ _ ?_))
    exact (Grow.refl _).alloc _
  by_cases c2 : b = 0
  rotate_left
  · rw [show errB (vL 1 d a b) = 1 by simp [vL, errB, c2]] at hR
    have _d : (b == 0) = false := by simpa using c2
    go_enter Tryz.func67, Tryz.ntmps67
    go_wp2_with (first | (go_at_call 80; refine isRegister_any _ _ _ ?_) | (go_at_call 81; refine within_any _ _ _ _ _ ?_))
    exact (Grow.refl _).alloc _
  subst c2
  rw [show errB (vL 1 d a 0) = 0 by simp [vL, errB, c0, c1]] at hR
  go_enter Tryz.func67, Tryz.ntmps67
  go_wp2_with (first | (go_at_call 80; refine isRegister_any _ _ _ ?_) | (go_at_call 81; refine within_any _ _ _ _ _ ?_))
  exact (Grow.refl _).alloc _

set_option maxHeartbeats 1000000 in
theorem validateLine_2 (d a b : Int) (w : World) (R : Ending → World → Prop) (hR : ∀ w', Grow w w' → R (.returned (.int .i64 (errB (vL 2 d a b)))) w') :
    Calls Tryz.prog 67 #[.agg #[.int .i64 2, .int .i64 d, .int .i64 a, .int .i64 b]] w R := by
  by_cases c0 : inB d 0 3 = true
  rotate_left
  · rw [show errB (vL 2 d a b) = 1 by simp [vL, errB, c0]] at hR
    replace c0 : inB d 0 3 = false := by simpa using c0
    go_enter Tryz.func67, Tryz.ntmps67
    go_wp2_with (first | (go_at_call 80; refine isRegister_any _ _ _ ?_) | (go_at_call 81; refine within_any _ _ _ _ _ ?_))
    exact (Grow.refl _).alloc _
  by_cases c1 : inB a 0 3 = true
  rotate_left
  · rw [show errB (vL 2 d a b) = 1 by simp [vL, errB, c1]] at hR
    replace c1 : inB a 0 3 = false := by simpa using c1
    go_enter Tryz.func67, Tryz.ntmps67
    go_wp2_with (first | (go_at_call 80; refine isRegister_any _ _ _ ?_) | (go_at_call 81; refine within_any _ _ _ _ _ ?_))
    exact (Grow.refl _).alloc _
  by_cases c2 : b = 0
  rotate_left
  · rw [show errB (vL 2 d a b) = 1 by simp [vL, errB, c2]] at hR
    have _d : (b == 0) = false := by simpa using c2
    go_enter Tryz.func67, Tryz.ntmps67
    go_wp2_with (first | (go_at_call 80; refine isRegister_any _ _ _ ?_) | (go_at_call 81; refine within_any _ _ _ _ _ ?_))
    exact (Grow.refl _).alloc _
  subst c2
  rw [show errB (vL 2 d a 0) = 0 by simp [vL, errB, c0, c1]] at hR
  go_enter Tryz.func67, Tryz.ntmps67
  go_wp2_with (first | (go_at_call 80; refine isRegister_any _ _ _ ?_) | (go_at_call 81; refine within_any _ _ _ _ _ ?_))
  exact (Grow.refl _).alloc _

set_option maxHeartbeats 1000000 in
theorem validateLine_3 (d a b : Int) (w : World) (R : Ending → World → Prop) (hR : ∀ w', Grow w w' → R (.returned (.int .i64 (errB (vL 3 d a b)))) w') :
    Calls Tryz.prog 67 #[.agg #[.int .i64 3, .int .i64 d, .int .i64 a, .int .i64 b]] w R := by
  by_cases c0 : inB d 0 3 = true
  rotate_left
  · rw [show errB (vL 3 d a b) = 1 by simp [vL, errB, c0]] at hR
    replace c0 : inB d 0 3 = false := by simpa using c0
    go_enter Tryz.func67, Tryz.ntmps67
    go_wp2_with (first | (go_at_call 80; refine isRegister_any _ _ _ ?_) | (go_at_call 81; refine within_any _ _ _ _ _ ?_))
    exact (Grow.refl _).alloc _
  by_cases c1 : inB a 0 3 = true
  rotate_left
  · rw [show errB (vL 3 d a b) = 1 by simp [vL, errB, c1]] at hR
    replace c1 : inB a 0 3 = false := by simpa using c1
    go_enter Tryz.func67, Tryz.ntmps67
    go_wp2_with (first | (go_at_call 80; refine isRegister_any _ _ _ ?_) | (go_at_call 81; refine within_any _ _ _ _ _ ?_))
    exact (Grow.refl _).alloc _
  by_cases c2 : inB b 0 3 = true
  rotate_left
  · rw [show errB (vL 3 d a b) = 1 by simp [vL, errB, c2]] at hR
    replace c2 : inB b 0 3 = false := by simpa using c2
    go_enter Tryz.func67, Tryz.ntmps67
    go_wp2_with (first | (go_at_call 80; refine isRegister_any _ _ _ ?_) | (go_at_call 81; refine within_any _ _ _ _ _ ?_))
    exact (Grow.refl _).alloc _
  rw [show errB (vL 3 d a b) = 0 by simp [vL, errB, c0, c1, c2]] at hR
  go_enter Tryz.func67, Tryz.ntmps67
  go_wp2_with (first | (go_at_call 80; refine isRegister_any _ _ _ ?_) | (go_at_call 81; refine within_any _ _ _ _ _ ?_))
  exact (Grow.refl _).alloc _

set_option maxHeartbeats 1000000 in
theorem validateLine_4 (d a b : Int) (w : World) (R : Ending → World → Prop) (hR : ∀ w', Grow w w' → R (.returned (.int .i64 (errB (vL 4 d a b)))) w') :
    Calls Tryz.prog 67 #[.agg #[.int .i64 4, .int .i64 d, .int .i64 a, .int .i64 b]] w R := by
  by_cases c0 : inB d 0 3 = true
  rotate_left
  · rw [show errB (vL 4 d a b) = 1 by simp [vL, errB, c0]] at hR
    replace c0 : inB d 0 3 = false := by simpa using c0
    go_enter Tryz.func67, Tryz.ntmps67
    go_wp2_with (first | (go_at_call 80; refine isRegister_any _ _ _ ?_) | (go_at_call 81; refine within_any _ _ _ _ _ ?_))
    exact (Grow.refl _).alloc _
  by_cases c1 : inB a 0 3 = true
  rotate_left
  · rw [show errB (vL 4 d a b) = 1 by simp [vL, errB, c1]] at hR
    replace c1 : inB a 0 3 = false := by simpa using c1
    go_enter Tryz.func67, Tryz.ntmps67
    go_wp2_with (first | (go_at_call 80; refine isRegister_any _ _ _ ?_) | (go_at_call 81; refine within_any _ _ _ _ _ ?_))
    exact (Grow.refl _).alloc _
  by_cases c2 : inB b 0 3 = true
  rotate_left
  · rw [show errB (vL 4 d a b) = 1 by simp [vL, errB, c2]] at hR
    replace c2 : inB b 0 3 = false := by simpa using c2
    go_enter Tryz.func67, Tryz.ntmps67
    go_wp2_with (first | (go_at_call 80; refine isRegister_any _ _ _ ?_) | (go_at_call 81; refine within_any _ _ _ _ _ ?_))
    exact (Grow.refl _).alloc _
  rw [show errB (vL 4 d a b) = 0 by simp [vL, errB, c0, c1, c2]] at hR
  go_enter Tryz.func67, Tryz.ntmps67
  go_wp2_with (first | (go_at_call 80; refine isRegister_any _ _ _ ?_) | (go_at_call 81; refine within_any _ _ _ _ _ ?_))
  exact (Grow.refl _).alloc _

set_option maxHeartbeats 1000000 in
theorem validateLine_5 (d a b : Int) (w : World) (R : Ending → World → Prop) (hR : ∀ w', Grow w w' → R (.returned (.int .i64 (errB (vL 5 d a b)))) w') :
    Calls Tryz.prog 67 #[.agg #[.int .i64 5, .int .i64 d, .int .i64 a, .int .i64 b]] w R := by
  by_cases c0 : inB d 0 3 = true
  rotate_left
  · rw [show errB (vL 5 d a b) = 1 by simp [vL, errB, c0]] at hR
    replace c0 : inB d 0 3 = false := by simpa using c0
    go_enter Tryz.func67, Tryz.ntmps67
    go_wp2_with (first | (go_at_call 80; refine isRegister_any _ _ _ ?_) | (go_at_call 81; refine within_any _ _ _ _ _ ?_))
    exact (Grow.refl _).alloc _
  by_cases c1 : inB a 0 3 = true
  rotate_left
  · rw [show errB (vL 5 d a b) = 1 by simp [vL, errB, c1]] at hR
    replace c1 : inB a 0 3 = false := by simpa using c1
    go_enter Tryz.func67, Tryz.ntmps67
    go_wp2_with (first | (go_at_call 80; refine isRegister_any _ _ _ ?_) | (go_at_call 81; refine within_any _ _ _ _ _ ?_))
    exact (Grow.refl _).alloc _
  by_cases c2 : inB b 0 3 = true
  rotate_left
  · rw [show errB (vL 5 d a b) = 1 by simp [vL, errB, c2]] at hR
    replace c2 : inB b 0 3 = false := by simpa using c2
    go_enter Tryz.func67, Tryz.ntmps67
    go_wp2_with (first | (go_at_call 80; refine isRegister_any _ _ _ ?_) | (go_at_call 81; refine within_any _ _ _ _ _ ?_))
    exact (Grow.refl _).alloc _
  rw [show errB (vL 5 d a b) = 0 by simp [vL, errB, c0, c1, c2]] at hR
  go_enter Tryz.func67, Tryz.ntmps67
  go_wp2_with (first | (go_at_call 80; refine isRegister_any _ _ _ ?_) | (go_at_call 81; refine within_any _ _ _ _ _ ?_))
  exact (Grow.refl _).alloc _

set_option maxHeartbeats 1000000 in
theorem validateLine_6 (d a b : Int) (w : World) (R : Ending → World → Prop) (hR : ∀ w', Grow w w' → R (.returned (.int .i64 (errB (vL 6 d a b)))) w') :
    Calls Tryz.prog 67 #[.agg #[.int .i64 6, .int .i64 d, .int .i64 a, .int .i64 b]] w R := by
  by_cases c0 : inB d 0 3 = true
  rotate_left
  · rw [show errB (vL 6 d a b) = 1 by simp [vL, errB, c0]] at hR
    replace c0 : inB d 0 3 = false := by simpa using c0
    go_enter Tryz.func67, Tryz.ntmps67
    go_wp2_with (first | (go_at_call 80; refine isRegister_any _ _ _ ?_) | (go_at_call 81; refine within_any _ _ _ _ _ ?_))
    exact (Grow.refl _).alloc _
  by_cases c1 : inB a 0 3 = true
  rotate_left
  · rw [show errB (vL 6 d a b) = 1 by simp [vL, errB, c1]] at hR
    replace c1 : inB a 0 3 = false := by simpa using c1
    go_enter Tryz.func67, Tryz.ntmps67
    go_wp2_with (first | (go_at_call 80; refine isRegister_any _ _ _ ?_) | (go_at_call 81; refine within_any _ _ _ _ _ ?_))
    exact (Grow.refl _).alloc _
  by_cases c2 : inB b 0 3 = true
  rotate_left
  · rw [show errB (vL 6 d a b) = 1 by simp [vL, errB, c2]] at hR
    replace c2 : inB b 0 3 = false := by simpa using c2
    go_enter Tryz.func67, Tryz.ntmps67
    go_wp2_with (first | (go_at_call 80; refine isRegister_any _ _ _ ?_) | (go_at_call 81; refine within_any _ _ _ _ _ ?_))
    exact (Grow.refl _).alloc _
  rw [show errB (vL 6 d a b) = 0 by simp [vL, errB, c0, c1, c2]] at hR
  go_enter Tryz.func67, Tryz.ntmps67
  go_wp2_with (first | (go_at_call 80; refine isRegister_any _ _ _ ?_) | (go_at_call 81; refine within_any _ _ _ _ _ ?_))
  exact (Grow.refl _).alloc _

set_option maxHeartbeats 1000000 in
theorem validateLine_7 (d a b : Int) (w : World) (R : Ending → World → Prop) (hR : ∀ w', Grow w w' → R (.returned (.int .i64 (errB (vL 7 d a b)))) w') :
    Calls Tryz.prog 67 #[.agg #[.int .i64 7, .int .i64 d, .int .i64 a, .int .i64 b]] w R := by
  by_cases c0 : inB d 1 8 = true
  rotate_left
  · rw [show errB (vL 7 d a b) = 1 by simp [vL, errB, c0]] at hR
    replace c0 : inB d 1 8 = false := by simpa using c0
    go_enter Tryz.func67, Tryz.ntmps67
    go_wp2_with (first | (go_at_call 80; refine isRegister_any _ _ _ ?_) | (go_at_call 81; refine within_any _ _ _ _ _ ?_))
    exact (Grow.refl _).alloc _
  by_cases c1 : inB a 0 3 = true
  rotate_left
  · rw [show errB (vL 7 d a b) = 1 by simp [vL, errB, c1]] at hR
    replace c1 : inB a 0 3 = false := by simpa using c1
    go_enter Tryz.func67, Tryz.ntmps67
    go_wp2_with (first | (go_at_call 80; refine isRegister_any _ _ _ ?_) | (go_at_call 81; refine within_any _ _ _ _ _ ?_))
    exact (Grow.refl _).alloc _
  by_cases c2 : inB b 0 3 = true
  rotate_left
  · rw [show errB (vL 7 d a b) = 1 by simp [vL, errB, c2]] at hR
    replace c2 : inB b 0 3 = false := by simpa using c2
    go_enter Tryz.func67, Tryz.ntmps67
    go_wp2_with (first | (go_at_call 80; refine isRegister_any _ _ _ ?_) | (go_at_call 81; refine within_any _ _ _ _ _ ?_))
    exact (Grow.refl _).alloc _
  rw [show errB (vL 7 d a b) = 0 by simp [vL, errB, c0, c1, c2]] at hR
  go_enter Tryz.func67, Tryz.ntmps67
  go_wp2_with (first | (go_at_call 80; refine isRegister_any _ _ _ ?_) | (go_at_call 81; refine within_any _ _ _ _ _ ?_))
  exact (Grow.refl _).alloc _

set_option maxHeartbeats 1000000 in
theorem validateLine_any (op d a b : Int) (w : World) (R : Ending → World → Prop) (hR : ∀ w', Grow w w' → R (.returned (.int .i64 (errB (vL op d a b)))) w') :
    Calls Tryz.prog 67 #[.agg #[.int .i64 op, .int .i64 d, .int .i64 a, .int .i64 b]] w R := by
  by_cases h0 : op = 0
  · subst h0; exact validateLine_0 d a b w R hR
  by_cases h1 : op = 1
  · subst h1; exact validateLine_1 d a b w R hR
  by_cases h2 : op = 2
  · subst h2; exact validateLine_2 d a b w R hR
  by_cases h3 : op = 3
  · subst h3; exact validateLine_3 d a b w R hR
  by_cases h4 : op = 4
  · subst h4; exact validateLine_4 d a b w R hR
  by_cases h5 : op = 5
  · subst h5; exact validateLine_5 d a b w R hR
  by_cases h6 : op = 6
  · subst h6; exact validateLine_6 d a b w R hR
  by_cases h7 : op = 7
  · subst h7; exact validateLine_7 d a b w R hR
  rw [show errB (vL op d a b) = 1 by simp [vL, errB, h0, h1, h2, h3, h4, h5, h6, h7]] at hR
  go_enter Tryz.func67, Tryz.ntmps67
  go_wp2_with fail
  exact (Grow.refl _).alloc _

end Go.Proofs.YtfbfkkaepgcggaaGreat

namespace Go.Proofs.YtfbfkkaepgcggaaGreat
open Go.RowKit

theorem all_take_succ {α : Type} {p : List α} {f : α → Bool} {k : Nat} {x : α} (h : ∀ l ∈ p.take k, f l = true) (hx : p[k]? = some x) (hf : f x = true) : ∀ l ∈ p.take (k + 1), f l = true := by
  intro l hl
  rw [List.take_add_one, hx] at hl
  rcases List.mem_append.1 hl with hl | hl
  · exact h l hl
  · simp at hl; subst hl; exact hf
theorem all_false_at {α : Type} {p : List α} {f : α → Bool} {k : Nat} {x : α} (hx : p[k]? = some x) (hf : f x = false) : p.all f = false := by
  rw [← Bool.not_eq_true]
  intro h
  have := List.all_eq_true.1 h x (List.mem_of_getElem? hx)
  rw [this] at hf; cases hf
theorem all_of_take {α : Type} {p : List α} {f : α → Bool} {k : Nat} (h : ∀ l ∈ p.take k, f l = true) (hk : p.length ≤ k) : p.all f = true := by
  rw [List.take_of_length_le hk] at h
  exact List.all_eq_true.2 h

set_option maxHeartbeats 1000000 in
theorem validate_any (p : List Ln) (v : Value) (w : World) (hp : LinesAt w v p) (R : Ending → World → Prop) (hR : ∀ w', Grow w w' → R (.returned (.int .i64 (valP p))) w') :
    Calls Tryz.prog 42 #[v] w R := by
  obtain ⟨a, c, rfl, h1, h2, h3⟩ := hp
  by_cases hl : 8 < p.length
  · rw [show valP p = 3 by simp [valP, hl]] at hR
    go_enter Tryz.func42, Tryz.ntmps42
    go_wp2_with fail
    exact Grow.refl _
  · have hV : valP p = errB (p.all Ln.ok) := by simp [valP, hl]
    rw [hV] at hR
    clear hV
    have hm : p.length ≤ 9223372036854775807 := by omega
    go_enter Tryz.func42, Tryz.ntmps42
    go_wp2_with fail
    go_loopw [2, 4, 5, 11] (fun _ _ _ i wr => ∃ k : Nat, k ≤ p.length ∧ i = .int .i64 k ∧ Grow w wr ∧ ∀ l ∈ p.take k, Ln.ok l = true) (fun _ _ _ i _ => p.length - (intOf i).toNat)
    case atStart => exact ⟨0, Nat.zero_le _, rfl, Grow.refl _, by simp⟩
    case round =>
      obtain ⟨k, hk, rfl, hg, hall⟩ := hrel
      by_cases hlt : k < p.length
      · replace h3 := h3.resolve_left (by intro h; simp [h] at hlt)
        obtain ⟨b, o, rfl, hb, hc⟩ := h3
        obtain ⟨⟨op, d, x, y⟩, hx⟩ : ∃ l, p[k]? = some l := ⟨_, List.getElem?_eq_getElem hlt⟩
        obtain ⟨c0, c1, c2, c3⟩ := lines_cell hc k op d x y hx
        have e0 := hg.cell c0
        have e1 := hg.cell c1
        have e2 := hg.cell c2
        have e3 := hg.cell c3
        have hz := hg.sz
        clear hc c0 c1 c2 c3
        have HX := Lib.hid hx
        clear hx
        by_cases hv : vL op d x y = true
        · have he : errB (vL op d x y) = 0 := by rw [hv]; rfl
          have HE := Lib.hid he
          clear he
          go_wp2_with fail
          refine validateLine_any _ _ _ _ _ _ ?_
          intro w1 hg1
          rw [HE.out]
          have hg2 := (hg.alloc _).trans hg1
          clear hg hg1
          go_wp2_with fail
          go_roundw
          case rel => exact ⟨k + 1, by omega, by go_num, hg2, all_take_succ hall HX.out hv⟩
          case measure => simp [intOf]; omega
        · replace hv : vL op d x y = false := by simpa using hv
          have he : errB (vL op d x y) = 1 := by rw [hv]; rfl
          have HE := Lib.hid he
          clear he
          rw [all_false_at HX.out hv] at hR
          rw [show errB false = 1 from rfl] at hR
          go_wp2_with fail
          refine validateLine_any _ _ _ _ _ _ ?_
          intro w1 hg1
          rw [HE.out]
          have hg2 := (hg.alloc _).trans hg1
          clear hg hg1
          go_wp2_with fail
          exact hg2
      · rw [all_of_take hall (by omega)] at hR
        rw [show errB true = 0 from rfl] at hR
        go_wp2_with fail
        exact hg

/-- A function value that answers pr of an integer, in every world that comes of w. -/
def PredI (g : Nat) (cb : Array Value) (w : World) (pr : Int → Bool) : Prop :=
  ∀ x W, Grow w W → ∀ R : Ending → World → Prop, (∀ W', Grow W W' → R (.returned (.bool (pr x))) W') → Calls Tryz.prog g (#[.int .i64 x] ++ cb) W R

def idxI (pr : Int → Bool) (xs : List Int) : Int := if xs.any pr then (xs.findIdx pr : Int) else -1

theorem findIdx_at {pr : Int → Bool} {xs : List Int} {k : Nat} {x : Int} (h : ∀ y ∈ xs.take k, pr y = false) (hx : xs[k]? = some x) (hp : pr x = true) : idxI pr xs = k := by
  have ha : xs.any pr = true := List.any_eq_true.2 ⟨x, List.mem_of_getElem? hx, hp⟩
  have hlt : k < xs.length := (List.getElem?_eq_some_iff.1 hx).1
  have hxe : xs[k] = x := by rw [List.getElem?_eq_getElem hlt] at hx; exact Option.some.inj hx
  unfold idxI
  rw [if_pos ha]
  have : xs.findIdx pr = k := by
    rw [List.findIdx_eq hlt]
    refine ⟨by rw [hxe]; exact hp, fun j hj => ?_⟩
    have := h xs[j] (by rw [List.mem_take_iff_getElem]; exact ⟨j, by omega, rfl⟩)
    simpa using this
  rw [this]
theorem idxI_none {pr : Int → Bool} {xs : List Int} {k : Nat} (h : ∀ y ∈ xs.take k, pr y = false) (hk : xs.length ≤ k) : idxI pr xs = -1 := by
  rw [List.take_of_length_le hk] at h
  unfold idxI
  rw [if_neg]
  intro ha
  obtain ⟨y, hy, hp⟩ := List.any_eq_true.1 ha
  rw [h y hy] at hp; cases hp
theorem take_succ_false {pr : Int → Bool} {xs : List Int} {k : Nat} {x : Int} (h : ∀ y ∈ xs.take k, pr y = false) (hx : xs[k]? = some x) (hp : pr x = false) : ∀ y ∈ xs.take (k + 1), pr y = false := by
  intro l hl
  rw [List.take_add_one, hx] at hl
  rcases List.mem_append.1 hl with hl | hl
  · exact h l hl
  · simp at hl; subst hl; exact hp
theorem idxI_ge (pr : Int → Bool) (xs : List Int) : decide (0 ≤ idxI pr xs) = xs.any pr := by
  unfold idxI; cases xs.any pr <;> simp

set_option maxHeartbeats 1000000 in
theorem indexFuncI_any (g : Nat) (cb : Array Value) (eg : Enters Tryz.prog g) (pr : Int → Bool) (xs : List Int) (v : Value) (w : World) (hx : IntsAt w v xs) (hp : PredI g cb w pr)
    (R : Ending → World → Prop) (hR : ∀ w', Grow w w' → R (.returned (.int .i64 (idxI pr xs))) w') :
    Calls Tryz.prog 61 #[v, .func (.func g) #[] cb] w R := by
  obtain ⟨a, c, rfl, h1, h2, h3⟩ := hx
  have hm : xs.length ≤ 9223372036854775807 := by omega
  unfold Enters at eg
  go_enter Tryz.func61, Tryz.ntmps61
  go_wp2_with fail
  go_loopw [4, 5, 8] (fun _ _ i wr => ∃ k : Nat, k ≤ xs.length ∧ i = .int .i64 k ∧ Grow w wr ∧ ∀ y ∈ xs.take k, pr y = false) (fun _ _ i _ => xs.length - (intOf i).toNat)
  case atStart => exact ⟨0, Nat.zero_le _, rfl, Grow.refl _, by simp⟩
  case round =>
    obtain ⟨k, hk, rfl, hg, hall⟩ := hrel
    by_cases hlt : k < xs.length
    · replace h3 := h3.resolve_left (by intro h; simp [h] at hlt)
      obtain ⟨b, o, rfl, hb, hc⟩ := h3
      obtain ⟨x, hx⟩ : ∃ x, xs[k]? = some x := ⟨_, List.getElem?_eq_getElem hlt⟩
      have e0 := hg.cell (ints_cell hc k x hx)
      have hz := hg.sz
      clear hc
      have HX := Lib.hid hx
      have HP := Lib.hid hp
      clear hx hp
      by_cases hv : pr x = true
      · rw [findIdx_at hall HX.out hv] at hR
        go_wp2_with fail
        refine HP.out x _ hg _ ?_
        intro w1 hg1
        rw [hv]
        have hg2 := hg.trans hg1
        clear hg hg1
        go_wp2_with fail
        exact hg2
      · replace hv : pr x = false := by simpa using hv
        go_wp2_with fail
        refine HP.out x _ hg _ ?_
        intro w1 hg1
        rw [hv]
        have hg2 := hg.trans hg1
        clear hg hg1
        go_wp2_with fail
        go_roundw
        case rel => exact ⟨k + 1, by omega, by go_num, hg2, take_succ_false hall HX.out hv⟩
        case measure => simp [intOf]; omega
    · rw [idxI_none hall (by omega)] at hR
      go_wp2_with fail
      exact hg

set_option maxHeartbeats 1000000 in
theorem containsFuncI_any (g : Nat) (cb : Array Value) (eg : Enters Tryz.prog g) (pr : Int → Bool) (xs : List Int) (v : Value) (w : World) (hx : IntsAt w v xs) (hp : PredI g cb w pr)
    (R : Ending → World → Prop) (hR : ∀ w', Grow w w' → R (.returned (.bool (xs.any pr))) w') :
    Calls Tryz.prog 49 #[v, .func (.func g) #[] cb] w R := by
  rw [← idxI_ge] at hR
  generalize hi : idxI pr xs = i at hR
  have HI := Lib.hid hi
  clear hi
  go_enter Tryz.func49, Tryz.ntmps49
  go_wp2_with fail
  refine indexFuncI_any g cb eg pr xs v _ hx hp _ ?_
  intro w1 hg1
  rw [HI.out]
  go_wp2_with fail
  exact hg1

theorem validateState1_any (x : Int) (w : World) (R : Ending → World → Prop) (hR : R (.returned (.bool (!inB x (-999) 999))) w) :
    Calls Tryz.prog 149 #[.int .i64 x] w R := by
  go_enter Tryz.func149, Tryz.ntmps149
  go_wp2_with (go_at_call 81; refine (within_any _ _ _ _ _ ?_))
  simpa using hR

theorem any_not (xs : List Int) : (xs.any fun x => !inB x (-999) 999) = !(xs.all fun n => inB n (-999) 999) := by
  rw [List.not_all_eq_any_not]

set_option maxHeartbeats 1000000 in
theorem validateState_any (s : List Int) (v : Value) (w : World) (hs : IntsAt w v s) (R : Ending → World → Prop) (hR : ∀ w', Grow w w' → R (.returned (.int .i64 (valS s))) w') :
    Calls Tryz.prog 132 #[v] w R := by
  have hs' := hs
  obtain ⟨a, c, rfl, h1, h2, h3⟩ := hs'
  clear h3
  by_cases hl : s.length = 4
  · have hV : valS s = errB (s.all fun n => inB n (-999) 999) := by simp [valS, hl]
    rw [hV] at hR
    clear hV
    have hb : ((s.length : Int) == 4) = true := by simp [hl]
    have hb2 : ((s.length : Int) != 4) = false := by simp [hl]
    have HL := Lib.hid hl
    clear hl
    have hp : PredI 149 #[] w (fun x => !inB x (-999) 999) := fun x W _ R hR => validateState1_any x W R (hR W (Grow.refl _))
    have HS := Lib.hid hs
    have HP := Lib.hid hp
    clear hs hp
    go_enter Tryz.func132, Tryz.ntmps132
    cases hq : s.all fun n => inB n (-999) 999
    · rw [hq] at hR
      rw [show errB false = 1 from rfl] at hR
      have HQ := Lib.hid hq
      clear hq
      go_wp2_with fail
      refine containsFuncI_any _ _ (enters_of Tryz.func149 (by kernel_rfl) rfl) _ s _ _ HS.out HP.out _ ?_
      intro w1 hg1
      rw [any_not, HQ.out]
      go_wp2_with fail
      exact hg1
    · rw [hq] at hR
      rw [show errB true = 0 from rfl] at hR
      have HQ := Lib.hid hq
      clear hq
      go_wp2_with fail
      refine containsFuncI_any _ _ (enters_of Tryz.func149 (by kernel_rfl) rfl) _ s _ _ HS.out HP.out _ ?_
      intro w1 hg1
      rw [any_not, HQ.out]
      go_wp2_with fail
      exact hg1
  · have hV : valS s = 1 := by simp [valS, hl]
    rw [hV] at hR
    clear hV
    have hb : ((s.length : Int) == 4) = false := by simp; omega
    have hb2 : ((s.length : Int) != 4) = true := by simp; omega
    go_enter Tryz.func132, Tryz.ntmps132
    go_wp2_with fail
    exact Grow.refl _


end Go.Proofs.YtfbfkkaepgcggaaGreat

namespace Go.Proofs.YtfbfkkaepgcggaaGreat
open Go.RowKit

theorem cwithin_any (n lo hi : Int) (w : World) (R : Ending → World → Prop) (hR : R (.returned (.bool (inB n lo hi))) w) :
    Calls Tryz.prog 133 #[.int .i64 n, .int .i64 lo, .int .i64 hi] w R := by
  by_cases h : lo ≤ n
  · by_cases h2 : n ≤ hi
    · rw [inB_true.2 ⟨h, h2⟩] at hR
      go_enter Tryz.func133, Tryz.ntmps133
      go_wp2
      simpa using hR
    · rw [inB_false.2 (by omega)] at hR
      go_enter Tryz.func133, Tryz.ntmps133
      go_wp2
      simpa using hR
  · rw [inB_false.2 (by omega)] at hR
    go_enter Tryz.func133, Tryz.ntmps133
    go_wp2
    simpa using hR
theorem box3 {w : World} {b : Nat} {c0 c1 c2 : Value} {e : TypeId} (h : w.heap[b]? = some (.cells #[c0, c1, c2] e (0, 0))) : w.cell? ⟨b, 0, none⟩ = some c0 ∧ w.cell? ⟨b, 1, none⟩ = some c1 ∧ w.cell? ⟨b, 2, none⟩ = some c2 := by
  refine ⟨?_, ?_, ?_⟩ <;> (unfold World.cell?; simp only [h]; rfl)
theorem cisRegister_any (n : Int) (w : World) (R : Ending → World → Prop) (hR : R (.returned (.bool (inB n 0 3))) w) :
    Calls Tryz.prog 101 #[.int .i64 n] w R := by
  go_enter Tryz.func101, Tryz.ntmps101
  go_wp2_with (go_at_call 133; refine (cwithin_any _ _ _ _ _ ?_))
  simpa using hR
theorem cisValue_any (n : Int) (w : World) (R : Ending → World → Prop) (hR : R (.returned (.bool (inB n (-999) 999))) w) :
    Calls Tryz.prog 102 #[.int .i64 n] w R := by
  go_enter Tryz.func102, Tryz.ntmps102
  go_wp2_with (go_at_call 133; refine (cwithin_any _ _ _ _ _ ?_))
  simpa using hR
set_option maxHeartbeats 1000000 in
theorem isState_any (s : List Int) (v : Value) (w : World) (hs : IntsAt w v s) (R : Ending → World → Prop) (hR : ∀ w', Grow w w' → R (.returned (.bool (decide (valS s = 0)))) w') :
    Calls Tryz.prog 100 #[v] w R := by
  have HS := Lib.hid hs
  have HR := Lib.hid hR
  obtain ⟨e, he⟩ : ∃ e, valS s = e := ⟨_, rfl⟩
  rw [he] at HR
  have HE := Lib.hid he
  obtain ⟨a, c, rfl, _⟩ := hs
  clear hR he
  have t1 : (e == 0) = decide (e = 0) := by by_cases h : e = 0 <;> simp [h]
  generalize decide (e = 0) = b at HR t1
  go_enter Tryz.func100, Tryz.ntmps100
  go_wp2_with fail
  refine validateState_any s _ _ HS.out _ ?_
  intro w1 hg1
  rw [HE.out]
  have HF := Lib.hid (HR.out w1 hg1)
  clear hg1
  go_wp2_with fail
  exact HF.out

set_option maxRecDepth 100000 in
set_option maxHeartbeats 4000000 in
theorem isTest_any (t : Tst) (w : World) (ht : IntsAt w t.v t.xs) (R : Ending → World → Prop) (hR : ∀ w', Grow w w' → R (.returned (.bool t.ok)) w') :
    Calls Tryz.prog 88 #[.agg #[t.v, .int .i64 t.o, .int .i64 t.wt]] w R := by
  obtain ⟨v, xs, o, wt⟩ := t
  have HT := Lib.hid ht
  dsimp only at ht ⊢
  have hok : Tst.ok ⟨v, xs, o, wt⟩ = (decide (valS xs = 0) && inB o 0 3 && inB wt (-999) 999) := rfl
  rw [hok] at hR
  have HR := Lib.hid hR
  clear hR hok
  obtain ⟨a, c, rfl, _⟩ := ht
  obtain ⟨b0, h0⟩ : ∃ b, decide (valS xs = 0) = b := ⟨_, rfl⟩
  obtain ⟨b1, h1⟩ : ∃ b, inB o 0 3 = b := ⟨_, rfl⟩
  obtain ⟨b2, h2⟩ : ∃ b, inB wt (-999) 999 = b := ⟨_, rfl⟩
  rw [h0, h1, h2] at HR
  have H0 := Lib.hid h0
  have H1 := Lib.hid h1
  have H2 := Lib.hid h2
  clear h0 h1 h2
  cases b0 with
  | false =>
    go_enter Tryz.func88, Tryz.ntmps88
    go_wp2_with fail
    have hb := heap_alloc_new w (.cells #[.slice a xs.length c, .int .i64 o, .int .i64 wt] 56)
    have hg := (Grow.refl w).alloc (.cells #[.slice a xs.length c, .int .i64 o, .int .i64 wt] 56)
    generalize w.alloc (.cells #[.slice a xs.length c, .int .i64 o, .int .i64 wt] 56) = W at hb hg ⊢
    refine isState_any xs _ _ (HT.out.grow hg) _ ?_
    intro w1 hg1
    rw [H0.out]
    have hb1 := hg1.blk hb
    obtain ⟨c0, c1, c2⟩ := box3 hb1
    have hz := lt_of_block hb1
    have HF := Lib.hid (HR.out w1 (hg.trans hg1))
    clear hb hg hg1 hb1
    go_wp2_with fail
    exact HF.out
  | true =>
    cases b1 with
    | false =>
      go_enter Tryz.func88, Tryz.ntmps88
      go_wp2_with fail
      have hb := heap_alloc_new w (.cells #[.slice a xs.length c, .int .i64 o, .int .i64 wt] 56)
      have hg := (Grow.refl w).alloc (.cells #[.slice a xs.length c, .int .i64 o, .int .i64 wt] 56)
      generalize w.alloc (.cells #[.slice a xs.length c, .int .i64 o, .int .i64 wt] 56) = W at hb hg ⊢
      refine isState_any xs _ _ (HT.out.grow hg) _ ?_
      intro w1 hg1
      rw [H0.out]
      have hb1 := hg1.blk hb
      obtain ⟨c0, c1, c2⟩ := box3 hb1
      have hz := lt_of_block hb1
      have HF := Lib.hid (HR.out w1 (hg.trans hg1))
      clear hb hg hg1 hb1
      go_wp2_with fail
      refine cisRegister_any _ _ _ ?_
      rw [H1.out]
      go_wp2_with fail
      exact HF.out
    | true =>
      go_enter Tryz.func88, Tryz.ntmps88
      go_wp2_with fail
      have hb := heap_alloc_new w (.cells #[.slice a xs.length c, .int .i64 o, .int .i64 wt] 56)
      have hg := (Grow.refl w).alloc (.cells #[.slice a xs.length c, .int .i64 o, .int .i64 wt] 56)
      generalize w.alloc (.cells #[.slice a xs.length c, .int .i64 o, .int .i64 wt] 56) = W at hb hg ⊢
      refine isState_any xs _ _ (HT.out.grow hg) _ ?_
      intro w1 hg1
      rw [H0.out]
      have hb1 := hg1.blk hb
      obtain ⟨c0, c1, c2⟩ := box3 hb1
      have hz := lt_of_block hb1
      have HF := Lib.hid (HR.out w1 (hg.trans hg1))
      clear hb hg hg1 hb1
      go_wp2_with fail
      refine cisRegister_any _ _ _ ?_
      rw [H1.out]
      go_wp2_with fail
      refine cisValue_any _ _ _ ?_
      rw [H2.out]
      go_wp2_with fail
      exact HF.out

/-- A predicate on tests that a function with captured values answers. -/
def PredT (g : Nat) (cb : Array Value) (w : World) (ts : List Tst) (pr : Tst → Bool) : Prop :=
  ∀ t, t ∈ ts → ∀ W, Grow w W → ∀ R : Ending → World → Prop, (∀ W', Grow W W' → R (.returned (.bool (pr t))) W') → Calls Tryz.prog g (#[.agg #[t.v, .int .i64 t.o, .int .i64 t.wt]] ++ cb) W R
theorem any_at {α : Type} {pr : α → Bool} {xs : List α} {k : Nat} {x : α} (hx : xs[k]? = some x) (hp : pr x = true) : xs.any pr = true := List.any_eq_true.2 ⟨x, List.mem_of_getElem? hx, hp⟩
theorem any_none {α : Type} {pr : α → Bool} {xs : List α} {k : Nat} (h : ∀ y ∈ xs.take k, pr y = false) (hk : xs.length ≤ k) : xs.any pr = false := by
  rw [List.take_of_length_le hk] at h
  exact List.any_eq_false.2 fun x hx => by rw [h x hx]; decide
theorem take_succ_false' {α : Type} {pr : α → Bool} {xs : List α} {k : Nat} {x : α} (h : ∀ y ∈ xs.take k, pr y = false) (hx : xs[k]? = some x) (hp : pr x = false) : ∀ y ∈ xs.take (k + 1), pr y = false := by
  intro y hy
  rw [List.take_add_one, hx] at hy
  rcases List.mem_append.1 hy with hy | hy
  · exact h y hy
  · simp at hy; subst hy; exact hp

set_option maxHeartbeats 2000000 in
theorem indexFuncT_any (g : Nat) (cb : Array Value) (eg : Enters Tryz.prog g) (pr : Tst → Bool) (ts : List Tst) (v : Value) (w : World) (hx : SlcAt 3 encTs w v ts) (hp : PredT g cb w ts pr)
    (R : Ending → World → Prop) (hR1 : ∀ w' (k : Nat), Grow w w' → ts.any pr = true → R (.returned (.int .i64 k)) w') (hR2 : ∀ w', Grow w w' → ts.any pr = false → R (.returned (.int .i64 (-1))) w') :
    Calls Tryz.prog 99 #[v, .func (.func g) #[] cb] w R := by
  have HX := Lib.hid hx
  obtain ⟨a, c, rfl, h1, h2, _⟩ := hx
  have hm : ts.length ≤ 9223372036854775807 := by omega
  have HR1 := Lib.hid hR1
  have HR2 := Lib.hid hR2
  have HP := Lib.hid hp
  unfold Enters at eg
  clear hR1 hR2 hp
  go_enter Tryz.func99, Tryz.ntmps99
  go_wp2_with fail
  go_loopw [4, 5, 8] (fun _ _ i wr => ∃ k : Nat, k ≤ ts.length ∧ i = .int .i64 k ∧ Grow w wr ∧ ∀ y ∈ ts.take k, pr y = false) (fun _ _ i _ => ts.length - (intOf i).toNat)
  case atStart => exact ⟨0, Nat.zero_le _, rfl, Grow.refl _, by simp⟩
  case round =>
    obtain ⟨k, hk, rfl, hg, hall⟩ := hrel
    have HALL := Lib.hid hall
    have HG := Lib.hid hg
    clear hall hg
    by_cases hlt : k < ts.length
    · obtain ⟨t, ht⟩ : ∃ x, ts[k]? = some x := ⟨_, List.getElem?_eq_getElem hlt⟩
      obtain ⟨b, o, rfl, hb, e0, e1, e2⟩ := tests_at (HX.out.grow HG.out) ht
      have HT := Lib.hid ht
      have HMEM := Lib.hid (List.mem_of_getElem? ht)
      clear ht
      by_cases hv : pr t = true
      · have HA := Lib.hid (any_at HT.out hv)
        have HV := Lib.hid hv
        clear hv
        go_wp2_with fail
        refine HP.out t HMEM.out _ HG.out _ ?_
        intro w1 hg1
        rw [HV.out]
        have HF := Lib.hid (HR1.out w1 k (HG.out.trans hg1) HA.out)
        clear hg1
        go_wp2_with fail
        exact HF.out
      · replace hv : pr t = false := by simpa using hv
        have HV := Lib.hid hv
        clear hv
        go_wp2_with fail
        refine HP.out t HMEM.out _ HG.out _ ?_
        intro w1 hg1
        rw [HV.out]
        have HG2 := Lib.hid (HG.out.trans hg1)
        clear hg1
        go_wp2_with fail
        go_roundw
        case rel => exact ⟨k + 1, by omega, by go_num, HG2.out, take_succ_false' HALL.out HT.out HV.out⟩
        case measure => simp [intOf]; omega
    · have HF := Lib.hid (HR2.out _ HG.out (any_none HALL.out (by omega)))
      go_wp2_with fail
      exact HF.out

set_option maxHeartbeats 1000000 in
theorem containsFuncT_any (g : Nat) (cb : Array Value) (eg : Enters Tryz.prog g) (pr : Tst → Bool) (ts : List Tst) (v : Value) (w : World) (hx : SlcAt 3 encTs w v ts) (hp : PredT g cb w ts pr)
    (R : Ending → World → Prop) (hR : ∀ w', Grow w w' → R (.returned (.bool (ts.any pr))) w') :
    Calls Tryz.prog 86 #[v, .func (.func g) #[] cb] w R := by
  have HR := Lib.hid hR
  clear hR
  go_enter Tryz.func86, Tryz.ntmps86
  go_wp2_with fail
  refine indexFuncT_any g cb eg pr ts v _ hx hp _ ?_ ?_
  · intro w1 k hg1 h
    have HF := Lib.hid (HR.out w1 hg1)
    rw [h] at HF
    have hk : (k : Int) ≥ 0 := by omega
    clear h hg1
    go_wp2_with fail
    exact HF.out
  · intro w1 hg1 h
    have HF := Lib.hid (HR.out w1 hg1)
    rw [h] at HF
    clear h hg1
    go_wp2_with fail
    exact HF.out

set_option maxHeartbeats 1000000 in
theorem testF_any (t : Tst) (w : World) (ht : IntsAt w t.v t.xs) (R : Ending → World → Prop) (hR : ∀ w', Grow w w' → R (.returned (.bool (!t.ok))) w') :
    Calls Tryz.prog 87 #[.agg #[t.v, .int .i64 t.o, .int .i64 t.wt]] w R := by
  have HT := Lib.hid ht
  have HR := Lib.hid hR
  obtain ⟨b, hb⟩ : ∃ b, t.ok = b := ⟨_, rfl⟩
  rw [hb] at HR
  have HB := Lib.hid hb
  clear hb hR
  obtain ⟨a, c, hv, _⟩ := ht
  obtain ⟨v, xs, o, wt⟩ := t
  dsimp only at hv
  subst hv
  dsimp only at HT ⊢
  go_enter Tryz.func87, Tryz.ntmps87
  go_wp2_with fail
  have hg := (Grow.refl w).alloc (.cells #[.slice a xs.length c, .int .i64 o, .int .i64 wt] 56)
  generalize w.alloc (.cells #[.slice a xs.length c, .int .i64 o, .int .i64 wt] 56) = W at hg ⊢
  refine isTest_any ⟨.slice a xs.length c, xs, o, wt⟩ _ (HT.out.grow hg) _ ?_
  intro w1 hg1
  rw [HB.out]
  have HF := Lib.hid (HR.out w1 (hg.trans hg1))
  clear hg hg1
  cases b <;> (go_wp2_with fail; exact HF.out)

theorem any_not_ok (ts : List Tst) : (ts.any fun t => !t.ok) = !(ts.all Tst.ok) := by
  rw [List.not_all_eq_any_not]
set_option maxHeartbeats 1000000 in
theorem validateTests_any (ts : List Tst) (v : Value) (w : World) (hx : TestsAt w v ts) (R : Ending → World → Prop) (hR : ∀ w', Grow w w' → R (.returned (.int .i64 (valT ts))) w') :
    Calls Tryz.prog 70 #[v] w R := by
  have HX := Lib.hid hx
  have HR := Lib.hid hR
  obtain ⟨⟨a, c, rfl, h1, h2, _⟩, _⟩ := hx
  clear hR
  by_cases hl : 8 < ts.length
  · have hv : valT ts = 3 := by unfold valT; rw [if_pos hl]
    rw [hv] at HR
    have hl2 : (ts.length : Int) > 8 := by omega
    go_enter Tryz.func70, Tryz.ntmps70
    go_wp2_with fail
    exact HR.out _ (Grow.refl _)
  · have hv : valT ts = errB (ts.all Tst.ok) := by unfold valT; rw [if_neg hl]
    rw [hv] at HR
    clear hv
    have hl2 : ¬ (ts.length : Int) > 8 := by omega
    have hpred : PredT 87 #[] w ts (fun t => !t.ok) := fun t ht W hg R hR => testF_any t W ((HX.out.ins t ht).grow hg) R hR
    have HPR := Lib.hid hpred
    have HAN := Lib.hid (any_not_ok ts)
    clear hpred
    generalize ts.all Tst.ok = b at HR HAN
    have eg : Enters Tryz.prog 87 := enters_of Tryz.func87 (by kernel_rfl) rfl
    go_enter Tryz.func70, Tryz.ntmps70
    go_wp2_with fail
    refine containsFuncT_any 87 #[] eg (fun t => !t.ok) ts _ _ HX.out.at_ HPR.out _ ?_
    intro w1 hg1
    rw [HAN.out]
    have HF := Lib.hid (HR.out w1 hg1)
    clear hg1
    cases b with
    | true =>
      rw [errB_true] at HF
      go_wp2_with fail
      exact HF.out
    | false =>
      rw [errB_false] at HF
      go_wp2_with fail
      exact HF.out
end Go.Proofs.YtfbfkkaepgcggaaGreat
