/-
The walks of package code: what is valid.
The walks of package code: which programs and states are valid.
The walks of the document's answer to layer 1: what is valid (for the seats that reach no more of it).
-/
import Derived.Test.YtbccbokjecdaaaaGreatB00
import Derived.Test.YtbccbokjecdaaaaGreatRows
namespace Go.Proofs.YtbccbokjecdaaaaGreat
open Go.RowKit

theorem within_any (n lo hi : Int) (w : World) (R : Ending → World → Prop) (hR : R (.returned (.bool (inB n lo hi))) w) :
    Calls Tryz.prog 128 #[.int .i64 n, .int .i64 lo, .int .i64 hi] w R := by
  by_cases h : lo ≤ n
  · by_cases h2 : n ≤ hi
    · rw [inB_true.2 ⟨h, h2⟩] at hR
      go_enter Tryz.func128, Tryz.ntmps128
      go_wp2
      simpa using hR
    · rw [inB_false.2 (by omega)] at hR
      go_enter Tryz.func128, Tryz.ntmps128
      go_wp2
      simpa using hR
  · rw [inB_false.2 (by omega)] at hR
    go_enter Tryz.func128, Tryz.ntmps128
    go_wp2
    simpa using hR

theorem isRegister_any (n : Int) (w : World) (R : Ending → World → Prop) (hR : R (.returned (.bool (inB n 0 3))) w) :
    Calls Tryz.prog 127 #[.int .i64 n] w R := by
  go_enter Tryz.func127, Tryz.ntmps127
  go_wp2_with (go_at_call 128; refine (within_any _ _ _ _ _ ?_))
  simpa using hR

set_option maxHeartbeats 1000000 in
theorem validateLine_0 (d a b : Int) (w : World) (R : Ending → World → Prop) (hR : ∀ w', Grow w w' → R (.returned (.int .i64 (errB (vL 0 d a b)))) w') :
    Calls Tryz.prog 91 #[.agg #[.int .i64 0, .int .i64 d, .int .i64 a, .int .i64 b]] w R := by
  by_cases c0 : d = 0
  rotate_left
  · rw [show errB (vL 0 d a b) = 1 by simp [vL, errB, c0]] at hR
    go_enter Tryz.func91, Tryz.ntmps91
    go_wp2_with (first | (go_at_call 127; refine isRegister_any _ _ _ ?_) | (go_at_call 128; refine within_any _ _ _ _ _ ?_))
    exact (Grow.refl _).alloc _
  subst c0
  by_cases c1 : a = 0
  rotate_left
  · rw [show errB (vL 0 0 a b) = 1 by simp [vL, errB, c1]] at hR
    go_enter Tryz.func91, Tryz.ntmps91
    go_wp2_with (first | (go_at_call 127; refine isRegister_any _ _ _ ?_) | (go_at_call 128; refine within_any _ _ _ _ _ ?_))
    exact (Grow.refl _).alloc _
  subst c1
  by_cases c2 : b = 0
  rotate_left
  · rw [show errB (vL 0 0 0 b) = 1 by simp [vL, errB, c2]] at hR
    go_enter Tryz.func91, Tryz.ntmps91
    go_wp2_with (first | (go_at_call 127; refine isRegister_any _ _ _ ?_) | (go_at_call 128; refine within_any _ _ _ _ _ ?_))
    exact (Grow.refl _).alloc _
  subst c2
  rw [show errB (vL 0 0 0 0) = 0 by simp [vL, errB]] at hR
  go_enter Tryz.func91, Tryz.ntmps91
  go_wp2_with (first | (go_at_call 127; refine isRegister_any _ _ _ ?_) | (go_at_call 128; refine within_any _ _ _ _ _ ?_))
  exact (Grow.refl _).alloc _

set_option maxHeartbeats 1000000 in
theorem validateLine_1 (d a b : Int) (w : World) (R : Ending → World → Prop) (hR : ∀ w', Grow w w' → R (.returned (.int .i64 (errB (vL 1 d a b)))) w') :
    Calls Tryz.prog 91 #[.agg #[.int .i64 1, .int .i64 d, .int .i64 a, .int .i64 b]] w R := by
  by_cases c0 : inB d 0 3 = true
  rotate_left
  · rw [show errB (vL 1 d a b) = 1 by simp [vL, errB, c0]] at hR
    replace c0 : inB d 0 3 = false := by simpa using c0
    go_enter Tryz.func91, Tryz.ntmps91
    go_wp2_with (first | (go_at_call 127; refine isRegister_any _ _ _ ?_) | (go_at_call 128; refine within_any _ _ _ _ _ ?_))
    exact (Grow.refl _).alloc _
  by_cases c1 : inB a (-9) 9 = true
  rotate_left
  · rw [show errB (vL 1 d a b) = 1 by simp [vL, errB, c1]] at hR
    replace c1 : inB a (-9) 9 = false := by simpa using c1
    go_enter Tryz.func91, Tryz.ntmps91
    go_wp2_with (first | (go_at_call 127; refine isRegister_any _ _ _ ?_) | (go_at_call 128; refine within_any _ _ _ _ _ ?_))
    exact (Grow.refl _).alloc _
  by_cases c2 : b = 0
  rotate_left
  · rw [show errB (vL 1 d a b) = 1 by simp [vL, errB, c2]] at hR
    have _d : (b == 0) = false := by simpa using c2
    go_enter Tryz.func91, Tryz.ntmps91
    go_wp2_with (first | (go_at_call 127; refine isRegister_any _ _ _ ?_) | (go_at_call 128; refine within_any _ _ _ _ _ ?_))
    exact (Grow.refl _).alloc _
  subst c2
  rw [show errB (vL 1 d a 0) = 0 by simp [vL, errB, c0, c1]] at hR
  go_enter Tryz.func91, Tryz.ntmps91
  go_wp2_with (first | (go_at_call 127; refine isRegister_any _ _ _ ?_) | (go_at_call 128; refine within_any _ _ _ _ _ ?_))
  exact (Grow.refl _).alloc _

set_option maxHeartbeats 1000000 in
theorem validateLine_2 (d a b : Int) (w : World) (R : Ending → World → Prop) (hR : ∀ w', Grow w w' → R (.returned (.int .i64 (errB (vL 2 d a b)))) w') :
    Calls Tryz.prog 91 #[.agg #[.int .i64 2, .int .i64 d, .int .i64 a, .int .i64 b]] w R := by
  by_cases c0 : inB d 0 3 = true
  rotate_left
  · rw [show errB (vL 2 d a b) = 1 by simp [vL, errB, c0]] at hR
    replace c0 : inB d 0 3 = false := by simpa using c0
    go_enter Tryz.func91, Tryz.ntmps91
    go_wp2_with (first | (go_at_call 127; refine isRegister_any _ _ _ ?_) | (go_at_call 128; refine within_any _ _ _ _ _ ?_))
    exact (Grow.refl _).alloc _
  by_cases c1 : inB a 0 3 = true
  rotate_left
  · rw [show errB (vL 2 d a b) = 1 by simp [vL, errB, c1]] at hR
    replace c1 : inB a 0 3 = false := by simpa using c1
    go_enter Tryz.func91, Tryz.ntmps91
    go_wp2_with (first | (go_at_call 127; refine isRegister_any _ _ _ ?_) | (go_at_call 128; refine within_any _ _ _ _ _ ?_))
    exact (Grow.refl _).alloc _
  by_cases c2 : b = 0
  rotate_left
  · rw [show errB (vL 2 d a b) = 1 by simp [vL, errB, c2]] at hR
    have _d : (b == 0) = false := by simpa using c2
    go_enter Tryz.func91, Tryz.ntmps91
    go_wp2_with (first | (go_at_call 127; refine isRegister_any _ _ _ ?_) | (go_at_call 128; refine within_any _ _ _ _ _ ?_))
    exact (Grow.refl _).alloc _
  subst c2
  rw [show errB (vL 2 d a 0) = 0 by simp [vL, errB, c0, c1]] at hR
  go_enter Tryz.func91, Tryz.ntmps91
  go_wp2_with (first | (go_at_call 127; refine isRegister_any _ _ _ ?_) | (go_at_call 128; refine within_any _ _ _ _ _ ?_))
  exact (Grow.refl _).alloc _

set_option maxHeartbeats 1000000 in
theorem validateLine_3 (d a b : Int) (w : World) (R : Ending → World → Prop) (hR : ∀ w', Grow w w' → R (.returned (.int .i64 (errB (vL 3 d a b)))) w') :
    Calls Tryz.prog 91 #[.agg #[.int .i64 3, .int .i64 d, .int .i64 a, .int .i64 b]] w R := by
  by_cases c0 : inB d 0 3 = true
  rotate_left
  · rw [show errB (vL 3 d a b) = 1 by simp [vL, errB, c0]] at hR
    replace c0 : inB d 0 3 = false := by simpa using c0
    go_enter Tryz.func91, Tryz.ntmps91
    go_wp2_with (first | (go_at_call 127; refine isRegister_any _ _ _ ?_) | (go_at_call 128; refine within_any _ _ _ _ _ ?_))
    exact (Grow.refl _).alloc _
  by_cases c1 : inB a 0 3 = true
  rotate_left
  · rw [show errB (vL 3 d a b) = 1 by simp [vL, errB, c1]] at hR
    replace c1 : inB a 0 3 = false := by simpa using c1
    go_enter Tryz.func91, Tryz.ntmps91
    go_wp2_with (first | (go_at_call 127; refine isRegister_any _ _ _ ?_) | (go_at_call 128; refine within_any _ _ _ _ _ ?_))
    exact (Grow.refl _).alloc _
  by_cases c2 : inB b 0 3 = true
  rotate_left
  · rw [show errB (vL 3 d a b) = 1 by simp [vL, errB, c2]] at hR
    replace c2 : inB b 0 3 = false := by simpa using c2
    go_enter Tryz.func91, Tryz.ntmps91
    go_wp2_with (first | (go_at_call 127; refine isRegister_any _ _ _ ?_) | (go_at_call 128; refine within_any _ _ _ _ _ ?_))
    exact (Grow.refl _).alloc _
  rw [show errB (vL 3 d a b) = 0 by simp [vL, errB, c0, c1, c2]] at hR
  go_enter Tryz.func91, Tryz.ntmps91
  go_wp2_with (first | (go_at_call 127; refine isRegister_any _ _ _ ?_) | (go_at_call 128; refine within_any _ _ _ _ _ ?_))
  exact (Grow.refl _).alloc _

set_option maxHeartbeats 1000000 in
theorem validateLine_4 (d a b : Int) (w : World) (R : Ending → World → Prop) (hR : ∀ w', Grow w w' → R (.returned (.int .i64 (errB (vL 4 d a b)))) w') :
    Calls Tryz.prog 91 #[.agg #[.int .i64 4, .int .i64 d, .int .i64 a, .int .i64 b]] w R := by
  by_cases c0 : inB d 0 3 = true
  rotate_left
  · rw [show errB (vL 4 d a b) = 1 by simp [vL, errB, c0]] at hR
    replace c0 : inB d 0 3 = false := by simpa using c0
    go_enter Tryz.func91, Tryz.ntmps91
    go_wp2_with (first | (go_at_call 127; refine isRegister_any _ _ _ ?_) | (go_at_call 128; refine within_any _ _ _ _ _ ?_))
    exact (Grow.refl _).alloc _
  by_cases c1 : inB a 0 3 = true
  rotate_left
  · rw [show errB (vL 4 d a b) = 1 by simp [vL, errB, c1]] at hR
    replace c1 : inB a 0 3 = false := by simpa using c1
    go_enter Tryz.func91, Tryz.ntmps91
    go_wp2_with (first | (go_at_call 127; refine isRegister_any _ _ _ ?_) | (go_at_call 128; refine within_any _ _ _ _ _ ?_))
    exact (Grow.refl _).alloc _
  by_cases c2 : inB b 0 3 = true
  rotate_left
  · rw [show errB (vL 4 d a b) = 1 by simp [vL, errB, c2]] at hR
    replace c2 : inB b 0 3 = false := by simpa using c2
    go_enter Tryz.func91, Tryz.ntmps91
    go_wp2_with (first | (go_at_call 127; refine isRegister_any _ _ _ ?_) | (go_at_call 128; refine within_any _ _ _ _ _ ?_))
    exact (Grow.refl _).alloc _
  rw [show errB (vL 4 d a b) = 0 by simp [vL, errB, c0, c1, c2]] at hR
  go_enter Tryz.func91, Tryz.ntmps91
  go_wp2_with (first | (go_at_call 127; refine isRegister_any _ _ _ ?_) | (go_at_call 128; refine within_any _ _ _ _ _ ?_))
  exact (Grow.refl _).alloc _

set_option maxHeartbeats 1000000 in
theorem validateLine_5 (d a b : Int) (w : World) (R : Ending → World → Prop) (hR : ∀ w', Grow w w' → R (.returned (.int .i64 (errB (vL 5 d a b)))) w') :
    Calls Tryz.prog 91 #[.agg #[.int .i64 5, .int .i64 d, .int .i64 a, .int .i64 b]] w R := by
  by_cases c0 : inB d 0 3 = true
  rotate_left
  · rw [show errB (vL 5 d a b) = 1 by simp [vL, errB, c0]] at hR
    replace c0 : inB d 0 3 = false := by simpa using c0
    go_enter Tryz.func91, Tryz.ntmps91
    go_wp2_with (first | (go_at_call 127; refine isRegister_any _ _ _ ?_) | (go_at_call 128; refine within_any _ _ _ _ _ ?_))
    exact (Grow.refl _).alloc _
  by_cases c1 : inB a 0 3 = true
  rotate_left
  · rw [show errB (vL 5 d a b) = 1 by simp [vL, errB, c1]] at hR
    replace c1 : inB a 0 3 = false := by simpa using c1
    go_enter Tryz.func91, Tryz.ntmps91
    go_wp2_with (first | (go_at_call 127; refine isRegister_any _ _ _ ?_) | (go_at_call 128; refine within_any _ _ _ _ _ ?_))
    exact (Grow.refl _).alloc _
  by_cases c2 : inB b 0 3 = true
  rotate_left
  · rw [show errB (vL 5 d a b) = 1 by simp [vL, errB, c2]] at hR
    replace c2 : inB b 0 3 = false := by simpa using c2
    go_enter Tryz.func91, Tryz.ntmps91
    go_wp2_with (first | (go_at_call 127; refine isRegister_any _ _ _ ?_) | (go_at_call 128; refine within_any _ _ _ _ _ ?_))
    exact (Grow.refl _).alloc _
  rw [show errB (vL 5 d a b) = 0 by simp [vL, errB, c0, c1, c2]] at hR
  go_enter Tryz.func91, Tryz.ntmps91
  go_wp2_with (first | (go_at_call 127; refine isRegister_any _ _ _ ?_) | (go_at_call 128; refine within_any _ _ _ _ _ ?_))
  exact (Grow.refl _).alloc _

set_option maxHeartbeats 1000000 in
theorem validateLine_6 (d a b : Int) (w : World) (R : Ending → World → Prop) (hR : ∀ w', Grow w w' → R (.returned (.int .i64 (errB (vL 6 d a b)))) w') :
    Calls Tryz.prog 91 #[.agg #[.int .i64 6, .int .i64 d, .int .i64 a, .int .i64 b]] w R := by
  by_cases c0 : inB d 0 3 = true
  rotate_left
  · rw [show errB (vL 6 d a b) = 1 by simp [vL, errB, c0]] at hR
    replace c0 : inB d 0 3 = false := by simpa using c0
    go_enter Tryz.func91, Tryz.ntmps91
    go_wp2_with (first | (go_at_call 127; refine isRegister_any _ _ _ ?_) | (go_at_call 128; refine within_any _ _ _ _ _ ?_))
    exact (Grow.refl _).alloc _
  by_cases c1 : inB a 0 3 = true
  rotate_left
  · rw [show errB (vL 6 d a b) = 1 by simp [vL, errB, c1]] at hR
    replace c1 : inB a 0 3 = false := by simpa using c1
    go_enter Tryz.func91, Tryz.ntmps91
    go_wp2_with (first | (go_at_call 127; refine isRegister_any _ _ _ ?_) | (go_at_call 128; refine within_any _ _ _ _ _ ?_))
    exact (Grow.refl _).alloc _
  by_cases c2 : inB b 0 3 = true
  rotate_left
  · rw [show errB (vL 6 d a b) = 1 by simp [vL, errB, c2]] at hR
    replace c2 : inB b 0 3 = false := by simpa using c2
    go_enter Tryz.func91, Tryz.ntmps91
    go_wp2_with (first | (go_at_call 127; refine isRegister_any _ _ _ ?_) | (go_at_call 128; refine within_any _ _ _ _ _ ?_))
    exact (Grow.refl _).alloc _
  rw [show errB (vL 6 d a b) = 0 by simp [vL, errB, c0, c1, c2]] at hR
  go_enter Tryz.func91, Tryz.ntmps91
  go_wp2_with (first | (go_at_call 127; refine isRegister_any _ _ _ ?_) | (go_at_call 128; refine within_any _ _ _ _ _ ?_))
  exact (Grow.refl _).alloc _

set_option maxHeartbeats 1000000 in
theorem validateLine_7 (d a b : Int) (w : World) (R : Ending → World → Prop) (hR : ∀ w', Grow w w' → R (.returned (.int .i64 (errB (vL 7 d a b)))) w') :
    Calls Tryz.prog 91 #[.agg #[.int .i64 7, .int .i64 d, .int .i64 a, .int .i64 b]] w R := by
  by_cases c0 : inB d 1 8 = true
  rotate_left
  · rw [show errB (vL 7 d a b) = 1 by simp [vL, errB, c0]] at hR
    replace c0 : inB d 1 8 = false := by simpa using c0
    go_enter Tryz.func91, Tryz.ntmps91
    go_wp2_with (first | (go_at_call 127; refine isRegister_any _ _ _ ?_) | (go_at_call 128; refine within_any _ _ _ _ _ ?_))
    exact (Grow.refl _).alloc _
  by_cases c1 : inB a 0 3 = true
  rotate_left
  · rw [show errB (vL 7 d a b) = 1 by simp [vL, errB, c1]] at hR
    replace c1 : inB a 0 3 = false := by simpa using c1
    go_enter Tryz.func91, Tryz.ntmps91
    go_wp2_with (first | (go_at_call 127; refine isRegister_any _ _ _ ?_) | (go_at_call 128; refine within_any _ _ _ _ _ ?_))
    exact (Grow.refl _).alloc _
  by_cases c2 : inB b 0 3 = true
  rotate_left
  · rw [show errB (vL 7 d a b) = 1 by simp [vL, errB, c2]] at hR
    replace c2 : inB b 0 3 = false := by simpa using c2
    go_enter Tryz.func91, Tryz.ntmps91
    go_wp2_with (first | (go_at_call 127; refine isRegister_any _ _ _ ?_) | (go_at_call 128; refine within_any _ _ _ _ _ ?_))
    exact (Grow.refl _).alloc _
  rw [show errB (vL 7 d a b) = 0 by simp [vL, errB, c0, c1, c2]] at hR
  go_enter Tryz.func91, Tryz.ntmps91
  go_wp2_with (first | (go_at_call 127; refine isRegister_any _ _ _ ?_) | (go_at_call 128; refine within_any _ _ _ _ _ ?_))
  exact (Grow.refl _).alloc _

set_option maxHeartbeats 1000000 in
theorem validateLine_any (op d a b : Int) (w : World) (R : Ending → World → Prop) (hR : ∀ w', Grow w w' → R (.returned (.int .i64 (errB (vL op d a b)))) w') :
    Calls Tryz.prog 91 #[.agg #[.int .i64 op, .int .i64 d, .int .i64 a, .int .i64 b]] w R := by
  by_cases h0 : op = 0
  · subst h0; exact validateLine_0 d a b w R hR
  by_cases h1 : op = 1
  · subst h1; exact validateLine_1 d a b w R hR
  by_cases h2 : op = 2
  · subst h2; exact validateLine_2 d a b w R hR
  by_cases h3 : op = 3
  · subst h3; exact validateLine_3 d a b w R hR
  by_cases h4 : op = 4
  · subst h4; exact validateLine_4 d a b w R hR
  by_cases h5 : op = 5
  · subst h5; exact validateLine_5 d a b w R hR
  by_cases h6 : op = 6
  · subst h6; exact validateLine_6 d a b w R hR
  by_cases h7 : op = 7
  · subst h7; exact validateLine_7 d a b w R hR
  rw [show errB (vL op d a b) = 1 by simp [vL, errB, h0, h1, h2, h3, h4, h5, h6, h7]] at hR
  go_enter Tryz.func91, Tryz.ntmps91
  go_wp2_with fail
  exact (Grow.refl _).alloc _

end Go.Proofs.YtbccbokjecdaaaaGreat

namespace Go.Proofs.YtbccbokjecdaaaaGreat
open Go.RowKit

theorem all_take_succ {α : Type} {p : List α} {f : α → Bool} {k : Nat} {x : α} (h : ∀ l ∈ p.take k, f l = true) (hx : p[k]? = some x) (hf : f x = true) : ∀ l ∈ p.take (k + 1), f l = true := by
  intro l hl
  rw [List.take_add_one, hx] at hl
  rcases List.mem_append.1 hl with hl | hl
  · exact h l hl
  · simp at hl; subst hl; exact hf
theorem all_false_at {α : Type} {p : List α} {f : α → Bool} {k : Nat} {x : α} (hx : p[k]? = some x) (hf : f x = false) : p.all f = false := by
  rw [← Bool.not_eq_true]
  intro h
  have := List.all_eq_true.1 h x (List.mem_of_getElem? hx)
  rw [this] at hf; cases hf
theorem all_of_take {α : Type} {p : List α} {f : α → Bool} {k : Nat} (h : ∀ l ∈ p.take k, f l = true) (hk : p.length ≤ k) : p.all f = true := by
  rw [List.take_of_length_le hk] at h
  exact List.all_eq_true.2 h

set_option maxHeartbeats 1000000 in
theorem validate_any (p : List Ln) (v : Value) (w : World) (hp : LinesAt w v p) (R : Ending → World → Prop) (hR : ∀ w', Grow w w' → R (.returned (.int .i64 (valP p))) w') :
    Calls Tryz.prog 53 #[v] w R := by
  obtain ⟨a, c, rfl, h1, h2, h3⟩ := hp
  by_cases hl : 8 < p.length
  · rw [show valP p = 3 by simp [valP, hl]] at hR
    go_enter Tryz.func53, Tryz.ntmps53
    go_wp2_with fail
    exact Grow.refl _
  · have hV : valP p = errB (p.all Ln.ok) := by simp [valP, hl]
    rw [hV] at hR
    clear hV
    have hm : p.length ≤ 9223372036854775807 := by omega
    go_enter Tryz.func53, Tryz.ntmps53
    go_wp2_with fail
    go_loopw [2, 4, 5, 11] (fun _ _ _ i wr => ∃ k : Nat, k ≤ p.length ∧ i = .int .i64 k ∧ Grow w wr ∧ ∀ l ∈ p.take k, Ln.ok l = true) (fun _ _ _ i _ => p.length - (intOf i).toNat)
    case atStart => exact ⟨0, Nat.zero_le _, rfl, Grow.refl _, by simp⟩
    case round =>
      obtain ⟨k, hk, rfl, hg, hall⟩ := hrel
      by_cases hlt : k < p.length
      · replace h3 := h3.resolve_left (by intro h; simp [h] at hlt)
        obtain ⟨b, o, rfl, hb, hc⟩ := h3
        obtain ⟨⟨op, d, x, y⟩, hx⟩ : ∃ l, p[k]? = some l := ⟨_, List.getElem?_eq_getElem hlt⟩
        obtain ⟨c0, c1, c2, c3⟩ := lines_cell hc k op d x y hx
        have e0 := hg.cell c0
        have e1 := hg.cell c1
        have e2 := hg.cell c2
        have e3 := hg.cell c3
        have hz := hg.sz
        clear hc c0 c1 c2 c3
        have HX := Lib.hid hx
        clear hx
        by_cases hv : vL op d x y = true
        · have he : errB (vL op d x y) = 0 := by rw [hv]; rfl
          have HE := Lib.hid he
          clear he
          go_wp2_with fail
          refine validateLine_any _ _ _ _ _ _ ?_
          intro w1 hg1
          rw [HE.out]
          have hg2 := (hg.alloc _).trans hg1
          clear hg hg1
          go_wp2_with fail
          go_roundw
          case rel => exact ⟨k + 1, by omega, by go_num, hg2, all_take_succ hall HX.out hv⟩
          case measure => simp [intOf]; omega
        · replace hv : vL op d x y = false := by simpa using hv
          have he : errB (vL op d x y) = 1 := by rw [hv]; rfl
          have HE := Lib.hid he
          clear he
          rw [all_false_at HX.out hv] at hR
          rw [show errB false = 1 from rfl] at hR
          go_wp2_with fail
          refine validateLine_any _ _ _ _ _ _ ?_
          intro w1 hg1
          rw [HE.out]
          have hg2 := (hg.alloc _).trans hg1
          clear hg hg1
          go_wp2_with fail
          exact hg2
      · rw [all_of_take hall (by omega)] at hR
        rw [show errB true = 0 from rfl] at hR
        go_wp2_with fail
        exact hg

/-- A function value that answers pr of an integer, in every world that comes of w. -/
def PredI (g : Nat) (cb : Array Value) (w : World) (pr : Int → Bool) : Prop :=
  ∀ x W, Grow w W → ∀ R : Ending → World → Prop, (∀ W', Grow W W' → R (.returned (.bool (pr x))) W') → Calls Tryz.prog g (#[.int .i64 x] ++ cb) W R

def idxI (pr : Int → Bool) (xs : List Int) : Int := if xs.any pr then (xs.findIdx pr : Int) else -1

theorem findIdx_at {pr : Int → Bool} {xs : List Int} {k : Nat} {x : Int} (h : ∀ y ∈ xs.take k, pr y = false) (hx : xs[k]? = some x) (hp : pr x = true) : idxI pr xs = k := by
  have ha : xs.any pr = true := List.any_eq_true.2 ⟨x, List.mem_of_getElem? hx, hp⟩
  have hlt : k < xs.length := (List.getElem?_eq_some_iff.1 hx).1
  have hxe : xs[k] = x := by rw [List.getElem?_eq_getElem hlt] at hx; exact Option.some.inj hx
  unfold idxI
  rw [if_pos ha]
  have : xs.findIdx pr = k := by
    rw [List.findIdx_eq hlt]
    refine ⟨by rw [hxe]; exact hp, fun j hj => ?_⟩
    have := h xs[j] (by rw [List.mem_take_iff_getElem]; exact ⟨j, by omega, rfl⟩)
    simpa using this
  rw [this]
theorem idxI_none {pr : Int → Bool} {xs : List Int} {k : Nat} (h : ∀ y ∈ xs.take k, pr y = false) (hk : xs.length ≤ k) : idxI pr xs = -1 := by
  rw [List.take_of_length_le hk] at h
  unfold idxI
  rw [if_neg]
  intro ha
  obtain ⟨y, hy, hp⟩ := List.any_eq_true.1 ha
  rw [h y hy] at hp; cases hp
theorem take_succ_false {pr : Int → Bool} {xs : List Int} {k : Nat} {x : Int} (h : ∀ y ∈ xs.take k, pr y = false) (hx : xs[k]? = some x) (hp : pr x = false) : ∀ y ∈ xs.take (k + 1), pr y = false := by
  intro l hl
  rw [List.take_add_one, hx] at hl
  rcases List.mem_append.1 hl with hl | hl
  · exact h l hl
  · simp at hl; subst hl; exact hp
theorem idxI_ge (pr : Int → Bool) (xs : List Int) : decide (0 ≤ idxI pr xs) = xs.any pr := by
  unfold idxI; cases xs.any pr <;> simp

set_option maxHeartbeats 1000000 in
theorem indexFuncI_any (g : Nat) (cb : Array Value) (eg : Enters Tryz.prog g) (pr : Int → Bool) (xs : List Int) (v : Value) (w : World) (hx : IntsAt w v xs) (hp : PredI g cb w pr)
    (R : Ending → World → Prop) (hR : ∀ w', Grow w w' → R (.returned (.int .i64 (idxI pr xs))) w') :
    Calls Tryz.prog 118 #[v, .func (.func g) #[] cb] w R := by
  obtain ⟨a, c, rfl, h1, h2, h3⟩ := hx
  have hm : xs.length ≤ 9223372036854775807 := by omega
  unfold Enters at eg
  go_enter Tryz.func118, Tryz.ntmps118
  go_wp2_with fail
  go_loopw [4, 5, 8] (fun _ _ i wr => ∃ k : Nat, k ≤ xs.length ∧ i = .int .i64 k ∧ Grow w wr ∧ ∀ y ∈ xs.take k, pr y = false) (fun _ _ i _ => xs.length - (intOf i).toNat)
  case atStart => exact ⟨0, Nat.zero_le _, rfl, Grow.refl _, by simp⟩
  case round =>
    obtain ⟨k, hk, rfl, hg, hall⟩ := hrel
    by_cases hlt : k < xs.length
    · replace h3 := h3.resolve_left (by intro h; simp [h] at hlt)
      obtain ⟨b, o, rfl, hb, hc⟩ := h3
      obtain ⟨x, hx⟩ : ∃ x, xs[k]? = some x := ⟨_, List.getElem?_eq_getElem hlt⟩
      have e0 := hg.cell (ints_cell hc k x hx)
      have hz := hg.sz
      clear hc
      have HX := Lib.hid hx
      have HP := Lib.hid hp
      clear hx hp
      by_cases hv : pr x = true
      · rw [findIdx_at hall HX.out hv] at hR
        go_wp2_with fail
        refine HP.out x _ hg _ ?_
        intro w1 hg1
        rw [hv]
        have hg2 := hg.trans hg1
        clear hg hg1
        go_wp2_with fail
        exact hg2
      · replace hv : pr x = false := by simpa using hv
        go_wp2_with fail
        refine HP.out x _ hg _ ?_
        intro w1 hg1
        rw [hv]
        have hg2 := hg.trans hg1
        clear hg hg1
        go_wp2_with fail
        go_roundw
        case rel => exact ⟨k + 1, by omega, by go_num, hg2, take_succ_false hall HX.out hv⟩
        case measure => simp [intOf]; omega
    · rw [idxI_none hall (by omega)] at hR
      go_wp2_with fail
      exact hg

set_option maxHeartbeats 1000000 in
theorem containsFuncI_any (g : Nat) (cb : Array Value) (eg : Enters Tryz.prog g) (pr : Int → Bool) (xs : List Int) (v : Value) (w : World) (hx : IntsAt w v xs) (hp : PredI g cb w pr)
    (R : Ending → World → Prop) (hR : ∀ w', Grow w w' → R (.returned (.bool (xs.any pr))) w') :
    Calls Tryz.prog 72 #[v, .func (.func g) #[] cb] w R := by
  rw [← idxI_ge] at hR
  generalize hi : idxI pr xs = i at hR
  have HI := Lib.hid hi
  clear hi
  go_enter Tryz.func72, Tryz.ntmps72
  go_wp2_with fail
  refine indexFuncI_any g cb eg pr xs v _ hx hp _ ?_
  intro w1 hg1
  rw [HI.out]
  go_wp2_with fail
  exact hg1

theorem validateState1_any (x : Int) (w : World) (R : Ending → World → Prop) (hR : R (.returned (.bool (!inB x (-999) 999))) w) :
    Calls Tryz.prog 200 #[.int .i64 x] w R := by
  go_enter Tryz.func200, Tryz.ntmps200
  go_wp2_with (go_at_call 128; refine (within_any _ _ _ _ _ ?_))
  simpa using hR

theorem any_not (xs : List Int) : (xs.any fun x => !inB x (-999) 999) = !(xs.all fun n => inB n (-999) 999) := by
  rw [List.not_all_eq_any_not]

set_option maxHeartbeats 1000000 in
theorem validateState_any (s : List Int) (v : Value) (w : World) (hs : IntsAt w v s) (R : Ending → World → Prop) (hR : ∀ w', Grow w w' → R (.returned (.int .i64 (valS s))) w') :
    Calls Tryz.prog 189 #[v] w R := by
  have hs' := hs
  obtain ⟨a, c, rfl, h1, h2, h3⟩ := hs'
  clear h3
  by_cases hl : s.length = 4
  · have hV : valS s = errB (s.all fun n => inB n (-999) 999) := by simp [valS, hl]
    rw [hV] at hR
    clear hV
    have hb : ((s.length : Int) == 4) = true := by simp [hl]
    have hb2 : ((s.length : Int) != 4) = false := by simp [hl]
    have HL := Lib.hid hl
    clear hl
    have hp : PredI 200 #[] w (fun x => !inB x (-999) 999) := fun x W _ R hR => validateState1_any x W R (hR W (Grow.refl _))
    have HS := Lib.hid hs
    have HP := Lib.hid hp
    clear hs hp
    go_enter Tryz.func189, Tryz.ntmps189
    cases hq : s.all fun n => inB n (-999) 999
    · rw [hq] at hR
      rw [show errB false = 1 from rfl] at hR
      have HQ := Lib.hid hq
      clear hq
      go_wp2_with fail
      refine containsFuncI_any _ _ (enters_of Tryz.func200 (by kernel_rfl) rfl) _ s _ _ HS.out HP.out _ ?_
      intro w1 hg1
      rw [any_not, HQ.out]
      go_wp2_with fail
      exact hg1
    · rw [hq] at hR
      rw [show errB true = 0 from rfl] at hR
      have HQ := Lib.hid hq
      clear hq
      go_wp2_with fail
      refine containsFuncI_any _ _ (enters_of Tryz.func200 (by kernel_rfl) rfl) _ s _ _ HS.out HP.out _ ?_
      intro w1 hg1
      rw [any_not, HQ.out]
      go_wp2_with fail
      exact hg1
  · have hV : valS s = 1 := by simp [valS, hl]
    rw [hV] at hR
    clear hV
    have hb : ((s.length : Int) == 4) = false := by simp; omega
    have hb2 : ((s.length : Int) != 4) = true := by simp; omega
    go_enter Tryz.func189, Tryz.ntmps189
    go_wp2_with fail
    exact Grow.refl _


end Go.Proofs.YtbccbokjecdaaaaGreat

namespace Go.Proofs.YtbccbokjecdaaaaGreat
open Go.RowKit

theorem rwithin_any (n lo hi : Int) (w : World) (R : Ending → World → Prop) (hR : R (.returned (.bool (inB n lo hi))) w) :
    Calls Tryz.prog 142 #[.int .i64 n, .int .i64 lo, .int .i64 hi] w R := by
  by_cases h : lo ≤ n
  · by_cases h2 : n ≤ hi
    · rw [inB_true.2 ⟨h, h2⟩] at hR
      go_enter Tryz.func142, Tryz.ntmps142
      go_wp2
      simpa using hR
    · rw [inB_false.2 (by omega)] at hR
      go_enter Tryz.func142, Tryz.ntmps142
      go_wp2
      simpa using hR
  · rw [inB_false.2 (by omega)] at hR
    go_enter Tryz.func142, Tryz.ntmps142
    go_wp2
    simpa using hR

theorem risRegister_any (n : Int) (w : World) (R : Ending → World → Prop) (hR : R (.returned (.bool (inB n 0 3))) w) :
    Calls Tryz.prog 141 #[.int .i64 n] w R := by
  go_enter Tryz.func141, Tryz.ntmps141
  go_wp2_with (go_at_call 142; refine (rwithin_any _ _ _ _ _ ?_))
  simpa using hR

set_option maxHeartbeats 1000000 in
theorem risLine_0 (d a b : Int) (w : World) (R : Ending → World → Prop) (hR : ∀ w', Grow w w' → R (.returned (.bool (vL 0 d a b))) w') :
    Calls Tryz.prog 100 #[.agg #[.int .i64 0, .int .i64 d, .int .i64 a, .int .i64 b]] w R := by
  by_cases c0 : d = 0
  rotate_left
  · rw [show vL 0 d a b = false by simp [vL, c0]] at hR
    have _d : (d == 0) = false := by simpa using c0
    go_enter Tryz.func100, Tryz.ntmps100
    go_wp2_with (first | (go_at_call 141; refine risRegister_any _ _ _ ?_) | (go_at_call 142; refine rwithin_any _ _ _ _ _ ?_))
    exact (Grow.refl _).alloc _
  subst c0
  by_cases c1 : a = 0
  rotate_left
  · rw [show vL 0 0 a b = false by simp [vL, c1]] at hR
    have _d : (a == 0) = false := by simpa using c1
    go_enter Tryz.func100, Tryz.ntmps100
    go_wp2_with (first | (go_at_call 141; refine risRegister_any _ _ _ ?_) | (go_at_call 142; refine rwithin_any _ _ _ _ _ ?_))
    exact (Grow.refl _).alloc _
  subst c1
  by_cases c2 : b = 0
  rotate_left
  · rw [show vL 0 0 0 b = false by simp [vL, c2]] at hR
    have _d : (b == 0) = false := by simpa using c2
    go_enter Tryz.func100, Tryz.ntmps100
    go_wp2_with (first | (go_at_call 141; refine risRegister_any _ _ _ ?_) | (go_at_call 142; refine rwithin_any _ _ _ _ _ ?_))
    exact (Grow.refl _).alloc _
  subst c2
  rw [show vL 0 0 0 0 = true by simp [vL]] at hR
  go_enter Tryz.func100, Tryz.ntmps100
  go_wp2_with (first | (go_at_call 141; refine risRegister_any _ _ _ ?_) | (go_at_call 142; refine rwithin_any _ _ _ _ _ ?_))
  exact (Grow.refl _).alloc _

set_option maxHeartbeats 1000000 in
theorem risLine_1 (d a b : Int) (w : World) (R : Ending → World → Prop) (hR : ∀ w', Grow w w' → R (.returned (.bool (vL 1 d a b))) w') :
    Calls Tryz.prog 100 #[.agg #[.int .i64 1, .int .i64 d, .int .i64 a, .int .i64 b]] w R := by
  by_cases c0 : inB d 0 3 = true
  rotate_left
  · rw [show vL 1 d a b = false by simp [vL, c0]] at hR
    replace c0 : inB d 0 3 = false := by simpa using c0
    go_enter Tryz.func100, Tryz.ntmps100
    go_wp2_with (first | (go_at_call 141; refine risRegister_any _ _ _ ?_) | (go_at_call 142; refine rwithin_any _ _ _ _ _ ?_))
    exact (Grow.refl _).alloc _
  by_cases c1 : inB a (-9) 9 = true
  rotate_left
  · rw [show vL 1 d a b = false by simp [vL, c1]] at hR
    replace c1 : inB a (-9) 9 = false := by simpa using c1
    go_enter Tryz.func100, Tryz.ntmps100
    go_wp2_with (first | (go_at_call 141; refine risRegister_any _ _ _ ?_) | (go_at_call 142; refine rwithin_any _ _ _ _ _ ?_))
    exact (Grow.refl _).alloc _
  by_cases c2 : b = 0
  rotate_left
  · rw [show vL 1 d a b = false by simp [vL, c2]] at hR
    have _d : (b == 0) = false := by simpa using c2
    go_enter Tryz.func100, Tryz.ntmps100
    go_wp2_with (first | (go_at_call 141; refine risRegister_any _ _ _ ?_) | (go_at_call 142; refine rwithin_any _ _ _ _ _ ?_))
    exact (Grow.refl _).alloc _
  subst c2
  rw [show vL 1 d a 0 = true by simp [vL, c0, c1]] at hR
  go_enter Tryz.func100, Tryz.ntmps100
  go_wp2_with (first | (go_at_call 141; refine risRegister_any _ _ _ ?_) | (go_at_call 142; refine rwithin_any _ _ _ _ _ ?_))
  exact (Grow.refl _).alloc _

set_option maxHeartbeats 1000000 in
theorem risLine_2 (d a b : Int) (w : World) (R : Ending → World → Prop) (hR : ∀ w', Grow w w' → R (.returned (.bool (vL 2 d a b))) w') :
    Calls Tryz.prog 100 #[.agg #[.int .i64 2, .int .i64 d, .int .i64 a, .int .i64 b]] w R := by
  by_cases c0 : inB d 0 3 = true
  rotate_left
  · rw [show vL 2 d a b = false by simp [vL, c0]] at hR
    replace c0 : inB d 0 3 = false := by simpa using c0
    go_enter Tryz.func100, Tryz.ntmps100
    go_wp2_with (first | (go_at_call 141; refine risRegister_any _ _ _ ?_) | (go_at_call 142; refine rwithin_any _ _ _ _ _ ?_))
    exact (Grow.refl _).alloc _
  by_cases c1 : inB a 0 3 = true
  rotate_left
  · rw [show vL 2 d a b = false by simp [vL, c1]] at hR
    replace c1 : inB a 0 3 = false := by simpa using c1
    go_enter Tryz.func100, Tryz.ntmps100
    go_wp2_with (first | (go_at_call 141; refine risRegister_any _ _ _ ?_) | (go_at_call 142; refine rwithin_any _ _ _ _ _ ?_))
    exact (Grow.refl _).alloc _
  by_cases c2 : b = 0
  rotate_left
  · rw [show vL 2 d a b = false by simp [vL, c2]] at hR
    have _d : (b == 0) = false := by simpa using c2
    go_enter Tryz.func100, Tryz.ntmps100
    go_wp2_with (first | (go_at_call 141; refine risRegister_any _ _ _ ?_) | (go_at_call 142; refine rwithin_any _ _ _ _ _ ?_))
    exact (Grow.refl _).alloc _
  subst c2
  rw [show vL 2 d a 0 = true by simp [vL, c0, c1]] at hR
  go_enter Tryz.func100, Tryz.ntmps100
  go_wp2_with (first | (go_at_call 141; refine risRegister_any _ _ _ ?_) | (go_at_call 142; refine rwithin_any _ _ _ _ _ ?_))
  exact (Grow.refl _).alloc _

set_option maxHeartbeats 1000000 in
theorem risLine_3 (d a b : Int) (w : World) (R : Ending → World → Prop) (hR : ∀ w', Grow w w' → R (.returned (.bool (vL 3 d a b))) w') :
    Calls Tryz.prog 100 #[.agg #[.int .i64 3, .int .i64 d, .int .i64 a, .int .i64 b]] w R := by
  by_cases c0 : inB d 0 3 = true
  rotate_left
  · rw [show vL 3 d a b = false by simp [vL, c0]] at hR
    replace c0 : inB d 0 3 = false := by simpa using c0
    go_enter Tryz.func100, Tryz.ntmps100
    go_wp2_with (first | (go_at_call 141; refine risRegister_any _ _ _ ?_) | (go_at_call 142; refine rwithin_any _ _ _ _ _ ?_))
    exact (Grow.refl _).alloc _
  by_cases c1 : inB a 0 3 = true
  rotate_left
  · rw [show vL 3 d a b = false by simp [vL, c1]] at hR
    replace c1 : inB a 0 3 = false := by simpa using c1
    go_enter Tryz.func100, Tryz.ntmps100
    go_wp2_with (first | (go_at_call 141; refine risRegister_any _ _ _ ?_) | (go_at_call 142; refine rwithin_any _ _ _ _ _ ?_))
    exact (Grow.refl _).alloc _
  by_cases c2 : inB b 0 3 = true
  rotate_left
  · rw [show vL 3 d a b = false by simp [vL, c2]] at hR
    replace c2 : inB b 0 3 = false := by simpa using c2
    go_enter Tryz.func100, Tryz.ntmps100
    go_wp2_with (first | (go_at_call 141; refine risRegister_any _ _ _ ?_) | (go_at_call 142; refine rwithin_any _ _ _ _ _ ?_))
    exact (Grow.refl _).alloc _
  rw [show vL 3 d a b = true by simp [vL, c0, c1, c2]] at hR
  go_enter Tryz.func100, Tryz.ntmps100
  go_wp2_with (first | (go_at_call 141; refine risRegister_any _ _ _ ?_) | (go_at_call 142; refine rwithin_any _ _ _ _ _ ?_))
  exact (Grow.refl _).alloc _

set_option maxHeartbeats 1000000 in
theorem risLine_4 (d a b : Int) (w : World) (R : Ending → World → Prop) (hR : ∀ w', Grow w w' → R (.returned (.bool (vL 4 d a b))) w') :
    Calls Tryz.prog 100 #[.agg #[.int .i64 4, .int .i64 d, .int .i64 a, .int .i64 b]] w R := by
  by_cases c0 : inB d 0 3 = true
  rotate_left
  · rw [show vL 4 d a b = false by simp [vL, c0]] at hR
    replace c0 : inB d 0 3 = false := by simpa using c0
    go_enter Tryz.func100, Tryz.ntmps100
    go_wp2_with (first | (go_at_call 141; refine risRegister_any _ _ _ ?_) | (go_at_call 142; refine rwithin_any _ _ _ _ _ ?_))
    exact (Grow.refl _).alloc _
  by_cases c1 : inB a 0 3 = true
  rotate_left
  · rw [show vL 4 d a b = false by simp [vL, c1]] at hR
    replace c1 : inB a 0 3 = false := by simpa using c1
    go_enter Tryz.func100, Tryz.ntmps100
    go_wp2_with (first | (go_at_call 141; refine risRegister_any _ _ _ ?_) | (go_at_call 142; refine rwithin_any _ _ _ _ _ ?_))
    exact (Grow.refl _).alloc _
  by_cases c2 : inB b 0 3 = true
  rotate_left
  · rw [show vL 4 d a b = false by simp [vL, c2]] at hR
    replace c2 : inB b 0 3 = false := by simpa using c2
    go_enter Tryz.func100, Tryz.ntmps100
    go_wp2_with (first | (go_at_call 141; refine risRegister_any _ _ _ ?_) | (go_at_call 142; refine rwithin_any _ _ _ _ _ ?_))
    exact (Grow.refl _).alloc _
  rw [show vL 4 d a b = true by simp [vL, c0, c1, c2]] at hR
  go_enter Tryz.func100, Tryz.ntmps100
  go_wp2_with (first | (go_at_call 141; refine risRegister_any _ _ _ ?_) | (go_at_call 142; refine rwithin_any _ _ _ _ _ ?_))
  exact (Grow.refl _).alloc _

set_option maxHeartbeats 1000000 in
theorem risLine_5 (d a b : Int) (w : World) (R : Ending → World → Prop) (hR : ∀ w', Grow w w' → R (.returned (.bool (vL 5 d a b))) w') :
    Calls Tryz.prog 100 #[.agg #[.int .i64 5, .int .i64 d, .int .i64 a, .int .i64 b]] w R := by
  by_cases c0 : inB d 0 3 = true
  rotate_left
  · rw [show vL 5 d a b = false by simp [vL, c0]] at hR
    replace c0 : inB d 0 3 = false := by simpa using c0
    go_enter Tryz.func100, Tryz.ntmps100
    go_wp2_with (first | (go_at_call 141; refine risRegister_any _ _ _ ?_) | (go_at_call 142; refine rwithin_any _ _ _ _ _ ?_))
    exact (Grow.refl _).alloc _
  by_cases c1 : inB a 0 3 = true
  rotate_left
  · rw [show vL 5 d a b = false by simp [vL, c1]] at hR
    replace c1 : inB a 0 3 = false := by simpa using c1
    go_enter Tryz.func100, Tryz.ntmps100
    go_wp2_with (first | (go_at_call 141; refine risRegister_any _ _ _ ?_) | (go_at_call 142; refine rwithin_any _ _ _ _ _ ?_))
    exact (Grow.refl _).alloc _
  by_cases c2 : inB b 0 3 = true
  rotate_left
  · rw [show vL 5 d a b = false by simp [vL, c2]] at hR
    replace c2 : inB b 0 3 = false := by simpa using c2
    go_enter Tryz.func100, Tryz.ntmps100
    go_wp2_with (first | (go_at_call 141; refine risRegister_any _ _ _ ?_) | (go_at_call 142; refine rwithin_any _ _ _ _ _ ?_))
    exact (Grow.refl _).alloc _
  rw [show vL 5 d a b = true by simp [vL, c0, c1, c2]] at hR
  go_enter Tryz.func100, Tryz.ntmps100
  go_wp2_with (first | (go_at_call 141; refine risRegister_any _ _ _ ?_) | (go_at_call 142; refine rwithin_any _ _ _ _ _ ?_))
  exact (Grow.refl _).alloc _

set_option maxHeartbeats 1000000 in
theorem risLine_6 (d a b : Int) (w : World) (R : Ending → World → Prop) (hR : ∀ w', Grow w w' → R (.returned (.bool (vL 6 d a b))) w') :
    Calls Tryz.prog 100 #[.agg #[.int .i64 6, .int .i64 d, .int .i64 a, .int .i64 b]] w R := by
  by_cases c0 : inB d 0 3 = true
  rotate_left
  · rw [show vL 6 d a b = false by simp [vL, c0]] at hR
    replace c0 : inB d 0 3 = false := by simpa using c0
    go_enter Tryz.func100, Tryz.ntmps100
    go_wp2_with (first | (go_at_call 141; refine risRegister_any _ _ _ ?_) | (go_at_call 142; refine rwithin_any _ _ _ _ _ ?_))
    exact (Grow.refl _).alloc _
  by_cases c1 : inB a 0 3 = true
  rotate_left
  · rw [show vL 6 d a b = false by simp [vL, c1]] at hR
    replace c1 : inB a 0 3 = false := by simpa using c1
    go_enter Tryz.func100, Tryz.ntmps100
    go_wp2_with (first | (go_at_call 141; refine risRegister_any _ _ _ ?_) | (go_at_call 142; refine rwithin_any _ _ _ _ _ ?_))
    exact (Grow.refl _).alloc _
  by_cases c2 : inB b 0 3 = true
  rotate_left
  · rw [show vL 6 d a b = false by simp [vL, c2]] at hR
    replace c2 : inB b 0 3 = false := by simpa using c2
    go_enter Tryz.func100, Tryz.ntmps100
    go_wp2_with (first | (go_at_call 141; refine risRegister_any _ _ _ ?_) | (go_at_call 142; refine rwithin_any _ _ _ _ _ ?_))
    exact (Grow.refl _).alloc _
  rw [show vL 6 d a b = true by simp [vL, c0, c1, c2]] at hR
  go_enter Tryz.func100, Tryz.ntmps100
  go_wp2_with (first | (go_at_call 141; refine risRegister_any _ _ _ ?_) | (go_at_call 142; refine rwithin_any _ _ _ _ _ ?_))
  exact (Grow.refl _).alloc _

set_option maxHeartbeats 1000000 in
theorem risLine_7 (d a b : Int) (w : World) (R : Ending → World → Prop) (hR : ∀ w', Grow w w' → R (.returned (.bool (vL 7 d a b))) w') :
    Calls Tryz.prog 100 #[.agg #[.int .i64 7, .int .i64 d, .int .i64 a, .int .i64 b]] w R := by
  by_cases c0 : inB d 1 8 = true
  rotate_left
  · rw [show vL 7 d a b = false by simp [vL, c0]] at hR
    replace c0 : inB d 1 8 = false := by simpa using c0
    go_enter Tryz.func100, Tryz.ntmps100
    go_wp2_with (first | (go_at_call 141; refine risRegister_any _ _ _ ?_) | (go_at_call 142; refine rwithin_any _ _ _ _ _ ?_))
    exact (Grow.refl _).alloc _
  by_cases c1 : inB a 0 3 = true
  rotate_left
  · rw [show vL 7 d a b = false by simp [vL, c1]] at hR
    replace c1 : inB a 0 3 = false := by simpa using c1
    go_enter Tryz.func100, Tryz.ntmps100
    go_wp2_with (first | (go_at_call 141; refine risRegister_any _ _ _ ?_) | (go_at_call 142; refine rwithin_any _ _ _ _ _ ?_))
    exact (Grow.refl _).alloc _
  by_cases c2 : inB b 0 3 = true
  rotate_left
  · rw [show vL 7 d a b = false by simp [vL, c2]] at hR
    replace c2 : inB b 0 3 = false := by simpa using c2
    go_enter Tryz.func100, Tryz.ntmps100
    go_wp2_with (first | (go_at_call 141; refine risRegister_any _ _ _ ?_) | (go_at_call 142; refine rwithin_any _ _ _ _ _ ?_))
    exact (Grow.refl _).alloc _
  rw [show vL 7 d a b = true by simp [vL, c0, c1, c2]] at hR
  go_enter Tryz.func100, Tryz.ntmps100
  go_wp2_with (first | (go_at_call 141; refine risRegister_any _ _ _ ?_) | (go_at_call 142; refine rwithin_any _ _ _ _ _ ?_))
  exact (Grow.refl _).alloc _

set_option maxHeartbeats 1000000 in
theorem risLine_any (op d a b : Int) (w : World) (R : Ending → World → Prop) (hR : ∀ w', Grow w w' → R (.returned (.bool (vL op d a b))) w') :
    Calls Tryz.prog 100 #[.agg #[.int .i64 op, .int .i64 d, .int .i64 a, .int .i64 b]] w R := by
  by_cases h0 : op = 0
  · subst h0; exact risLine_0 d a b w R hR
  by_cases h1 : op = 1
  · subst h1; exact risLine_1 d a b w R hR
  by_cases h2 : op = 2
  · subst h2; exact risLine_2 d a b w R hR
  by_cases h3 : op = 3
  · subst h3; exact risLine_3 d a b w R hR
  by_cases h4 : op = 4
  · subst h4; exact risLine_4 d a b w R hR
  by_cases h5 : op = 5
  · subst h5; exact risLine_5 d a b w R hR
  by_cases h6 : op = 6
  · subst h6; exact risLine_6 d a b w R hR
  by_cases h7 : op = 7
  · subst h7; exact risLine_7 d a b w R hR
  rw [show vL op d a b = false by simp [vL, h0, h1, h2, h3, h4, h5, h6, h7]] at hR
  go_enter Tryz.func100, Tryz.ntmps100
  go_wp2_with fail
  exact (Grow.refl _).alloc _

set_option maxHeartbeats 1000000 in
theorem rValidateLine_any (op d a b : Int) (w : World) (R : Ending → World → Prop) (hR : ∀ w', Grow w w' → R (.returned (.int .i64 (errB (vL op d a b)))) w') :
    Calls Tryz.prog 63 #[.agg #[.int .i64 op, .int .i64 d, .int .i64 a, .int .i64 b]] w R := by
  have HR := Lib.hid hR
  clear hR
  cases hv : vL op d a b with
  | true =>
    have HRR := Lib.hid (hv ▸ HR.out)
    go_enter Tryz.func63, Tryz.ntmps63
    go_wp2_with fail
    refine risLine_any op d a b _ _ ?_
    intro w1 hg1
    rw [hv]
    go_wp2_with fail
    exact HRR.out _ (((Grow.refl w).alloc _).trans hg1)
  | false =>
    have HRR := Lib.hid (hv ▸ HR.out)
    go_enter Tryz.func63, Tryz.ntmps63
    go_wp2_with fail
    refine risLine_any op d a b _ _ ?_
    intro w1 hg1
    rw [hv]
    go_wp2_with fail
    exact HRR.out _ (((Grow.refl w).alloc _).trans hg1)

end Go.Proofs.YtbccbokjecdaaaaGreat
