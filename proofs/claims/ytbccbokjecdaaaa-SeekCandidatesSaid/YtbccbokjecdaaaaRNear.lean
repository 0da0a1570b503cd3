/- The walk of the document's near: whether a valid line is a template of another one. -/
import Derived.Test.YtbccbokjecdaaaaSkE
import Derived.Test.YtbccbokjecdaaaaPlNr
namespace Go.Proofs.Ytbccbokjecdaaaa
open Go.RowKit

theorem run_eql_ln_ne (op d a b op' d' a' b' : Int) (h : ¬ (⟨op, d, a, b⟩ : Ln) = ⟨op', d', a', b'⟩) (w : World) : (binOp .eql 23 (.agg #[.int .i64 op, .int .i64 d, .int .i64 a, .int .i64 b]) (.agg #[.int .i64 op', .int .i64 d', .int .i64 a', .int .i64 b'])).run Try.prog w = .ok (.bool false) w := by
  have HXY := Lib.hid h
  clear h
  by_cases gq0 : op = op'
  rotate_left
  · have tq1 : (op == op') = false := by simpa using gq0
    have tq2 : (op != op') = true := by simpa using gq0
    go_simp
  subst gq0
  by_cases gq1 : d = d'
  rotate_left
  · have tq1 : (d == d') = false := by simpa using gq1
    have tq2 : (d != d') = true := by simpa using gq1
    go_simp
  subst gq1
  by_cases gq2 : a = a'
  rotate_left
  · have tq1 : (a == a') = false := by simpa using gq2
    have tq2 : (a != a') = true := by simpa using gq2
    go_simp
  subst gq2
  by_cases gq3 : b = b'
  rotate_left
  · have tq1 : (b == b') = false := by simpa using gq3
    have tq2 : (b != b') = true := by simpa using gq3
    go_simp
  subst gq3
  exact absurd rfl HXY.out
theorem run_eql_ln_eq (op d a b : Int) (w : World) : (binOp .eql 23 (.agg #[.int .i64 op, .int .i64 d, .int .i64 a, .int .i64 b]) (.agg #[.int .i64 op, .int .i64 d, .int .i64 a, .int .i64 b])).run Try.prog w = .ok (.bool true) w := by
  go_simp

theorem mixes_any (n : Int) (w : World) (R : Ending → World → Prop) (hR : R (.returned (.bool (inB n 3 6))) w) :
    Calls Try.prog 47 #[.int .i64 n] w R := by
  by_cases h : 3 ≤ n
  · by_cases h2 : n ≤ 6
    · rw [inB_true.2 ⟨h, h2⟩] at hR
      go_enter Try.func47, Try.ntmps47
      go_wp2
      simpa using hR
    · rw [inB_false.2 (by omega)] at hR
      go_enter Try.func47, Try.ntmps47
      go_wp2
      simpa using hR
  · rw [inB_false.2 (by omega)] at hR
    go_enter Try.func47, Try.ntmps47
    go_wp2
    simpa using hR

set_option maxHeartbeats 4000000 in
theorem rFields_any (op d a b op' d' a' b' : Int) (w : World) (R : Ending → World → Prop) (hR : ∀ w', Grow w w' → R (.returned (.int .i64 (fieldsN ⟨op, d, a, b⟩ ⟨op', d', a', b'⟩))) w') :
    Calls Try.prog 46 #[.agg #[.int .i64 op, .int .i64 d, .int .i64 a, .int .i64 b], .agg #[.int .i64 op', .int .i64 d', .int .i64 a', .int .i64 b']] w R := by
  have hv : fieldsN ⟨op, d, a, b⟩ ⟨op', d', a', b'⟩ = (if op = op' then 0 else 1) + (if d = d' then 0 else 1) + (if a = a' then 0 else 1) + (if b = b' then 0 else 1) := rfl
  rw [hv] at hR
  clear hv
  have hg := ((Grow.refl w).alloc (.cells #[.int .i64 op, .int .i64 d, .int .i64 a, .int .i64 b] 23)).alloc (.cells #[.int .i64 op', .int .i64 d', .int .i64 a', .int .i64 b'] 23)
  have hR2 := hR _ hg
  clear hR
  by_cases g0 : op = op'
  · subst g0
    by_cases g1 : d = d'
    · subst g1
      by_cases g2 : a = a'
      · subst g2
        by_cases g3 : b = b'
        · subst g3
          rw [if_pos rfl, if_pos rfl, if_pos rfl, if_pos rfl] at hR2
          have HR := Lib.hid hR2
          clear hR2
          go_enter Try.func46, Try.ntmps46
          go_wp2_with fail
          exact HR.out
        · have q3 : (b != b') = true := by simpa using g3
          rw [if_pos rfl, if_pos rfl, if_pos rfl, if_neg g3] at hR2
          have HR := Lib.hid hR2
          clear hR2 g3
          go_enter Try.func46, Try.ntmps46
          go_wp2_with fail
          exact HR.out
      · have q2 : (a != a') = true := by simpa using g2
        by_cases g3 : b = b'
        · subst g3
          rw [if_pos rfl, if_pos rfl, if_neg g2, if_pos rfl] at hR2
          have HR := Lib.hid hR2
          clear hR2 g2
          go_enter Try.func46, Try.ntmps46
          go_wp2_with fail
          exact HR.out
        · have q3 : (b != b') = true := by simpa using g3
          rw [if_pos rfl, if_pos rfl, if_neg g2, if_neg g3] at hR2
          have HR := Lib.hid hR2
          clear hR2 g2 g3
          go_enter Try.func46, Try.ntmps46
          go_wp2_with fail
          exact HR.out
    · have q1 : (d != d') = true := by simpa using g1
      by_cases g2 : a = a'
      · subst g2
        by_cases g3 : b = b'
        · subst g3
          rw [if_pos rfl, if_neg g1, if_pos rfl, if_pos rfl] at hR2
          have HR := Lib.hid hR2
          clear hR2 g1
          go_enter Try.func46, Try.ntmps46
          go_wp2_with fail
          exact HR.out
        · have q3 : (b != b') = true := by simpa using g3
          rw [if_pos rfl, if_neg g1, if_pos rfl, if_neg g3] at hR2
          have HR := Lib.hid hR2
          clear hR2 g1 g3
          go_enter Try.func46, Try.ntmps46
          go_wp2_with fail
          exact HR.out
      · have q2 : (a != a') = true := by simpa using g2
        by_cases g3 : b = b'
        · subst g3
          rw [if_pos rfl, if_neg g1, if_neg g2, if_pos rfl] at hR2
          have HR := Lib.hid hR2
          clear hR2 g1 g2
          go_enter Try.func46, Try.ntmps46
          go_wp2_with fail
          exact HR.out
        · have q3 : (b != b') = true := by simpa using g3
          rw [if_pos rfl, if_neg g1, if_neg g2, if_neg g3] at hR2
          have HR := Lib.hid hR2
          clear hR2 g1 g2 g3
          go_enter Try.func46, Try.ntmps46
          go_wp2_with fail
          exact HR.out
  · have q0 : (op != op') = true := by simpa using g0
    by_cases g1 : d = d'
    · subst g1
      by_cases g2 : a = a'
      · subst g2
        by_cases g3 : b = b'
        · subst g3
          rw [if_neg g0, if_pos rfl, if_pos rfl, if_pos rfl] at hR2
          have HR := Lib.hid hR2
          clear hR2 g0
          go_enter Try.func46, Try.ntmps46
          go_wp2_with fail
          exact HR.out
        · have q3 : (b != b') = true := by simpa using g3
          rw [if_neg g0, if_pos rfl, if_pos rfl, if_neg g3] at hR2
          have HR := Lib.hid hR2
          clear hR2 g0 g3
          go_enter Try.func46, Try.ntmps46
          go_wp2_with fail
          exact HR.out
      · have q2 : (a != a') = true := by simpa using g2
        by_cases g3 : b = b'
        · subst g3
          rw [if_neg g0, if_pos rfl, if_neg g2, if_pos rfl] at hR2
          have HR := Lib.hid hR2
          clear hR2 g0 g2
          go_enter Try.func46, Try.ntmps46
          go_wp2_with fail
          exact HR.out
        · have q3 : (b != b') = true := by simpa using g3
          rw [if_neg g0, if_pos rfl, if_neg g2, if_neg g3] at hR2
          have HR := Lib.hid hR2
          clear hR2 g0 g2 g3
          go_enter Try.func46, Try.ntmps46
          go_wp2_with fail
          exact HR.out
    · have q1 : (d != d') = true := by simpa using g1
      by_cases g2 : a = a'
      · subst g2
        by_cases g3 : b = b'
        · subst g3
          rw [if_neg g0, if_neg g1, if_pos rfl, if_pos rfl] at hR2
          have HR := Lib.hid hR2
          clear hR2 g0 g1
          go_enter Try.func46, Try.ntmps46
          go_wp2_with fail
          exact HR.out
        · have q3 : (b != b') = true := by simpa using g3
          rw [if_neg g0, if_neg g1, if_pos rfl, if_neg g3] at hR2
          have HR := Lib.hid hR2
          clear hR2 g0 g1 g3
          go_enter Try.func46, Try.ntmps46
          go_wp2_with fail
          exact HR.out
      · have q2 : (a != a') = true := by simpa using g2
        by_cases g3 : b = b'
        · subst g3
          rw [if_neg g0, if_neg g1, if_neg g2, if_pos rfl] at hR2
          have HR := Lib.hid hR2
          clear hR2 g0 g1 g2
          go_enter Try.func46, Try.ntmps46
          go_wp2_with fail
          exact HR.out
        · have q3 : (b != b') = true := by simpa using g3
          rw [if_neg g0, if_neg g1, if_neg g2, if_neg g3] at hR2
          have HR := Lib.hid hR2
          clear hR2 g0 g1 g2 g3
          go_enter Try.func46, Try.ntmps46
          go_wp2_with fail
          exact HR.out
end Go.Proofs.Ytbccbokjecdaaaa
