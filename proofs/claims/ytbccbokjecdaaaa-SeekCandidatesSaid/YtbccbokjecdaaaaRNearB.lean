/- The walk of the document's near: whether a valid line is a template of another one. -/
import Derived.Test.YtbccbokjecdaaaaRNear1
import Derived.Test.YtbccbokjecdaaaaRNear7
import Derived.Test.YtbccbokjecdaaaaRNearG
namespace Go.Proofs.Ytbccbokjecdaaaa
open Go.RowKit

set_option maxRecDepth 100000 in
set_option maxHeartbeats 16000000 in
theorem rnear_any (op d a b op2 d2 a2 b2 : Int) (w : World) (hl : (⟨op, d, a, b⟩ : Ln).ok = true) (hm : (⟨op2, d2, a2, b2⟩ : Ln).ok = true) (R : Ending → World → Prop) (hR : ∀ w', Grow w w' → R (.returned (.bool (rnearB ⟨op, d, a, b⟩ ⟨op2, d2, a2, b2⟩))) w') :
    Calls Try.prog 38 #[.agg #[.int .i64 op, .int .i64 d, .int .i64 a, .int .i64 b], .agg #[.int .i64 op2, .int .i64 d2, .int .i64 a2, .int .i64 b2]] w R := by
  have cl := ok_cases hl
  have cm := ok_cases hm
  dsimp only at cl cm
  have bd : 0 ≤ op ∧ op ≤ 7 ∧ 0 ≤ op2 ∧ op2 ≤ 7 := by clear hR; omega
  have bn : -9 ≤ d ∧ d ≤ 9 ∧ -9 ≤ a ∧ a ≤ 9 ∧ -9 ≤ d2 ∧ d2 ≤ 9 ∧ -9 ≤ a2 ∧ a2 ≤ 9 := by clear hR; omega
  clear cl cm hl hm
  by_cases hlm : (⟨op, d, a, b⟩ : Ln) = ⟨op2, d2, a2, b2⟩
  · have hv : rnearB ⟨op, d, a, b⟩ ⟨op2, d2, a2, b2⟩ = false := by unfold rnearB; rw [if_pos hlm]
    rw [hv] at hR
    have HR := Lib.hid hR
    clear hR hv
    simp only [Ln.mk.injEq] at hlm
    obtain ⟨rfl, rfl, rfl, rfl⟩ := hlm
    go_enter Try.func38, Try.ntmps38
    go_wp2_with fail
    exact HR.out _ (((Grow.refl _).alloc _).alloc _)
  · by_cases h0 : op = 0
    · have hv : rnearB ⟨op, d, a, b⟩ ⟨op2, d2, a2, b2⟩ = false := by unfold rnearB; rw [if_neg hlm, if_pos h0]
      rw [hv] at hR
      have HR := Lib.hid hR
      have HN := Lib.hid hlm
      subst h0
      clear hR hv hlm bd bn
      by_cases gq0 : 0 = op2
      rotate_left
      · have tq1 : (0 == op2) = false := by simpa using gq0
        have tq2 : (0 != op2) = true := by simpa using gq0
        go_enter Try.func38, Try.ntmps38
        go_wp2_with fail
        exact HR.out _ (((Grow.refl _).alloc _).alloc _)
      subst gq0
      by_cases gq1 : d = d2
      rotate_left
      · have tq1 : (d == d2) = false := by simpa using gq1
        have tq2 : (d != d2) = true := by simpa using gq1
        go_enter Try.func38, Try.ntmps38
        go_wp2_with fail
        exact HR.out _ (((Grow.refl _).alloc _).alloc _)
      subst gq1
      by_cases gq2 : a = a2
      rotate_left
      · have tq1 : (a == a2) = false := by simpa using gq2
        have tq2 : (a != a2) = true := by simpa using gq2
        go_enter Try.func38, Try.ntmps38
        go_wp2_with fail
        exact HR.out _ (((Grow.refl _).alloc _).alloc _)
      subst gq2
      by_cases gq3 : b = b2
      rotate_left
      · have tq1 : (b == b2) = false := by simpa using gq3
        have tq2 : (b != b2) = true := by simpa using gq3
        go_enter Try.func38, Try.ntmps38
        go_wp2_with fail
        exact HR.out _ (((Grow.refl _).alloc _).alloc _)
      subst gq3
      exact absurd rfl HN.out
    · by_cases h2 : op2 = 0
      · have hv : rnearB ⟨op, d, a, b⟩ ⟨op2, d2, a2, b2⟩ = true := by unfold rnearB; rw [if_neg hlm, if_neg h0, if_pos h2]
        rw [hv] at hR
        have HR := Lib.hid hR
        have t0 : (op == 0) = false := by simpa using h0
        subst h2
        clear hR hv hlm bd bn h0
        go_enter Try.func38, Try.ntmps38
        go_wp2_with fail
        exact HR.out _ (((Grow.refl _).alloc _).alloc _)
      · by_cases h4 : op2 ≠ op
        · exact rnearD_any op d a b op2 d2 a2 b2 w hlm h0 h2 h4 R hR
        · have h5 : op2 = op := by omega
          by_cases k1 : op = 1
          · exact rnear1_any op d a b op2 d2 a2 b2 w hlm k1 (h5.trans k1) bn R hR
          · by_cases k2 : op = 2
            · exact rnear2_any op d a b op2 d2 a2 b2 w hlm k2 (h5.trans k2) R hR
            · by_cases k7 : op = 7
              · exact rnear7_any op d a b op2 d2 a2 b2 w hlm k7 (h5.trans k7) bn R hR
              · exact rnearG_any op d a b op2 d2 a2 b2 w hlm (by omega) (by omega) h5.symm R hR
end Go.Proofs.Ytbccbokjecdaaaa
