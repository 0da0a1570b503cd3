/-
The walk of the document's near: whether a valid line is a template of another one.
The walk of the document's near: whether a valid line is a template of another one.
-/
import Derived.Test.YtbccbokjecdaaaaGreatB10
import Derived.Test.YtbccbokjecdaaaaGreatB04
namespace Go.Proofs.YtbccbokjecdaaaaGreat
open Go.RowKit

theorem run_eql_ln_ne (op d a b op' d' a' b' : Int) (h : ¬ (⟨op, d, a, b⟩ : Ln) = ⟨op', d', a', b'⟩) (w : World) : (binOp .eql 25 (.agg #[.int .i64 op, .int .i64 d, .int .i64 a, .int .i64 b]) (.agg #[.int .i64 op', .int .i64 d', .int .i64 a', .int .i64 b'])).run Tryz.prog w = .ok (.bool false) w := by
  have HXY := Lib.hid h
  clear h
  by_cases gq0 : op = op'
  rotate_left
  · have tq1 : (op == op') = false := by simpa using gq0
    have tq2 : (op != op') = true := by simpa using gq0
    go_simp
  subst gq0
  by_cases gq1 : d = d'
  rotate_left
  · have tq1 : (d == d') = false := by simpa using gq1
    have tq2 : (d != d') = true := by simpa using gq1
    go_simp
  subst gq1
  by_cases gq2 : a = a'
  rotate_left
  · have tq1 : (a == a') = false := by simpa using gq2
    have tq2 : (a != a') = true := by simpa using gq2
    go_simp
  subst gq2
  by_cases gq3 : b = b'
  rotate_left
  · have tq1 : (b == b') = false := by simpa using gq3
    have tq2 : (b != b') = true := by simpa using gq3
    go_simp
  subst gq3
  exact absurd rfl HXY.out
theorem run_eql_ln_eq (op d a b : Int) (w : World) : (binOp .eql 25 (.agg #[.int .i64 op, .int .i64 d, .int .i64 a, .int .i64 b]) (.agg #[.int .i64 op, .int .i64 d, .int .i64 a, .int .i64 b])).run Tryz.prog w = .ok (.bool true) w := by
  go_simp

theorem mixes_any (n : Int) (w : World) (R : Ending → World → Prop) (hR : R (.returned (.bool (inB n 3 6))) w) :
    Calls Tryz.prog 107 #[.int .i64 n] w R := by
  by_cases h : 3 ≤ n
  · by_cases h2 : n ≤ 6
    · rw [inB_true.2 ⟨h, h2⟩] at hR
      go_enter Tryz.func107, Tryz.ntmps107
      go_wp2
      simpa using hR
    · rw [inB_false.2 (by omega)] at hR
      go_enter Tryz.func107, Tryz.ntmps107
      go_wp2
      simpa using hR
  · rw [inB_false.2 (by omega)] at hR
    go_enter Tryz.func107, Tryz.ntmps107
    go_wp2
    simpa using hR

set_option maxHeartbeats 4000000 in
theorem rFields_any (op d a b op' d' a' b' : Int) (w : World) (R : Ending → World → Prop) (hR : ∀ w', Grow w w' → R (.returned (.int .i64 (fieldsN ⟨op, d, a, b⟩ ⟨op', d', a', b'⟩))) w') :
    Calls Tryz.prog 106 #[.agg #[.int .i64 op, .int .i64 d, .int .i64 a, .int .i64 b], .agg #[.int .i64 op', .int .i64 d', .int .i64 a', .int .i64 b']] w R := by
  have hv : fieldsN ⟨op, d, a, b⟩ ⟨op', d', a', b'⟩ = (if op = op' then 0 else 1) + (if d = d' then 0 else 1) + (if a = a' then 0 else 1) + (if b = b' then 0 else 1) := rfl
  rw [hv] at hR
  clear hv
  have hg := ((Grow.refl w).alloc (.cells #[.int .i64 op, .int .i64 d, .int .i64 a, .int .i64 b] 25)).alloc (.cells #[.int .i64 op', .int .i64 d', .int .i64 a', .int .i64 b'] 25)
  have hR2 := hR _ hg
  clear hR
  by_cases g0 : op = op'
  · subst g0
    by_cases g1 : d = d'
    · subst g1
      by_cases g2 : a = a'
      · subst g2
        by_cases g3 : b = b'
        · subst g3
          rw [if_pos rfl, if_pos rfl, if_pos rfl, if_pos rfl] at hR2
          have HR := Lib.hid hR2
          clear hR2
          go_enter Tryz.func106, Tryz.ntmps106
          go_wp2_with fail
          exact HR.out
        · have q3 : (b != b') = true := by simpa using g3
          rw [if_pos rfl, if_pos rfl, if_pos rfl, if_neg g3] at hR2
          have HR := Lib.hid hR2
          clear hR2 g3
          go_enter Tryz.func106, Tryz.ntmps106
          go_wp2_with fail
          exact HR.out
      · have q2 : (a != a') = true := by simpa using g2
        by_cases g3 : b = b'
        · subst g3
          rw [if_pos rfl, if_pos rfl, if_neg g2, if_pos rfl] at hR2
          have HR := Lib.hid hR2
          clear hR2 g2
          go_enter Tryz.func106, Tryz.ntmps106
          go_wp2_with fail
          exact HR.out
        · have q3 : (b != b') = true := by simpa using g3
          rw [if_pos rfl, if_pos rfl, if_neg g2, if_neg g3] at hR2
          have HR := Lib.hid hR2
          clear hR2 g2 g3
          go_enter Tryz.func106, Tryz.ntmps106
          go_wp2_with fail
          exact HR.out
    · have q1 : (d != d') = true := by simpa using g1
      by_cases g2 : a = a'
      · subst g2
        by_cases g3 : b = b'
        · subst g3
          rw [if_pos rfl, if_neg g1, if_pos rfl, if_pos rfl] at hR2
          have HR := Lib.hid hR2
          clear hR2 g1
          go_enter Tryz.func106, Tryz.ntmps106
          go_wp2_with fail
          exact HR.out
        · have q3 : (b != b') = true := by simpa using g3
          rw [if_pos rfl, if_neg g1, if_pos rfl, if_neg g3] at hR2
          have HR := Lib.hid hR2
          clear hR2 g1 g3
          go_enter Tryz.func106, Tryz.ntmps106
          go_wp2_with fail
          exact HR.out
      · have q2 : (a != a') = true := by simpa using g2
        by_cases g3 : b = b'
        · subst g3
          rw [if_pos rfl, if_neg g1, if_neg g2, if_pos rfl] at hR2
          have HR := Lib.hid hR2
          clear hR2 g1 g2
          go_enter Tryz.func106, Tryz.ntmps106
          go_wp2_with fail
          exact HR.out
        · have q3 : (b != b') = true := by simpa using g3
          rw [if_pos rfl, if_neg g1, if_neg g2, if_neg g3] at hR2
          have HR := Lib.hid hR2
          clear hR2 g1 g2 g3
          go_enter Tryz.func106, Tryz.ntmps106
          go_wp2_with fail
          exact HR.out
  · have q0 : (op != op') = true := by simpa using g0
    by_cases g1 : d = d'
    · subst g1
      by_cases g2 : a = a'
      · subst g2
        by_cases g3 : b = b'
        · subst g3
          rw [if_neg g0, if_pos rfl, if_pos rfl, if_pos rfl] at hR2
          have HR := Lib.hid hR2
          clear hR2 g0
          go_enter Tryz.func106, Tryz.ntmps106
          go_wp2_with fail
          exact HR.out
        · have q3 : (b != b') = true := by simpa using g3
          rw [if_neg g0, if_pos rfl, if_pos rfl, if_neg g3] at hR2
          have HR := Lib.hid hR2
          clear hR2 g0 g3
          go_enter Tryz.func106, Tryz.ntmps106
          go_wp2_with fail
          exact HR.out
      · have q2 : (a != a') = true := by simpa using g2
        by_cases g3 : b = b'
        · subst g3
          rw [if_neg g0, if_pos rfl, if_neg g2, if_pos rfl] at hR2
          have HR := Lib.hid hR2
          clear hR2 g0 g2
          go_enter Tryz.func106, Tryz.ntmps106
          go_wp2_with fail
          exact HR.out
        · have q3 : (b != b') = true := by simpa using g3
          rw [if_neg g0, if_pos rfl, if_neg g2, if_neg g3] at hR2
          have HR := Lib.hid hR2
          clear hR2 g0 g2 g3
          go_enter Tryz.func106, Tryz.ntmps106
          go_wp2_with fail
          exact HR.out
    · have q1 : (d != d') = true := by simpa using g1
      by_cases g2 : a = a'
      · subst g2
        by_cases g3 : b = b'
        · subst g3
          rw [if_neg g0, if_neg g1, if_pos rfl, if_pos rfl] at hR2
          have HR := Lib.hid hR2
          clear hR2 g0 g1
          go_enter Tryz.func106, Tryz.ntmps106
          go_wp2_with fail
          exact HR.out
        · have q3 : (b != b') = true := by simpa using g3
          rw [if_neg g0, if_neg g1, if_pos rfl, if_neg g3] at hR2
          have HR := Lib.hid hR2
          clear hR2 g0 g1 g3
          go_enter Tryz.func106, Tryz.ntmps106
          go_wp2_with fail
          exact HR.out
      · have q2 : (a != a') = true := by simpa using g2
        by_cases g3 : b = b'
        · subst g3
          rw [if_neg g0, if_neg g1, if_neg g2, if_pos rfl] at hR2
          have HR := Lib.hid hR2
          clear hR2 g0 g1 g2
          go_enter Tryz.func106, Tryz.ntmps106
          go_wp2_with fail
          exact HR.out
        · have q3 : (b != b') = true := by simpa using g3
          rw [if_neg g0, if_neg g1, if_neg g2, if_neg g3] at hR2
          have HR := Lib.hid hR2
          clear hR2 g0 g1 g2 g3
          go_enter Tryz.func106, Tryz.ntmps106
          go_wp2_with fail
          exact HR.out
end Go.Proofs.YtbccbokjecdaaaaGreat

namespace Go.Proofs.YtbccbokjecdaaaaGreat
open Go.RowKit

set_option maxRecDepth 100000 in
set_option maxHeartbeats 16000000 in
theorem rnear1_any (op d a b op2 d2 a2 b2 : Int) (w : World) (hlm : ¬ (⟨op, d, a, b⟩ : Ln) = ⟨op2, d2, a2, b2⟩) (hop : op = 1) (hop2 : op2 = 1) (bn : -9 ≤ d ∧ d ≤ 9 ∧ -9 ≤ a ∧ a ≤ 9 ∧ -9 ≤ d2 ∧ d2 ≤ 9 ∧ -9 ≤ a2 ∧ a2 ≤ 9) (R : Ending → World → Prop) (hR : ∀ w', Grow w w' → R (.returned (.bool (rnearB (⟨op, d, a, b⟩ : Ln) ⟨op2, d2, a2, b2⟩))) w') :
    Calls Tryz.prog 64 #[.agg #[.int .i64 op, .int .i64 d, .int .i64 a, .int .i64 b], .agg #[.int .i64 op2, .int .i64 d2, .int .i64 a2, .int .i64 b2]] w R := by
  subst hop
  subst hop2
  have HR := Lib.hid hR
  clear hR
  obtain ⟨n, hn⟩ : ∃ n, fieldsN (⟨1, d, a, b⟩ : Ln) ⟨1, d2, a2, b2⟩ = n := ⟨_, rfl⟩
  have HN := Lib.hid hn
  by_cases f1 : d = d2
  rotate_left
  · skip
    have f1a : (d == d2) = false := by simpa using f1
    have f1b : (d != d2) = true := by simpa using f1
    have hF : ¬ (d = d2 ∧ 3 ≤ (1 : Int) ∧ a = b2 ∧ b = a2) := by omega
    by_cases hn1 : n = 1
    · skip
      have hn1a : (n == 1) = true := by simpa using hn1
      have hn1b : (n != 1) = false := by simpa using hn1
      have haa : a = a2 := by by_cases h : a = a2; exact h; exfalso; have h9 := HN.out; unfold fieldsN at h9; dsimp only at h9; rw [if_neg f1, if_neg h] at h9; split at h9 <;> split at h9 <;> omega
      have haaa : (a == a2) = true := by simpa using haa
      have haab : (a != a2) = false := by simpa using haa
      have hv : rnearB (⟨1, d, a, b⟩ : Ln) ⟨1, d2, a2, b2⟩ = true := by unfold rnearB; rw [if_neg hlm, if_neg (by dsimp only; omega), if_neg (by dsimp only; omega), if_neg (by dsimp only; omega), if_neg hF, if_neg (by rw [HN.out]; simpa using hn1), if_neg (by dsimp only; omega), if_neg (by dsimp only; omega)]
      rw [hv] at HR
      clear hv
      have HR2 := Lib.hid HR.out
      clear HR hlm hn
      try clear hF
      try clear hn1
      try clear haa
      try clear hb
      try clear hx
      try clear f1
      go_enter Tryz.func64, Tryz.ntmps64
      go_wp2_with fail
      have hb0 := heap_two0 w (.cells #[.int .i64 1, .int .i64 d, .int .i64 a, .int .i64 b] 25) (.cells #[.int .i64 1, .int .i64 d2, .int .i64 a2, .int .i64 b2] 25)
      have hb1 := heap_two1 w (.cells #[.int .i64 1, .int .i64 d, .int .i64 a, .int .i64 b] 25) (.cells #[.int .i64 1, .int .i64 d2, .int .i64 a2, .int .i64 b2] 25)
      have hg0 : Grow w ((w.alloc (.cells #[.int .i64 1, .int .i64 d, .int .i64 a, .int .i64 b] 25)).alloc (.cells #[.int .i64 1, .int .i64 d2, .int .i64 a2, .int .i64 b2] 25)) := ((Grow.refl w).alloc _).alloc _
      generalize (w.alloc (.cells #[.int .i64 1, .int .i64 d, .int .i64 a, .int .i64 b] 25)).alloc (.cells #[.int .i64 1, .int .i64 d2, .int .i64 a2, .int .i64 b2] 25) = W at hb0 hb1 hg0 ⊢
      refine rFields_any 1 d a b 1 d2 a2 b2 _ _ ?_
      intro w1 hg1
      rw [HN.out]
      have HF := Lib.hid (HR2.out w1 (hg0.trans hg1))
      replace hb0 := hg1.blk hb0
      replace hb1 := hg1.blk hb1
      obtain ⟨e0, e1, e2, e3⟩ := box4 hb0
      obtain ⟨f0, f1, f2, f3⟩ := box4 hb1
      have hz := lt_of_block hb1
      clear hb0 hb1 hg0 hg1
      go_wp2_with (go_at_call 107; refine mixes_any _ _ _ ?_)
      exact HF.out
    · skip
      have hn1a : (n == 1) = false := by simpa using hn1
      have hn1b : (n != 1) = true := by simpa using hn1
      have hv : rnearB (⟨1, d, a, b⟩ : Ln) ⟨1, d2, a2, b2⟩ = false := by unfold rnearB; rw [if_neg hlm, if_neg (by dsimp only; omega), if_neg (by dsimp only; omega), if_neg (by dsimp only; omega), if_neg hF, if_pos (by rw [HN.out]; exact hn1)]
      rw [hv] at HR
      clear hv
      have HR2 := Lib.hid HR.out
      clear HR hlm hn
      try clear hF
      try clear hn1
      try clear haa
      try clear hb
      try clear hx
      try clear f1
      go_enter Tryz.func64, Tryz.ntmps64
      go_wp2_with fail
      have hb0 := heap_two0 w (.cells #[.int .i64 1, .int .i64 d, .int .i64 a, .int .i64 b] 25) (.cells #[.int .i64 1, .int .i64 d2, .int .i64 a2, .int .i64 b2] 25)
      have hb1 := heap_two1 w (.cells #[.int .i64 1, .int .i64 d, .int .i64 a, .int .i64 b] 25) (.cells #[.int .i64 1, .int .i64 d2, .int .i64 a2, .int .i64 b2] 25)
      have hg0 : Grow w ((w.alloc (.cells #[.int .i64 1, .int .i64 d, .int .i64 a, .int .i64 b] 25)).alloc (.cells #[.int .i64 1, .int .i64 d2, .int .i64 a2, .int .i64 b2] 25)) := ((Grow.refl w).alloc _).alloc _
      generalize (w.alloc (.cells #[.int .i64 1, .int .i64 d, .int .i64 a, .int .i64 b] 25)).alloc (.cells #[.int .i64 1, .int .i64 d2, .int .i64 a2, .int .i64 b2] 25) = W at hb0 hb1 hg0 ⊢
      refine rFields_any 1 d a b 1 d2 a2 b2 _ _ ?_
      intro w1 hg1
      rw [HN.out]
      have HF := Lib.hid (HR2.out w1 (hg0.trans hg1))
      replace hb0 := hg1.blk hb0
      replace hb1 := hg1.blk hb1
      obtain ⟨e0, e1, e2, e3⟩ := box4 hb0
      obtain ⟨f0, f1, f2, f3⟩ := box4 hb1
      have hz := lt_of_block hb1
      clear hb0 hb1 hg0 hg1
      go_wp2_with (go_at_call 107; refine mixes_any _ _ _ ?_)
      exact HF.out
  subst f1
  by_cases hx : a = a2
  rotate_left
  · skip
    have hxa : (a == a2) = false := by simpa using hx
    have hxb : (a != a2) = true := by simpa using hx
    have hF : ¬ (d = d ∧ 3 ≤ (1 : Int) ∧ a = b2 ∧ b = a2) := by omega
    by_cases hn1 : n = 1
    · skip
      have hn1a : (n == 1) = true := by simpa using hn1
      have hn1b : (n != 1) = false := by simpa using hn1
      by_cases hi1 : a - a2 = 1
      · skip
        have hi1a : ((a - a2) == 1) = true := by simpa using hi1
        have hi1b : ((a - a2) != 1) = false := by simpa using hi1
        have hv : rnearB (⟨1, d, a, b⟩ : Ln) ⟨1, d, a2, b2⟩ = true := by unfold rnearB; rw [if_neg hlm, if_neg (by dsimp only; omega), if_neg (by dsimp only; omega), if_neg (by dsimp only; omega), if_neg hF, if_neg (by rw [HN.out]; simpa using hn1), if_pos (by dsimp only; omega)]; simp only [decide_eq_true_eq]; exact .inl hi1
        rw [hv] at HR
        clear hv
        have HR2 := Lib.hid HR.out
        clear HR hlm hn
        try clear hF
        try clear hn1
        try clear hi1
        try clear haa
        try clear hb
        try clear hx
        try clear f1
        go_enter Tryz.func64, Tryz.ntmps64
        go_wp2_with fail
        have hb0 := heap_two0 w (.cells #[.int .i64 1, .int .i64 d, .int .i64 a, .int .i64 b] 25) (.cells #[.int .i64 1, .int .i64 d, .int .i64 a2, .int .i64 b2] 25)
        have hb1 := heap_two1 w (.cells #[.int .i64 1, .int .i64 d, .int .i64 a, .int .i64 b] 25) (.cells #[.int .i64 1, .int .i64 d, .int .i64 a2, .int .i64 b2] 25)
        have hg0 : Grow w ((w.alloc (.cells #[.int .i64 1, .int .i64 d, .int .i64 a, .int .i64 b] 25)).alloc (.cells #[.int .i64 1, .int .i64 d, .int .i64 a2, .int .i64 b2] 25)) := ((Grow.refl w).alloc _).alloc _
        generalize (w.alloc (.cells #[.int .i64 1, .int .i64 d, .int .i64 a, .int .i64 b] 25)).alloc (.cells #[.int .i64 1, .int .i64 d, .int .i64 a2, .int .i64 b2] 25) = W at hb0 hb1 hg0 ⊢
        refine rFields_any 1 d a b 1 d a2 b2 _ _ ?_
        intro w1 hg1
        rw [HN.out]
        have HF := Lib.hid (HR2.out w1 (hg0.trans hg1))
        replace hb0 := hg1.blk hb0
        replace hb1 := hg1.blk hb1
        obtain ⟨e0, e1, e2, e3⟩ := box4 hb0
        obtain ⟨f0, f1, f2, f3⟩ := box4 hb1
        have hz := lt_of_block hb1
        clear hb0 hb1 hg0 hg1
        go_wp2_with (go_at_call 107; refine mixes_any _ _ _ ?_)
        exact HF.out
      · skip
        have hi1a : ((a - a2) == 1) = false := by simpa using hi1
        have hi1b : ((a - a2) != 1) = true := by simpa using hi1
        by_cases hi2 : a2 - a = 1
        · skip
          have hi2a : ((a2 - a) == 1) = true := by simpa using hi2
          have hi2b : ((a2 - a) != 1) = false := by simpa using hi2
          have hv : rnearB (⟨1, d, a, b⟩ : Ln) ⟨1, d, a2, b2⟩ = true := by unfold rnearB; rw [if_neg hlm, if_neg (by dsimp only; omega), if_neg (by dsimp only; omega), if_neg (by dsimp only; omega), if_neg hF, if_neg (by rw [HN.out]; simpa using hn1), if_pos (by dsimp only; omega)]; simp only [decide_eq_true_eq]; exact .inr hi2
          rw [hv] at HR
          clear hv
          have HR2 := Lib.hid HR.out
          clear HR hlm hn
          try clear hF
          try clear hn1
          try clear hi1
          try clear hi2
          try clear haa
          try clear hb
          try clear hx
          try clear f1
          go_enter Tryz.func64, Tryz.ntmps64
          go_wp2_with fail
          have hb0 := heap_two0 w (.cells #[.int .i64 1, .int .i64 d, .int .i64 a, .int .i64 b] 25) (.cells #[.int .i64 1, .int .i64 d, .int .i64 a2, .int .i64 b2] 25)
          have hb1 := heap_two1 w (.cells #[.int .i64 1, .int .i64 d, .int .i64 a, .int .i64 b] 25) (.cells #[.int .i64 1, .int .i64 d, .int .i64 a2, .int .i64 b2] 25)
          have hg0 : Grow w ((w.alloc (.cells #[.int .i64 1, .int .i64 d, .int .i64 a, .int .i64 b] 25)).alloc (.cells #[.int .i64 1, .int .i64 d, .int .i64 a2, .int .i64 b2] 25)) := ((Grow.refl w).alloc _).alloc _
          generalize (w.alloc (.cells #[.int .i64 1, .int .i64 d, .int .i64 a, .int .i64 b] 25)).alloc (.cells #[.int .i64 1, .int .i64 d, .int .i64 a2, .int .i64 b2] 25) = W at hb0 hb1 hg0 ⊢
          refine rFields_any 1 d a b 1 d a2 b2 _ _ ?_
          intro w1 hg1
          rw [HN.out]
          have HF := Lib.hid (HR2.out w1 (hg0.trans hg1))
          replace hb0 := hg1.blk hb0
          replace hb1 := hg1.blk hb1
          obtain ⟨e0, e1, e2, e3⟩ := box4 hb0
          obtain ⟨f0, f1, f2, f3⟩ := box4 hb1
          have hz := lt_of_block hb1
          clear hb0 hb1 hg0 hg1
          go_wp2_with (go_at_call 107; refine mixes_any _ _ _ ?_)
          exact HF.out
        · skip
          have hi2a : ((a2 - a) == 1) = false := by simpa using hi2
          have hi2b : ((a2 - a) != 1) = true := by simpa using hi2
          have hv : rnearB (⟨1, d, a, b⟩ : Ln) ⟨1, d, a2, b2⟩ = false := by unfold rnearB; rw [if_neg hlm, if_neg (by dsimp only; omega), if_neg (by dsimp only; omega), if_neg (by dsimp only; omega), if_neg hF, if_neg (by rw [HN.out]; simpa using hn1), if_pos (by dsimp only; omega)]; simp only [decide_eq_false_iff_not]; omega
          rw [hv] at HR
          clear hv
          have HR2 := Lib.hid HR.out
          clear HR hlm hn
          try clear hF
          try clear hn1
          try clear hi1
          try clear hi2
          try clear haa
          try clear hb
          try clear hx
          try clear f1
          go_enter Tryz.func64, Tryz.ntmps64
          go_wp2_with fail
          have hb0 := heap_two0 w (.cells #[.int .i64 1, .int .i64 d, .int .i64 a, .int .i64 b] 25) (.cells #[.int .i64 1, .int .i64 d, .int .i64 a2, .int .i64 b2] 25)
          have hb1 := heap_two1 w (.cells #[.int .i64 1, .int .i64 d, .int .i64 a, .int .i64 b] 25) (.cells #[.int .i64 1, .int .i64 d, .int .i64 a2, .int .i64 b2] 25)
          have hg0 : Grow w ((w.alloc (.cells #[.int .i64 1, .int .i64 d, .int .i64 a, .int .i64 b] 25)).alloc (.cells #[.int .i64 1, .int .i64 d, .int .i64 a2, .int .i64 b2] 25)) := ((Grow.refl w).alloc _).alloc _
          generalize (w.alloc (.cells #[.int .i64 1, .int .i64 d, .int .i64 a, .int .i64 b] 25)).alloc (.cells #[.int .i64 1, .int .i64 d, .int .i64 a2, .int .i64 b2] 25) = W at hb0 hb1 hg0 ⊢
          refine rFields_any 1 d a b 1 d a2 b2 _ _ ?_
          intro w1 hg1
          rw [HN.out]
          have HF := Lib.hid (HR2.out w1 (hg0.trans hg1))
          replace hb0 := hg1.blk hb0
          replace hb1 := hg1.blk hb1
          obtain ⟨e0, e1, e2, e3⟩ := box4 hb0
          obtain ⟨f0, f1, f2, f3⟩ := box4 hb1
          have hz := lt_of_block hb1
          clear hb0 hb1 hg0 hg1
          go_wp2_with (go_at_call 107; refine mixes_any _ _ _ ?_)
          exact HF.out
    · skip
      have hn1a : (n == 1) = false := by simpa using hn1
      have hn1b : (n != 1) = true := by simpa using hn1
      have hv : rnearB (⟨1, d, a, b⟩ : Ln) ⟨1, d, a2, b2⟩ = false := by unfold rnearB; rw [if_neg hlm, if_neg (by dsimp only; omega), if_neg (by dsimp only; omega), if_neg (by dsimp only; omega), if_neg hF, if_pos (by rw [HN.out]; exact hn1)]
      rw [hv] at HR
      clear hv
      have HR2 := Lib.hid HR.out
      clear HR hlm hn
      try clear hF
      try clear hn1
      try clear haa
      try clear hb
      try clear hx
      try clear f1
      go_enter Tryz.func64, Tryz.ntmps64
      go_wp2_with fail
      have hb0 := heap_two0 w (.cells #[.int .i64 1, .int .i64 d, .int .i64 a, .int .i64 b] 25) (.cells #[.int .i64 1, .int .i64 d, .int .i64 a2, .int .i64 b2] 25)
      have hb1 := heap_two1 w (.cells #[.int .i64 1, .int .i64 d, .int .i64 a, .int .i64 b] 25) (.cells #[.int .i64 1, .int .i64 d, .int .i64 a2, .int .i64 b2] 25)
      have hg0 : Grow w ((w.alloc (.cells #[.int .i64 1, .int .i64 d, .int .i64 a, .int .i64 b] 25)).alloc (.cells #[.int .i64 1, .int .i64 d, .int .i64 a2, .int .i64 b2] 25)) := ((Grow.refl w).alloc _).alloc _
      generalize (w.alloc (.cells #[.int .i64 1, .int .i64 d, .int .i64 a, .int .i64 b] 25)).alloc (.cells #[.int .i64 1, .int .i64 d, .int .i64 a2, .int .i64 b2] 25) = W at hb0 hb1 hg0 ⊢
      refine rFields_any 1 d a b 1 d a2 b2 _ _ ?_
      intro w1 hg1
      rw [HN.out]
      have HF := Lib.hid (HR2.out w1 (hg0.trans hg1))
      replace hb0 := hg1.blk hb0
      replace hb1 := hg1.blk hb1
      obtain ⟨e0, e1, e2, e3⟩ := box4 hb0
      obtain ⟨f0, f1, f2, f3⟩ := box4 hb1
      have hz := lt_of_block hb1
      clear hb0 hb1 hg0 hg1
      go_wp2_with (go_at_call 107; refine mixes_any _ _ _ ?_)
      exact HF.out
  subst hx
  have hb : b ≠ b2 := fun e => hlm (by rw [e])
  have hba : (b == b2) = false := by simpa using hb
  have hbb : (b != b2) = true := by simpa using hb
  have hF : ¬ (d = d ∧ 3 ≤ (1 : Int) ∧ a = b2 ∧ b = a) := by omega
  by_cases hn1 : n = 1
  · skip
    have hn1a : (n == 1) = true := by simpa using hn1
    have hn1b : (n != 1) = false := by simpa using hn1
    have hv : rnearB (⟨1, d, a, b⟩ : Ln) ⟨1, d, a, b2⟩ = true := by unfold rnearB; rw [if_neg hlm, if_neg (by dsimp only; omega), if_neg (by dsimp only; omega), if_neg (by dsimp only; omega), if_neg hF, if_neg (by rw [HN.out]; simpa using hn1), if_neg (by dsimp only; omega), if_neg (by dsimp only; omega)]
    rw [hv] at HR
    clear hv
    have HR2 := Lib.hid HR.out
    clear HR hlm hn
    try clear hF
    try clear hn1
    try clear haa
    try clear hb
    try clear hx
    try clear f1
    go_enter Tryz.func64, Tryz.ntmps64
    go_wp2_with fail
    have hb0 := heap_two0 w (.cells #[.int .i64 1, .int .i64 d, .int .i64 a, .int .i64 b] 25) (.cells #[.int .i64 1, .int .i64 d, .int .i64 a, .int .i64 b2] 25)
    have hb1 := heap_two1 w (.cells #[.int .i64 1, .int .i64 d, .int .i64 a, .int .i64 b] 25) (.cells #[.int .i64 1, .int .i64 d, .int .i64 a, .int .i64 b2] 25)
    have hg0 : Grow w ((w.alloc (.cells #[.int .i64 1, .int .i64 d, .int .i64 a, .int .i64 b] 25)).alloc (.cells #[.int .i64 1, .int .i64 d, .int .i64 a, .int .i64 b2] 25)) := ((Grow.refl w).alloc _).alloc _
    generalize (w.alloc (.cells #[.int .i64 1, .int .i64 d, .int .i64 a, .int .i64 b] 25)).alloc (.cells #[.int .i64 1, .int .i64 d, .int .i64 a, .int .i64 b2] 25) = W at hb0 hb1 hg0 ⊢
    refine rFields_any 1 d a b 1 d a b2 _ _ ?_
    intro w1 hg1
    rw [HN.out]
    have HF := Lib.hid (HR2.out w1 (hg0.trans hg1))
    replace hb0 := hg1.blk hb0
    replace hb1 := hg1.blk hb1
    obtain ⟨e0, e1, e2, e3⟩ := box4 hb0
    obtain ⟨f0, f1, f2, f3⟩ := box4 hb1
    have hz := lt_of_block hb1
    clear hb0 hb1 hg0 hg1
    go_wp2_with (go_at_call 107; refine mixes_any _ _ _ ?_)
    exact HF.out
  · skip
    have hn1a : (n == 1) = false := by simpa using hn1
    have hn1b : (n != 1) = true := by simpa using hn1
    have hv : rnearB (⟨1, d, a, b⟩ : Ln) ⟨1, d, a, b2⟩ = false := by unfold rnearB; rw [if_neg hlm, if_neg (by dsimp only; omega), if_neg (by dsimp only; omega), if_neg (by dsimp only; omega), if_neg hF, if_pos (by rw [HN.out]; exact hn1)]
    rw [hv] at HR
    clear hv
    have HR2 := Lib.hid HR.out
    clear HR hlm hn
    try clear hF
    try clear hn1
    try clear haa
    try clear hb
    try clear hx
    try clear f1
    go_enter Tryz.func64, Tryz.ntmps64
    go_wp2_with fail
    have hb0 := heap_two0 w (.cells #[.int .i64 1, .int .i64 d, .int .i64 a, .int .i64 b] 25) (.cells #[.int .i64 1, .int .i64 d, .int .i64 a, .int .i64 b2] 25)
    have hb1 := heap_two1 w (.cells #[.int .i64 1, .int .i64 d, .int .i64 a, .int .i64 b] 25) (.cells #[.int .i64 1, .int .i64 d, .int .i64 a, .int .i64 b2] 25)
    have hg0 : Grow w ((w.alloc (.cells #[.int .i64 1, .int .i64 d, .int .i64 a, .int .i64 b] 25)).alloc (.cells #[.int .i64 1, .int .i64 d, .int .i64 a, .int .i64 b2] 25)) := ((Grow.refl w).alloc _).alloc _
    generalize (w.alloc (.cells #[.int .i64 1, .int .i64 d, .int .i64 a, .int .i64 b] 25)).alloc (.cells #[.int .i64 1, .int .i64 d, .int .i64 a, .int .i64 b2] 25) = W at hb0 hb1 hg0 ⊢
    refine rFields_any 1 d a b 1 d a b2 _ _ ?_
    intro w1 hg1
    rw [HN.out]
    have HF := Lib.hid (HR2.out w1 (hg0.trans hg1))
    replace hb0 := hg1.blk hb0
    replace hb1 := hg1.blk hb1
    obtain ⟨e0, e1, e2, e3⟩ := box4 hb0
    obtain ⟨f0, f1, f2, f3⟩ := box4 hb1
    have hz := lt_of_block hb1
    clear hb0 hb1 hg0 hg1
    go_wp2_with (go_at_call 107; refine mixes_any _ _ _ ?_)
    exact HF.out
set_option maxRecDepth 100000 in
set_option maxHeartbeats 16000000 in
theorem rnear2_any (op d a b op2 d2 a2 b2 : Int) (w : World) (hlm : ¬ (⟨op, d, a, b⟩ : Ln) = ⟨op2, d2, a2, b2⟩) (hop : op = 2) (hop2 : op2 = 2) (R : Ending → World → Prop) (hR : ∀ w', Grow w w' → R (.returned (.bool (rnearB (⟨op, d, a, b⟩ : Ln) ⟨op2, d2, a2, b2⟩))) w') :
    Calls Tryz.prog 64 #[.agg #[.int .i64 op, .int .i64 d, .int .i64 a, .int .i64 b], .agg #[.int .i64 op2, .int .i64 d2, .int .i64 a2, .int .i64 b2]] w R := by
  subst hop
  subst hop2
  have HR := Lib.hid hR
  clear hR
  obtain ⟨n, hn⟩ : ∃ n, fieldsN (⟨2, d, a, b⟩ : Ln) ⟨2, d2, a2, b2⟩ = n := ⟨_, rfl⟩
  have HN := Lib.hid hn
  by_cases f1 : d = d2
  rotate_left
  · skip
    have f1a : (d == d2) = false := by simpa using f1
    have f1b : (d != d2) = true := by simpa using f1
    have hF : ¬ (d = d2 ∧ 3 ≤ (2 : Int) ∧ a = b2 ∧ b = a2) := by omega
    by_cases hn1 : n = 1
    · skip
      have hn1a : (n == 1) = true := by simpa using hn1
      have hn1b : (n != 1) = false := by simpa using hn1
      have hv : rnearB (⟨2, d, a, b⟩ : Ln) ⟨2, d2, a2, b2⟩ = true := by unfold rnearB; rw [if_neg hlm, if_neg (by dsimp only; omega), if_neg (by dsimp only; omega), if_neg (by dsimp only; omega), if_neg hF, if_neg (by rw [HN.out]; simpa using hn1), if_neg (by dsimp only; omega), if_neg (by dsimp only; omega)]
      rw [hv] at HR
      clear hv
      have HR2 := Lib.hid HR.out
      clear HR hlm hn
      try clear hF
      try clear hn1
      try clear haa
      try clear hb
      try clear hx
      try clear f1
      go_enter Tryz.func64, Tryz.ntmps64
      go_wp2_with fail
      have hb0 := heap_two0 w (.cells #[.int .i64 2, .int .i64 d, .int .i64 a, .int .i64 b] 25) (.cells #[.int .i64 2, .int .i64 d2, .int .i64 a2, .int .i64 b2] 25)
      have hb1 := heap_two1 w (.cells #[.int .i64 2, .int .i64 d, .int .i64 a, .int .i64 b] 25) (.cells #[.int .i64 2, .int .i64 d2, .int .i64 a2, .int .i64 b2] 25)
      have hg0 : Grow w ((w.alloc (.cells #[.int .i64 2, .int .i64 d, .int .i64 a, .int .i64 b] 25)).alloc (.cells #[.int .i64 2, .int .i64 d2, .int .i64 a2, .int .i64 b2] 25)) := ((Grow.refl w).alloc _).alloc _
      generalize (w.alloc (.cells #[.int .i64 2, .int .i64 d, .int .i64 a, .int .i64 b] 25)).alloc (.cells #[.int .i64 2, .int .i64 d2, .int .i64 a2, .int .i64 b2] 25) = W at hb0 hb1 hg0 ⊢
      refine rFields_any 2 d a b 2 d2 a2 b2 _ _ ?_
      intro w1 hg1
      rw [HN.out]
      have HF := Lib.hid (HR2.out w1 (hg0.trans hg1))
      replace hb0 := hg1.blk hb0
      replace hb1 := hg1.blk hb1
      obtain ⟨e0, e1, e2, e3⟩ := box4 hb0
      obtain ⟨f0, f1, f2, f3⟩ := box4 hb1
      have hz := lt_of_block hb1
      clear hb0 hb1 hg0 hg1
      go_wp2_with (go_at_call 107; refine mixes_any _ _ _ ?_)
      exact HF.out
    · skip
      have hn1a : (n == 1) = false := by simpa using hn1
      have hn1b : (n != 1) = true := by simpa using hn1
      have hv : rnearB (⟨2, d, a, b⟩ : Ln) ⟨2, d2, a2, b2⟩ = false := by unfold rnearB; rw [if_neg hlm, if_neg (by dsimp only; omega), if_neg (by dsimp only; omega), if_neg (by dsimp only; omega), if_neg hF, if_pos (by rw [HN.out]; exact hn1)]
      rw [hv] at HR
      clear hv
      have HR2 := Lib.hid HR.out
      clear HR hlm hn
      try clear hF
      try clear hn1
      try clear haa
      try clear hb
      try clear hx
      try clear f1
      go_enter Tryz.func64, Tryz.ntmps64
      go_wp2_with fail
      have hb0 := heap_two0 w (.cells #[.int .i64 2, .int .i64 d, .int .i64 a, .int .i64 b] 25) (.cells #[.int .i64 2, .int .i64 d2, .int .i64 a2, .int .i64 b2] 25)
      have hb1 := heap_two1 w (.cells #[.int .i64 2, .int .i64 d, .int .i64 a, .int .i64 b] 25) (.cells #[.int .i64 2, .int .i64 d2, .int .i64 a2, .int .i64 b2] 25)
      have hg0 : Grow w ((w.alloc (.cells #[.int .i64 2, .int .i64 d, .int .i64 a, .int .i64 b] 25)).alloc (.cells #[.int .i64 2, .int .i64 d2, .int .i64 a2, .int .i64 b2] 25)) := ((Grow.refl w).alloc _).alloc _
      generalize (w.alloc (.cells #[.int .i64 2, .int .i64 d, .int .i64 a, .int .i64 b] 25)).alloc (.cells #[.int .i64 2, .int .i64 d2, .int .i64 a2, .int .i64 b2] 25) = W at hb0 hb1 hg0 ⊢
      refine rFields_any 2 d a b 2 d2 a2 b2 _ _ ?_
      intro w1 hg1
      rw [HN.out]
      have HF := Lib.hid (HR2.out w1 (hg0.trans hg1))
      replace hb0 := hg1.blk hb0
      replace hb1 := hg1.blk hb1
      obtain ⟨e0, e1, e2, e3⟩ := box4 hb0
      obtain ⟨f0, f1, f2, f3⟩ := box4 hb1
      have hz := lt_of_block hb1
      clear hb0 hb1 hg0 hg1
      go_wp2_with (go_at_call 107; refine mixes_any _ _ _ ?_)
      exact HF.out
  subst f1
  by_cases hx : a = a2
  rotate_left
  · skip
    have hxa : (a == a2) = false := by simpa using hx
    have hxb : (a != a2) = true := by simpa using hx
    have hF : ¬ (d = d ∧ 3 ≤ (2 : Int) ∧ a = b2 ∧ b = a2) := by omega
    by_cases hn1 : n = 1
    · skip
      have hn1a : (n == 1) = true := by simpa using hn1
      have hn1b : (n != 1) = false := by simpa using hn1
      have hv : rnearB (⟨2, d, a, b⟩ : Ln) ⟨2, d, a2, b2⟩ = true := by unfold rnearB; rw [if_neg hlm, if_neg (by dsimp only; omega), if_neg (by dsimp only; omega), if_neg (by dsimp only; omega), if_neg hF, if_neg (by rw [HN.out]; simpa using hn1), if_neg (by dsimp only; omega), if_neg (by dsimp only; omega)]
      rw [hv] at HR
      clear hv
      have HR2 := Lib.hid HR.out
      clear HR hlm hn
      try clear hF
      try clear hn1
      try clear haa
      try clear hb
      try clear hx
      try clear f1
      go_enter Tryz.func64, Tryz.ntmps64
      go_wp2_with fail
      have hb0 := heap_two0 w (.cells #[.int .i64 2, .int .i64 d, .int .i64 a, .int .i64 b] 25) (.cells #[.int .i64 2, .int .i64 d, .int .i64 a2, .int .i64 b2] 25)
      have hb1 := heap_two1 w (.cells #[.int .i64 2, .int .i64 d, .int .i64 a, .int .i64 b] 25) (.cells #[.int .i64 2, .int .i64 d, .int .i64 a2, .int .i64 b2] 25)
      have hg0 : Grow w ((w.alloc (.cells #[.int .i64 2, .int .i64 d, .int .i64 a, .int .i64 b] 25)).alloc (.cells #[.int .i64 2, .int .i64 d, .int .i64 a2, .int .i64 b2] 25)) := ((Grow.refl w).alloc _).alloc _
      generalize (w.alloc (.cells #[.int .i64 2, .int .i64 d, .int .i64 a, .int .i64 b] 25)).alloc (.cells #[.int .i64 2, .int .i64 d, .int .i64 a2, .int .i64 b2] 25) = W at hb0 hb1 hg0 ⊢
      refine rFields_any 2 d a b 2 d a2 b2 _ _ ?_
      intro w1 hg1
      rw [HN.out]
      have HF := Lib.hid (HR2.out w1 (hg0.trans hg1))
      replace hb0 := hg1.blk hb0
      replace hb1 := hg1.blk hb1
      obtain ⟨e0, e1, e2, e3⟩ := box4 hb0
      obtain ⟨f0, f1, f2, f3⟩ := box4 hb1
      have hz := lt_of_block hb1
      clear hb0 hb1 hg0 hg1
      go_wp2_with (go_at_call 107; refine mixes_any _ _ _ ?_)
      exact HF.out
    · skip
      have hn1a : (n == 1) = false := by simpa using hn1
      have hn1b : (n != 1) = true := by simpa using hn1
      have hv : rnearB (⟨2, d, a, b⟩ : Ln) ⟨2, d, a2, b2⟩ = false := by unfold rnearB; rw [if_neg hlm, if_neg (by dsimp only; omega), if_neg (by dsimp only; omega), if_neg (by dsimp only; omega), if_neg hF, if_pos (by rw [HN.out]; exact hn1)]
      rw [hv] at HR
      clear hv
      have HR2 := Lib.hid HR.out
      clear HR hlm hn
      try clear hF
      try clear hn1
      try clear haa
      try clear hb
      try clear hx
      try clear f1
      go_enter Tryz.func64, Tryz.ntmps64
      go_wp2_with fail
      have hb0 := heap_two0 w (.cells #[.int .i64 2, .int .i64 d, .int .i64 a, .int .i64 b] 25) (.cells #[.int .i64 2, .int .i64 d, .int .i64 a2, .int .i64 b2] 25)
      have hb1 := heap_two1 w (.cells #[.int .i64 2, .int .i64 d, .int .i64 a, .int .i64 b] 25) (.cells #[.int .i64 2, .int .i64 d, .int .i64 a2, .int .i64 b2] 25)
      have hg0 : Grow w ((w.alloc (.cells #[.int .i64 2, .int .i64 d, .int .i64 a, .int .i64 b] 25)).alloc (.cells #[.int .i64 2, .int .i64 d, .int .i64 a2, .int .i64 b2] 25)) := ((Grow.refl w).alloc _).alloc _
      generalize (w.alloc (.cells #[.int .i64 2, .int .i64 d, .int .i64 a, .int .i64 b] 25)).alloc (.cells #[.int .i64 2, .int .i64 d, .int .i64 a2, .int .i64 b2] 25) = W at hb0 hb1 hg0 ⊢
      refine rFields_any 2 d a b 2 d a2 b2 _ _ ?_
      intro w1 hg1
      rw [HN.out]
      have HF := Lib.hid (HR2.out w1 (hg0.trans hg1))
      replace hb0 := hg1.blk hb0
      replace hb1 := hg1.blk hb1
      obtain ⟨e0, e1, e2, e3⟩ := box4 hb0
      obtain ⟨f0, f1, f2, f3⟩ := box4 hb1
      have hz := lt_of_block hb1
      clear hb0 hb1 hg0 hg1
      go_wp2_with (go_at_call 107; refine mixes_any _ _ _ ?_)
      exact HF.out
  subst hx
  have hb : b ≠ b2 := fun e => hlm (by rw [e])
  have hba : (b == b2) = false := by simpa using hb
  have hbb : (b != b2) = true := by simpa using hb
  have hF : ¬ (d = d ∧ 3 ≤ (2 : Int) ∧ a = b2 ∧ b = a) := by omega
  by_cases hn1 : n = 1
  · skip
    have hn1a : (n == 1) = true := by simpa using hn1
    have hn1b : (n != 1) = false := by simpa using hn1
    have hv : rnearB (⟨2, d, a, b⟩ : Ln) ⟨2, d, a, b2⟩ = true := by unfold rnearB; rw [if_neg hlm, if_neg (by dsimp only; omega), if_neg (by dsimp only; omega), if_neg (by dsimp only; omega), if_neg hF, if_neg (by rw [HN.out]; simpa using hn1), if_neg (by dsimp only; omega), if_neg (by dsimp only; omega)]
    rw [hv] at HR
    clear hv
    have HR2 := Lib.hid HR.out
    clear HR hlm hn
    try clear hF
    try clear hn1
    try clear haa
    try clear hb
    try clear hx
    try clear f1
    go_enter Tryz.func64, Tryz.ntmps64
    go_wp2_with fail
    have hb0 := heap_two0 w (.cells #[.int .i64 2, .int .i64 d, .int .i64 a, .int .i64 b] 25) (.cells #[.int .i64 2, .int .i64 d, .int .i64 a, .int .i64 b2] 25)
    have hb1 := heap_two1 w (.cells #[.int .i64 2, .int .i64 d, .int .i64 a, .int .i64 b] 25) (.cells #[.int .i64 2, .int .i64 d, .int .i64 a, .int .i64 b2] 25)
    have hg0 : Grow w ((w.alloc (.cells #[.int .i64 2, .int .i64 d, .int .i64 a, .int .i64 b] 25)).alloc (.cells #[.int .i64 2, .int .i64 d, .int .i64 a, .int .i64 b2] 25)) := ((Grow.refl w).alloc _).alloc _
    generalize (w.alloc (.cells #[.int .i64 2, .int .i64 d, .int .i64 a, .int .i64 b] 25)).alloc (.cells #[.int .i64 2, .int .i64 d, .int .i64 a, .int .i64 b2] 25) = W at hb0 hb1 hg0 ⊢
    refine rFields_any 2 d a b 2 d a b2 _ _ ?_
    intro w1 hg1
    rw [HN.out]
    have HF := Lib.hid (HR2.out w1 (hg0.trans hg1))
    replace hb0 := hg1.blk hb0
    replace hb1 := hg1.blk hb1
    obtain ⟨e0, e1, e2, e3⟩ := box4 hb0
    obtain ⟨f0, f1, f2, f3⟩ := box4 hb1
    have hz := lt_of_block hb1
    clear hb0 hb1 hg0 hg1
    go_wp2_with (go_at_call 107; refine mixes_any _ _ _ ?_)
    exact HF.out
  · skip
    have hn1a : (n == 1) = false := by simpa using hn1
    have hn1b : (n != 1) = true := by simpa using hn1
    have hv : rnearB (⟨2, d, a, b⟩ : Ln) ⟨2, d, a, b2⟩ = false := by unfold rnearB; rw [if_neg hlm, if_neg (by dsimp only; omega), if_neg (by dsimp only; omega), if_neg (by dsimp only; omega), if_neg hF, if_pos (by rw [HN.out]; exact hn1)]
    rw [hv] at HR
    clear hv
    have HR2 := Lib.hid HR.out
    clear HR hlm hn
    try clear hF
    try clear hn1
    try clear haa
    try clear hb
    try clear hx
    try clear f1
    go_enter Tryz.func64, Tryz.ntmps64
    go_wp2_with fail
    have hb0 := heap_two0 w (.cells #[.int .i64 2, .int .i64 d, .int .i64 a, .int .i64 b] 25) (.cells #[.int .i64 2, .int .i64 d, .int .i64 a, .int .i64 b2] 25)
    have hb1 := heap_two1 w (.cells #[.int .i64 2, .int .i64 d, .int .i64 a, .int .i64 b] 25) (.cells #[.int .i64 2, .int .i64 d, .int .i64 a, .int .i64 b2] 25)
    have hg0 : Grow w ((w.alloc (.cells #[.int .i64 2, .int .i64 d, .int .i64 a, .int .i64 b] 25)).alloc (.cells #[.int .i64 2, .int .i64 d, .int .i64 a, .int .i64 b2] 25)) := ((Grow.refl w).alloc _).alloc _
    generalize (w.alloc (.cells #[.int .i64 2, .int .i64 d, .int .i64 a, .int .i64 b] 25)).alloc (.cells #[.int .i64 2, .int .i64 d, .int .i64 a, .int .i64 b2] 25) = W at hb0 hb1 hg0 ⊢
    refine rFields_any 2 d a b 2 d a b2 _ _ ?_
    intro w1 hg1
    rw [HN.out]
    have HF := Lib.hid (HR2.out w1 (hg0.trans hg1))
    replace hb0 := hg1.blk hb0
    replace hb1 := hg1.blk hb1
    obtain ⟨e0, e1, e2, e3⟩ := box4 hb0
    obtain ⟨f0, f1, f2, f3⟩ := box4 hb1
    have hz := lt_of_block hb1
    clear hb0 hb1 hg0 hg1
    go_wp2_with (go_at_call 107; refine mixes_any _ _ _ ?_)
    exact HF.out
end Go.Proofs.YtbccbokjecdaaaaGreat
