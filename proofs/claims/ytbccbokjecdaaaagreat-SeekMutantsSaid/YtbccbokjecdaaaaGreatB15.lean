/- The walk of the document's near: whether a valid line is a template of another one. -/
import Derived.Test.YtbccbokjecdaaaaGreatB14
namespace Go.Proofs.YtbccbokjecdaaaaGreat
open Go.RowKit

set_option maxRecDepth 100000 in
set_option maxHeartbeats 16000000 in
theorem rnearD_any (op d a b op2 d2 a2 b2 : Int) (w : World) (hlm : ¬ (⟨op, d, a, b⟩ : Ln) = ⟨op2, d2, a2, b2⟩) (h0 : ¬ op = 0) (h2 : ¬ op2 = 0) (h4 : op2 ≠ op) (R : Ending → World → Prop) (hR : ∀ w', Grow w w' → R (.returned (.bool (rnearB (⟨op, d, a, b⟩ : Ln) ⟨op2, d2, a2, b2⟩))) w') :
    Calls Tryz.prog 64 #[.agg #[.int .i64 op, .int .i64 d, .int .i64 a, .int .i64 b], .agg #[.int .i64 op2, .int .i64 d2, .int .i64 a2, .int .i64 b2]] w R := by
  have h0a : (op == 0) = false := by simpa using h0
  have h2a : (op2 == 0) = false := by simpa using h2
  have h4a : (op2 != op) = true := by simpa using h4
  have h4c : (op == op2) = false := by simpa using fun e => h4 e.symm
  have HR := Lib.hid hR
  clear hR
  obtain ⟨n, hn⟩ : ∃ n, fieldsN (⟨op, d, a, b⟩ : Ln) ⟨op2, d2, a2, b2⟩ = n := ⟨_, rfl⟩
  have HN := Lib.hid hn
  by_cases m1 : 3 ≤ op ∧ op ≤ 6
  · skip
    have k1 : inB op 3 6 = true := inB_true.2 m1
    by_cases m2 : 3 ≤ op2 ∧ op2 ≤ 6
    · skip
      have k2 : inB op2 3 6 = true := inB_true.2 m2
      by_cases hn1 : n = 1
      · skip
        have hn1a : (n == 1) = true := by simpa using hn1
        have hn1b : (n != 1) = false := by simpa using hn1
        have hv : rnearB (⟨op, d, a, b⟩ : Ln) ⟨op2, d2, a2, b2⟩ = true := by unfold rnearB; rw [if_neg hlm, if_neg h0, if_neg h2, if_pos h4, if_pos m1, if_pos m2, HN.out]; exact decide_eq_true hn1
        rw [hv] at HR
        clear hv
        have HR2 := Lib.hid HR.out
        clear HR hlm hn h0 h2 h4
        try clear hF
        try clear m1
        try clear m2
        try clear hn1
        try clear haa
        try clear hb
        try clear hx
        try clear f1
        go_enter Tryz.func64, Tryz.ntmps64
        go_wp2_with fail
        have hb0 := heap_two0 w (.cells #[.int .i64 op, .int .i64 d, .int .i64 a, .int .i64 b] 25) (.cells #[.int .i64 op2, .int .i64 d2, .int .i64 a2, .int .i64 b2] 25)
        have hb1 := heap_two1 w (.cells #[.int .i64 op, .int .i64 d, .int .i64 a, .int .i64 b] 25) (.cells #[.int .i64 op2, .int .i64 d2, .int .i64 a2, .int .i64 b2] 25)
        have hg0 : Grow w ((w.alloc (.cells #[.int .i64 op, .int .i64 d, .int .i64 a, .int .i64 b] 25)).alloc (.cells #[.int .i64 op2, .int .i64 d2, .int .i64 a2, .int .i64 b2] 25)) := ((Grow.refl w).alloc _).alloc _
        generalize (w.alloc (.cells #[.int .i64 op, .int .i64 d, .int .i64 a, .int .i64 b] 25)).alloc (.cells #[.int .i64 op2, .int .i64 d2, .int .i64 a2, .int .i64 b2] 25) = W at hb0 hb1 hg0 ⊢
        refine rFields_any op d a b op2 d2 a2 b2 _ _ ?_
        intro w1 hg1
        rw [HN.out]
        have HF := Lib.hid (HR2.out w1 (hg0.trans hg1))
        replace hb0 := hg1.blk hb0
        replace hb1 := hg1.blk hb1
        obtain ⟨e0, e1, e2, e3⟩ := box4 hb0
        obtain ⟨f0, f1, f2, f3⟩ := box4 hb1
        have hz := lt_of_block hb1
        clear hb0 hb1 hg0 hg1
        go_wp2_with (go_at_call 107; refine mixes_any _ _ _ ?_)
        exact HF.out
      · skip
        have hn1a : (n == 1) = false := by simpa using hn1
        have hn1b : (n != 1) = true := by simpa using hn1
        have hv : rnearB (⟨op, d, a, b⟩ : Ln) ⟨op2, d2, a2, b2⟩ = false := by unfold rnearB; rw [if_neg hlm, if_neg h0, if_neg h2, if_pos h4, if_pos m1, if_pos m2, HN.out]; exact decide_eq_false hn1
        rw [hv] at HR
        clear hv
        have HR2 := Lib.hid HR.out
        clear HR hlm hn h0 h2 h4
        try clear hF
        try clear m1
        try clear m2
        try clear hn1
        try clear haa
        try clear hb
        try clear hx
        try clear f1
        go_enter Tryz.func64, Tryz.ntmps64
        go_wp2_with fail
        have hb0 := heap_two0 w (.cells #[.int .i64 op, .int .i64 d, .int .i64 a, .int .i64 b] 25) (.cells #[.int .i64 op2, .int .i64 d2, .int .i64 a2, .int .i64 b2] 25)
        have hb1 := heap_two1 w (.cells #[.int .i64 op, .int .i64 d, .int .i64 a, .int .i64 b] 25) (.cells #[.int .i64 op2, .int .i64 d2, .int .i64 a2, .int .i64 b2] 25)
        have hg0 : Grow w ((w.alloc (.cells #[.int .i64 op, .int .i64 d, .int .i64 a, .int .i64 b] 25)).alloc (.cells #[.int .i64 op2, .int .i64 d2, .int .i64 a2, .int .i64 b2] 25)) := ((Grow.refl w).alloc _).alloc _
        generalize (w.alloc (.cells #[.int .i64 op, .int .i64 d, .int .i64 a, .int .i64 b] 25)).alloc (.cells #[.int .i64 op2, .int .i64 d2, .int .i64 a2, .int .i64 b2] 25) = W at hb0 hb1 hg0 ⊢
        refine rFields_any op d a b op2 d2 a2 b2 _ _ ?_
        intro w1 hg1
        rw [HN.out]
        have HF := Lib.hid (HR2.out w1 (hg0.trans hg1))
        replace hb0 := hg1.blk hb0
        replace hb1 := hg1.blk hb1
        obtain ⟨e0, e1, e2, e3⟩ := box4 hb0
        obtain ⟨f0, f1, f2, f3⟩ := box4 hb1
        have hz := lt_of_block hb1
        clear hb0 hb1 hg0 hg1
        go_wp2_with (go_at_call 107; refine mixes_any _ _ _ ?_)
        exact HF.out
    · skip
      have k2 : inB op2 3 6 = false := inB_false.2 (by omega)
      have hv : rnearB (⟨op, d, a, b⟩ : Ln) ⟨op2, d2, a2, b2⟩ = false := by unfold rnearB; rw [if_neg hlm, if_neg h0, if_neg h2, if_pos h4, if_pos m1, if_neg m2]
      rw [hv] at HR
      clear hv
      have HR2 := Lib.hid HR.out
      clear HR hlm hn h0 h2 h4
      try clear hF
      try clear m1
      try clear m2
      try clear haa
      try clear hb
      try clear hx
      try clear f1
      go_enter Tryz.func64, Tryz.ntmps64
      go_wp2_with fail
      have hb0 := heap_two0 w (.cells #[.int .i64 op, .int .i64 d, .int .i64 a, .int .i64 b] 25) (.cells #[.int .i64 op2, .int .i64 d2, .int .i64 a2, .int .i64 b2] 25)
      have hb1 := heap_two1 w (.cells #[.int .i64 op, .int .i64 d, .int .i64 a, .int .i64 b] 25) (.cells #[.int .i64 op2, .int .i64 d2, .int .i64 a2, .int .i64 b2] 25)
      have hg0 : Grow w ((w.alloc (.cells #[.int .i64 op, .int .i64 d, .int .i64 a, .int .i64 b] 25)).alloc (.cells #[.int .i64 op2, .int .i64 d2, .int .i64 a2, .int .i64 b2] 25)) := ((Grow.refl w).alloc _).alloc _
      generalize (w.alloc (.cells #[.int .i64 op, .int .i64 d, .int .i64 a, .int .i64 b] 25)).alloc (.cells #[.int .i64 op2, .int .i64 d2, .int .i64 a2, .int .i64 b2] 25) = W at hb0 hb1 hg0 ⊢
      refine rFields_any op d a b op2 d2 a2 b2 _ _ ?_
      intro w1 hg1
      rw [HN.out]
      have HF := Lib.hid (HR2.out w1 (hg0.trans hg1))
      replace hb0 := hg1.blk hb0
      replace hb1 := hg1.blk hb1
      obtain ⟨e0, e1, e2, e3⟩ := box4 hb0
      obtain ⟨f0, f1, f2, f3⟩ := box4 hb1
      have hz := lt_of_block hb1
      clear hb0 hb1 hg0 hg1
      go_wp2_with (go_at_call 107; refine mixes_any _ _ _ ?_)
      exact HF.out
  · skip
    have k1 : inB op 3 6 = false := inB_false.2 (by omega)
    have hv : rnearB (⟨op, d, a, b⟩ : Ln) ⟨op2, d2, a2, b2⟩ = false := by unfold rnearB; rw [if_neg hlm, if_neg h0, if_neg h2, if_pos h4, if_neg m1]
    rw [hv] at HR
    clear hv
    have HR2 := Lib.hid HR.out
    clear HR hlm hn h0 h2 h4
    try clear hF
    try clear m1
    try clear haa
    try clear hb
    try clear hx
    try clear f1
    go_enter Tryz.func64, Tryz.ntmps64
    go_wp2_with fail
    have hb0 := heap_two0 w (.cells #[.int .i64 op, .int .i64 d, .int .i64 a, .int .i64 b] 25) (.cells #[.int .i64 op2, .int .i64 d2, .int .i64 a2, .int .i64 b2] 25)
    have hb1 := heap_two1 w (.cells #[.int .i64 op, .int .i64 d, .int .i64 a, .int .i64 b] 25) (.cells #[.int .i64 op2, .int .i64 d2, .int .i64 a2, .int .i64 b2] 25)
    have hg0 : Grow w ((w.alloc (.cells #[.int .i64 op, .int .i64 d, .int .i64 a, .int .i64 b] 25)).alloc (.cells #[.int .i64 op2, .int .i64 d2, .int .i64 a2, .int .i64 b2] 25)) := ((Grow.refl w).alloc _).alloc _
    generalize (w.alloc (.cells #[.int .i64 op, .int .i64 d, .int .i64 a, .int .i64 b] 25)).alloc (.cells #[.int .i64 op2, .int .i64 d2, .int .i64 a2, .int .i64 b2] 25) = W at hb0 hb1 hg0 ⊢
    refine rFields_any op d a b op2 d2 a2 b2 _ _ ?_
    intro w1 hg1
    rw [HN.out]
    have HF := Lib.hid (HR2.out w1 (hg0.trans hg1))
    replace hb0 := hg1.blk hb0
    replace hb1 := hg1.blk hb1
    obtain ⟨e0, e1, e2, e3⟩ := box4 hb0
    obtain ⟨f0, f1, f2, f3⟩ := box4 hb1
    have hz := lt_of_block hb1
    clear hb0 hb1 hg0 hg1
    go_wp2_with (go_at_call 107; refine mixes_any _ _ _ ?_)
    exact HF.out
set_option maxRecDepth 100000 in
set_option maxHeartbeats 16000000 in
theorem rnear7_any (op d a b op2 d2 a2 b2 : Int) (w : World) (hlm : ¬ (⟨op, d, a, b⟩ : Ln) = ⟨op2, d2, a2, b2⟩) (hop : op = 7) (hop2 : op2 = 7) (bn : -9 ≤ d ∧ d ≤ 9 ∧ -9 ≤ a ∧ a ≤ 9 ∧ -9 ≤ d2 ∧ d2 ≤ 9 ∧ -9 ≤ a2 ∧ a2 ≤ 9) (R : Ending → World → Prop) (hR : ∀ w', Grow w w' → R (.returned (.bool (rnearB (⟨op, d, a, b⟩ : Ln) ⟨op2, d2, a2, b2⟩))) w') :
    Calls Tryz.prog 64 #[.agg #[.int .i64 op, .int .i64 d, .int .i64 a, .int .i64 b], .agg #[.int .i64 op2, .int .i64 d2, .int .i64 a2, .int .i64 b2]] w R := by
  subst hop
  subst hop2
  have HR := Lib.hid hR
  clear hR
  obtain ⟨n, hn⟩ : ∃ n, fieldsN (⟨7, d, a, b⟩ : Ln) ⟨7, d2, a2, b2⟩ = n := ⟨_, rfl⟩
  have HN := Lib.hid hn
  by_cases f1 : d = d2
  rotate_left
  · skip
    have f1a : (d == d2) = false := by simpa using f1
    have f1b : (d != d2) = true := by simpa using f1
    have hF : ¬ (d = d2 ∧ 3 ≤ (7 : Int) ∧ a = b2 ∧ b = a2) := by omega
    by_cases hn1 : n = 1
    · skip
      have hn1a : (n == 1) = true := by simpa using hn1
      have hn1b : (n != 1) = false := by simpa using hn1
      by_cases hi1 : d - d2 = 1
      · skip
        have hi1a : ((d - d2) == 1) = true := by simpa using hi1
        have hi1b : ((d - d2) != 1) = false := by simpa using hi1
        have hv : rnearB (⟨7, d, a, b⟩ : Ln) ⟨7, d2, a2, b2⟩ = true := by unfold rnearB; rw [if_neg hlm, if_neg (by dsimp only; omega), if_neg (by dsimp only; omega), if_neg (by dsimp only; omega), if_neg hF, if_neg (by rw [HN.out]; simpa using hn1), if_neg (by dsimp only; omega), if_pos (by dsimp only; omega)]; simp only [decide_eq_true_eq]; exact .inl hi1
        rw [hv] at HR
        clear hv
        have HR2 := Lib.hid HR.out
        clear HR hlm hn
        try clear hF
        try clear hn1
        try clear hi1
        try clear haa
        try clear hb
        try clear hx
        try clear f1
        go_enter Tryz.func64, Tryz.ntmps64
        go_wp2_with fail
        have hb0 := heap_two0 w (.cells #[.int .i64 7, .int .i64 d, .int .i64 a, .int .i64 b] 25) (.cells #[.int .i64 7, .int .i64 d2, .int .i64 a2, .int .i64 b2] 25)
        have hb1 := heap_two1 w (.cells #[.int .i64 7, .int .i64 d, .int .i64 a, .int .i64 b] 25) (.cells #[.int .i64 7, .int .i64 d2, .int .i64 a2, .int .i64 b2] 25)
        have hg0 : Grow w ((w.alloc (.cells #[.int .i64 7, .int .i64 d, .int .i64 a, .int .i64 b] 25)).alloc (.cells #[.int .i64 7, .int .i64 d2, .int .i64 a2, .int .i64 b2] 25)) := ((Grow.refl w).alloc _).alloc _
        generalize (w.alloc (.cells #[.int .i64 7, .int .i64 d, .int .i64 a, .int .i64 b] 25)).alloc (.cells #[.int .i64 7, .int .i64 d2, .int .i64 a2, .int .i64 b2] 25) = W at hb0 hb1 hg0 ⊢
        refine rFields_any 7 d a b 7 d2 a2 b2 _ _ ?_
        intro w1 hg1
        rw [HN.out]
        have HF := Lib.hid (HR2.out w1 (hg0.trans hg1))
        replace hb0 := hg1.blk hb0
        replace hb1 := hg1.blk hb1
        obtain ⟨e0, e1, e2, e3⟩ := box4 hb0
        obtain ⟨f0, f1, f2, f3⟩ := box4 hb1
        have hz := lt_of_block hb1
        clear hb0 hb1 hg0 hg1
        go_wp2_with (go_at_call 107; refine mixes_any _ _ _ ?_)
        exact HF.out
      · skip
        have hi1a : ((d - d2) == 1) = false := by simpa using hi1
        have hi1b : ((d - d2) != 1) = true := by simpa using hi1
        by_cases hi2 : d2 - d = 1
        · skip
          have hi2a : ((d2 - d) == 1) = true := by simpa using hi2
          have hi2b : ((d2 - d) != 1) = false := by simpa using hi2
          have hv : rnearB (⟨7, d, a, b⟩ : Ln) ⟨7, d2, a2, b2⟩ = true := by unfold rnearB; rw [if_neg hlm, if_neg (by dsimp only; omega), if_neg (by dsimp only; omega), if_neg (by dsimp only; omega), if_neg hF, if_neg (by rw [HN.out]; simpa using hn1), if_neg (by dsimp only; omega), if_pos (by dsimp only; omega)]; simp only [decide_eq_true_eq]; exact .inr hi2
          rw [hv] at HR
          clear hv
          have HR2 := Lib.hid HR.out
          clear HR hlm hn
          try clear hF
          try clear hn1
          try clear hi1
          try clear hi2
          try clear haa
          try clear hb
          try clear hx
          try clear f1
          go_enter Tryz.func64, Tryz.ntmps64
          go_wp2_with fail
          have hb0 := heap_two0 w (.cells #[.int .i64 7, .int .i64 d, .int .i64 a, .int .i64 b] 25) (.cells #[.int .i64 7, .int .i64 d2, .int .i64 a2, .int .i64 b2] 25)
          have hb1 := heap_two1 w (.cells #[.int .i64 7, .int .i64 d, .int .i64 a, .int .i64 b] 25) (.cells #[.int .i64 7, .int .i64 d2, .int .i64 a2, .int .i64 b2] 25)
          have hg0 : Grow w ((w.alloc (.cells #[.int .i64 7, .int .i64 d, .int .i64 a, .int .i64 b] 25)).alloc (.cells #[.int .i64 7, .int .i64 d2, .int .i64 a2, .int .i64 b2] 25)) := ((Grow.refl w).alloc _).alloc _
          generalize (w.alloc (.cells #[.int .i64 7, .int .i64 d, .int .i64 a, .int .i64 b] 25)).alloc (.cells #[.int .i64 7, .int .i64 d2, .int .i64 a2, .int .i64 b2] 25) = W at hb0 hb1 hg0 ⊢
          refine rFields_any 7 d a b 7 d2 a2 b2 _ _ ?_
          intro w1 hg1
          rw [HN.out]
          have HF := Lib.hid (HR2.out w1 (hg0.trans hg1))
          replace hb0 := hg1.blk hb0
          replace hb1 := hg1.blk hb1
          obtain ⟨e0, e1, e2, e3⟩ := box4 hb0
          obtain ⟨f0, f1, f2, f3⟩ := box4 hb1
          have hz := lt_of_block hb1
          clear hb0 hb1 hg0 hg1
          go_wp2_with (go_at_call 107; refine mixes_any _ _ _ ?_)
          exact HF.out
        · skip
          have hi2a : ((d2 - d) == 1) = false := by simpa using hi2
          have hi2b : ((d2 - d) != 1) = true := by simpa using hi2
          have hv : rnearB (⟨7, d, a, b⟩ : Ln) ⟨7, d2, a2, b2⟩ = false := by unfold rnearB; rw [if_neg hlm, if_neg (by dsimp only; omega), if_neg (by dsimp only; omega), if_neg (by dsimp only; omega), if_neg hF, if_neg (by rw [HN.out]; simpa using hn1), if_neg (by dsimp only; omega), if_pos (by dsimp only; omega)]; simp only [decide_eq_false_iff_not]; omega
          rw [hv] at HR
          clear hv
          have HR2 := Lib.hid HR.out
          clear HR hlm hn
          try clear hF
          try clear hn1
          try clear hi1
          try clear hi2
          try clear haa
          try clear hb
          try clear hx
          try clear f1
          go_enter Tryz.func64, Tryz.ntmps64
          go_wp2_with fail
          have hb0 := heap_two0 w (.cells #[.int .i64 7, .int .i64 d, .int .i64 a, .int .i64 b] 25) (.cells #[.int .i64 7, .int .i64 d2, .int .i64 a2, .int .i64 b2] 25)
          have hb1 := heap_two1 w (.cells #[.int .i64 7, .int .i64 d, .int .i64 a, .int .i64 b] 25) (.cells #[.int .i64 7, .int .i64 d2, .int .i64 a2, .int .i64 b2] 25)
          have hg0 : Grow w ((w.alloc (.cells #[.int .i64 7, .int .i64 d, .int .i64 a, .int .i64 b] 25)).alloc (.cells #[.int .i64 7, .int .i64 d2, .int .i64 a2, .int .i64 b2] 25)) := ((Grow.refl w).alloc _).alloc _
          generalize (w.alloc (.cells #[.int .i64 7, .int .i64 d, .int .i64 a, .int .i64 b] 25)).alloc (.cells #[.int .i64 7, .int .i64 d2, .int .i64 a2, .int .i64 b2] 25) = W at hb0 hb1 hg0 ⊢
          refine rFields_any 7 d a b 7 d2 a2 b2 _ _ ?_
          intro w1 hg1
          rw [HN.out]
          have HF := Lib.hid (HR2.out w1 (hg0.trans hg1))
          replace hb0 := hg1.blk hb0
          replace hb1 := hg1.blk hb1
          obtain ⟨e0, e1, e2, e3⟩ := box4 hb0
          obtain ⟨f0, f1, f2, f3⟩ := box4 hb1
          have hz := lt_of_block hb1
          clear hb0 hb1 hg0 hg1
          go_wp2_with (go_at_call 107; refine mixes_any _ _ _ ?_)
          exact HF.out
    · skip
      have hn1a : (n == 1) = false := by simpa using hn1
      have hn1b : (n != 1) = true := by simpa using hn1
      have hv : rnearB (⟨7, d, a, b⟩ : Ln) ⟨7, d2, a2, b2⟩ = false := by unfold rnearB; rw [if_neg hlm, if_neg (by dsimp only; omega), if_neg (by dsimp only; omega), if_neg (by dsimp only; omega), if_neg hF, if_pos (by rw [HN.out]; exact hn1)]
      rw [hv] at HR
      clear hv
      have HR2 := Lib.hid HR.out
      clear HR hlm hn
      try clear hF
      try clear hn1
      try clear haa
      try clear hb
      try clear hx
      try clear f1
      go_enter Tryz.func64, Tryz.ntmps64
      go_wp2_with fail
      have hb0 := heap_two0 w (.cells #[.int .i64 7, .int .i64 d, .int .i64 a, .int .i64 b] 25) (.cells #[.int .i64 7, .int .i64 d2, .int .i64 a2, .int .i64 b2] 25)
      have hb1 := heap_two1 w (.cells #[.int .i64 7, .int .i64 d, .int .i64 a, .int .i64 b] 25) (.cells #[.int .i64 7, .int .i64 d2, .int .i64 a2, .int .i64 b2] 25)
      have hg0 : Grow w ((w.alloc (.cells #[.int .i64 7, .int .i64 d, .int .i64 a, .int .i64 b] 25)).alloc (.cells #[.int .i64 7, .int .i64 d2, .int .i64 a2, .int .i64 b2] 25)) := ((Grow.refl w).alloc _).alloc _
      generalize (w.alloc (.cells #[.int .i64 7, .int .i64 d, .int .i64 a, .int .i64 b] 25)).alloc (.cells #[.int .i64 7, .int .i64 d2, .int .i64 a2, .int .i64 b2] 25) = W at hb0 hb1 hg0 ⊢
      refine rFields_any 7 d a b 7 d2 a2 b2 _ _ ?_
      intro w1 hg1
      rw [HN.out]
      have HF := Lib.hid (HR2.out w1 (hg0.trans hg1))
      replace hb0 := hg1.blk hb0
      replace hb1 := hg1.blk hb1
      obtain ⟨e0, e1, e2, e3⟩ := box4 hb0
      obtain ⟨f0, f1, f2, f3⟩ := box4 hb1
      have hz := lt_of_block hb1
      clear hb0 hb1 hg0 hg1
      go_wp2_with (go_at_call 107; refine mixes_any _ _ _ ?_)
      exact HF.out
  subst f1
  by_cases hx : a = a2
  rotate_left
  · skip
    have hxa : (a == a2) = false := by simpa using hx
    have hxb : (a != a2) = true := by simpa using hx
    by_cases f3 : a = b2
    · skip
      have f3a : (a == b2) = true := by simpa using f3
      have f3b : (a != b2) = false := by simpa using f3
      by_cases f4 : b = a2
      · skip
        have f4a : (b == a2) = true := by simpa using f4
        have f4b : (b != a2) = false := by simpa using f4
        have hv : rnearB (⟨7, d, a, b⟩ : Ln) ⟨7, d, a2, b2⟩ = true := by unfold rnearB; rw [if_neg hlm, if_neg (by dsimp only; omega), if_neg (by dsimp only; omega), if_neg (by dsimp only; omega), if_pos (by dsimp only; omega)]
        rw [hv] at HR
        clear hv
        have HR2 := Lib.hid HR.out
        clear HR hlm hn
        try clear hF
        try clear f3
        try clear f4
        try clear haa
        try clear hb
        try clear hx
        try clear f1
        go_enter Tryz.func64, Tryz.ntmps64
        go_wp2_with fail
        have hb0 := heap_two0 w (.cells #[.int .i64 7, .int .i64 d, .int .i64 a, .int .i64 b] 25) (.cells #[.int .i64 7, .int .i64 d, .int .i64 a2, .int .i64 b2] 25)
        have hb1 := heap_two1 w (.cells #[.int .i64 7, .int .i64 d, .int .i64 a, .int .i64 b] 25) (.cells #[.int .i64 7, .int .i64 d, .int .i64 a2, .int .i64 b2] 25)
        have hg0 : Grow w ((w.alloc (.cells #[.int .i64 7, .int .i64 d, .int .i64 a, .int .i64 b] 25)).alloc (.cells #[.int .i64 7, .int .i64 d, .int .i64 a2, .int .i64 b2] 25)) := ((Grow.refl w).alloc _).alloc _
        generalize (w.alloc (.cells #[.int .i64 7, .int .i64 d, .int .i64 a, .int .i64 b] 25)).alloc (.cells #[.int .i64 7, .int .i64 d, .int .i64 a2, .int .i64 b2] 25) = W at hb0 hb1 hg0 ⊢
        refine rFields_any 7 d a b 7 d a2 b2 _ _ ?_
        intro w1 hg1
        rw [HN.out]
        have HF := Lib.hid (HR2.out w1 (hg0.trans hg1))
        replace hb0 := hg1.blk hb0
        replace hb1 := hg1.blk hb1
        obtain ⟨e0, e1, e2, e3⟩ := box4 hb0
        obtain ⟨f0, f1, f2, f3⟩ := box4 hb1
        have hz := lt_of_block hb1
        clear hb0 hb1 hg0 hg1
        go_wp2_with (go_at_call 107; refine mixes_any _ _ _ ?_)
        exact HF.out
      · skip
        have f4a : (b == a2) = false := by simpa using f4
        have f4b : (b != a2) = true := by simpa using f4
        have hF : ¬ (d = d ∧ 3 ≤ (7 : Int) ∧ a = b2 ∧ b = a2) := by omega
        by_cases hn1 : n = 1
        · skip
          have hn1a : (n == 1) = true := by simpa using hn1
          have hn1b : (n != 1) = false := by simpa using hn1
          have hv : rnearB (⟨7, d, a, b⟩ : Ln) ⟨7, d, a2, b2⟩ = true := by unfold rnearB; rw [if_neg hlm, if_neg (by dsimp only; omega), if_neg (by dsimp only; omega), if_neg (by dsimp only; omega), if_neg hF, if_neg (by rw [HN.out]; simpa using hn1), if_neg (by dsimp only; omega), if_neg (by dsimp only; omega)]
          rw [hv] at HR
          clear hv
          have HR2 := Lib.hid HR.out
          clear HR hlm hn
          try clear hF
          try clear f3
          try clear f4
          try clear hn1
          try clear haa
          try clear hb
          try clear hx
          try clear f1
          go_enter Tryz.func64, Tryz.ntmps64
          go_wp2_with fail
          have hb0 := heap_two0 w (.cells #[.int .i64 7, .int .i64 d, .int .i64 a, .int .i64 b] 25) (.cells #[.int .i64 7, .int .i64 d, .int .i64 a2, .int .i64 b2] 25)
          have hb1 := heap_two1 w (.cells #[.int .i64 7, .int .i64 d, .int .i64 a, .int .i64 b] 25) (.cells #[.int .i64 7, .int .i64 d, .int .i64 a2, .int .i64 b2] 25)
          have hg0 : Grow w ((w.alloc (.cells #[.int .i64 7, .int .i64 d, .int .i64 a, .int .i64 b] 25)).alloc (.cells #[.int .i64 7, .int .i64 d, .int .i64 a2, .int .i64 b2] 25)) := ((Grow.refl w).alloc _).alloc _
          generalize (w.alloc (.cells #[.int .i64 7, .int .i64 d, .int .i64 a, .int .i64 b] 25)).alloc (.cells #[.int .i64 7, .int .i64 d, .int .i64 a2, .int .i64 b2] 25) = W at hb0 hb1 hg0 ⊢
          refine rFields_any 7 d a b 7 d a2 b2 _ _ ?_
          intro w1 hg1
          rw [HN.out]
          have HF := Lib.hid (HR2.out w1 (hg0.trans hg1))
          replace hb0 := hg1.blk hb0
          replace hb1 := hg1.blk hb1
          obtain ⟨e0, e1, e2, e3⟩ := box4 hb0
          obtain ⟨f0, f1, f2, f3⟩ := box4 hb1
          have hz := lt_of_block hb1
          clear hb0 hb1 hg0 hg1
          go_wp2_with (go_at_call 107; refine mixes_any _ _ _ ?_)
          exact HF.out
        · skip
          have hn1a : (n == 1) = false := by simpa using hn1
          have hn1b : (n != 1) = true := by simpa using hn1
          have hv : rnearB (⟨7, d, a, b⟩ : Ln) ⟨7, d, a2, b2⟩ = false := by unfold rnearB; rw [if_neg hlm, if_neg (by dsimp only; omega), if_neg (by dsimp only; omega), if_neg (by dsimp only; omega), if_neg hF, if_pos (by rw [HN.out]; exact hn1)]
          rw [hv] at HR
          clear hv
          have HR2 := Lib.hid HR.out
          clear HR hlm hn
          try clear hF
          try clear f3
          try clear f4
          try clear hn1
          try clear haa
          try clear hb
          try clear hx
          try clear f1
          go_enter Tryz.func64, Tryz.ntmps64
          go_wp2_with fail
          have hb0 := heap_two0 w (.cells #[.int .i64 7, .int .i64 d, .int .i64 a, .int .i64 b] 25) (.cells #[.int .i64 7, .int .i64 d, .int .i64 a2, .int .i64 b2] 25)
          have hb1 := heap_two1 w (.cells #[.int .i64 7, .int .i64 d, .int .i64 a, .int .i64 b] 25) (.cells #[.int .i64 7, .int .i64 d, .int .i64 a2, .int .i64 b2] 25)
          have hg0 : Grow w ((w.alloc (.cells #[.int .i64 7, .int .i64 d, .int .i64 a, .int .i64 b] 25)).alloc (.cells #[.int .i64 7, .int .i64 d, .int .i64 a2, .int .i64 b2] 25)) := ((Grow.refl w).alloc _).alloc _
          generalize (w.alloc (.cells #[.int .i64 7, .int .i64 d, .int .i64 a, .int .i64 b] 25)).alloc (.cells #[.int .i64 7, .int .i64 d, .int .i64 a2, .int .i64 b2] 25) = W at hb0 hb1 hg0 ⊢
          refine rFields_any 7 d a b 7 d a2 b2 _ _ ?_
          intro w1 hg1
          rw [HN.out]
          have HF := Lib.hid (HR2.out w1 (hg0.trans hg1))
          replace hb0 := hg1.blk hb0
          replace hb1 := hg1.blk hb1
          obtain ⟨e0, e1, e2, e3⟩ := box4 hb0
          obtain ⟨f0, f1, f2, f3⟩ := box4 hb1
          have hz := lt_of_block hb1
          clear hb0 hb1 hg0 hg1
          go_wp2_with (go_at_call 107; refine mixes_any _ _ _ ?_)
          exact HF.out
    · skip
      have f3a : (a == b2) = false := by simpa using f3
      have f3b : (a != b2) = true := by simpa using f3
      have hF : ¬ (d = d ∧ 3 ≤ (7 : Int) ∧ a = b2 ∧ b = a2) := by omega
      by_cases hn1 : n = 1
      · skip
        have hn1a : (n == 1) = true := by simpa using hn1
        have hn1b : (n != 1) = false := by simpa using hn1
        have hv : rnearB (⟨7, d, a, b⟩ : Ln) ⟨7, d, a2, b2⟩ = true := by unfold rnearB; rw [if_neg hlm, if_neg (by dsimp only; omega), if_neg (by dsimp only; omega), if_neg (by dsimp only; omega), if_neg hF, if_neg (by rw [HN.out]; simpa using hn1), if_neg (by dsimp only; omega), if_neg (by dsimp only; omega)]
        rw [hv] at HR
        clear hv
        have HR2 := Lib.hid HR.out
        clear HR hlm hn
        try clear hF
        try clear f3
        try clear hn1
        try clear haa
        try clear hb
        try clear hx
        try clear f1
        go_enter Tryz.func64, Tryz.ntmps64
        go_wp2_with fail
        have hb0 := heap_two0 w (.cells #[.int .i64 7, .int .i64 d, .int .i64 a, .int .i64 b] 25) (.cells #[.int .i64 7, .int .i64 d, .int .i64 a2, .int .i64 b2] 25)
        have hb1 := heap_two1 w (.cells #[.int .i64 7, .int .i64 d, .int .i64 a, .int .i64 b] 25) (.cells #[.int .i64 7, .int .i64 d, .int .i64 a2, .int .i64 b2] 25)
        have hg0 : Grow w ((w.alloc (.cells #[.int .i64 7, .int .i64 d, .int .i64 a, .int .i64 b] 25)).alloc (.cells #[.int .i64 7, .int .i64 d, .int .i64 a2, .int .i64 b2] 25)) := ((Grow.refl w).alloc _).alloc _
        generalize (w.alloc (.cells #[.int .i64 7, .int .i64 d, .int .i64 a, .int .i64 b] 25)).alloc (.cells #[.int .i64 7, .int .i64 d, .int .i64 a2, .int .i64 b2] 25) = W at hb0 hb1 hg0 ⊢
        refine rFields_any 7 d a b 7 d a2 b2 _ _ ?_
        intro w1 hg1
        rw [HN.out]
        have HF := Lib.hid (HR2.out w1 (hg0.trans hg1))
        replace hb0 := hg1.blk hb0
        replace hb1 := hg1.blk hb1
        obtain ⟨e0, e1, e2, e3⟩ := box4 hb0
        obtain ⟨f0, f1, f2, f3⟩ := box4 hb1
        have hz := lt_of_block hb1
        clear hb0 hb1 hg0 hg1
        go_wp2_with (go_at_call 107; refine mixes_any _ _ _ ?_)
        exact HF.out
      · skip
        have hn1a : (n == 1) = false := by simpa using hn1
        have hn1b : (n != 1) = true := by simpa using hn1
        have hv : rnearB (⟨7, d, a, b⟩ : Ln) ⟨7, d, a2, b2⟩ = false := by unfold rnearB; rw [if_neg hlm, if_neg (by dsimp only; omega), if_neg (by dsimp only; omega), if_neg (by dsimp only; omega), if_neg hF, if_pos (by rw [HN.out]; exact hn1)]
        rw [hv] at HR
        clear hv
        have HR2 := Lib.hid HR.out
        clear HR hlm hn
        try clear hF
        try clear f3
        try clear hn1
        try clear haa
        try clear hb
        try clear hx
        try clear f1
        go_enter Tryz.func64, Tryz.ntmps64
        go_wp2_with fail
        have hb0 := heap_two0 w (.cells #[.int .i64 7, .int .i64 d, .int .i64 a, .int .i64 b] 25) (.cells #[.int .i64 7, .int .i64 d, .int .i64 a2, .int .i64 b2] 25)
        have hb1 := heap_two1 w (.cells #[.int .i64 7, .int .i64 d, .int .i64 a, .int .i64 b] 25) (.cells #[.int .i64 7, .int .i64 d, .int .i64 a2, .int .i64 b2] 25)
        have hg0 : Grow w ((w.alloc (.cells #[.int .i64 7, .int .i64 d, .int .i64 a, .int .i64 b] 25)).alloc (.cells #[.int .i64 7, .int .i64 d, .int .i64 a2, .int .i64 b2] 25)) := ((Grow.refl w).alloc _).alloc _
        generalize (w.alloc (.cells #[.int .i64 7, .int .i64 d, .int .i64 a, .int .i64 b] 25)).alloc (.cells #[.int .i64 7, .int .i64 d, .int .i64 a2, .int .i64 b2] 25) = W at hb0 hb1 hg0 ⊢
        refine rFields_any 7 d a b 7 d a2 b2 _ _ ?_
        intro w1 hg1
        rw [HN.out]
        have HF := Lib.hid (HR2.out w1 (hg0.trans hg1))
        replace hb0 := hg1.blk hb0
        replace hb1 := hg1.blk hb1
        obtain ⟨e0, e1, e2, e3⟩ := box4 hb0
        obtain ⟨f0, f1, f2, f3⟩ := box4 hb1
        have hz := lt_of_block hb1
        clear hb0 hb1 hg0 hg1
        go_wp2_with (go_at_call 107; refine mixes_any _ _ _ ?_)
        exact HF.out
  subst hx
  have hb : b ≠ b2 := fun e => hlm (by rw [e])
  have hba : (b == b2) = false := by simpa using hb
  have hbb : (b != b2) = true := by simpa using hb
  by_cases f3 : a = b2
  · skip
    have f3a : (a == b2) = true := by simpa using f3
    have f3b : (a != b2) = false := by simpa using f3
    by_cases f4 : b = a
    · skip
      have f4a : (b == a) = true := by simpa using f4
      have f4b : (b != a) = false := by simpa using f4
      have hv : rnearB (⟨7, d, a, b⟩ : Ln) ⟨7, d, a, b2⟩ = true := by unfold rnearB; rw [if_neg hlm, if_neg (by dsimp only; omega), if_neg (by dsimp only; omega), if_neg (by dsimp only; omega), if_pos (by dsimp only; omega)]
      rw [hv] at HR
      clear hv
      have HR2 := Lib.hid HR.out
      clear HR hlm hn
      try clear hF
      try clear f3
      try clear f4
      try clear haa
      try clear hb
      try clear hx
      try clear f1
      go_enter Tryz.func64, Tryz.ntmps64
      go_wp2_with fail
      have hb0 := heap_two0 w (.cells #[.int .i64 7, .int .i64 d, .int .i64 a, .int .i64 b] 25) (.cells #[.int .i64 7, .int .i64 d, .int .i64 a, .int .i64 b2] 25)
      have hb1 := heap_two1 w (.cells #[.int .i64 7, .int .i64 d, .int .i64 a, .int .i64 b] 25) (.cells #[.int .i64 7, .int .i64 d, .int .i64 a, .int .i64 b2] 25)
      have hg0 : Grow w ((w.alloc (.cells #[.int .i64 7, .int .i64 d, .int .i64 a, .int .i64 b] 25)).alloc (.cells #[.int .i64 7, .int .i64 d, .int .i64 a, .int .i64 b2] 25)) := ((Grow.refl w).alloc _).alloc _
      generalize (w.alloc (.cells #[.int .i64 7, .int .i64 d, .int .i64 a, .int .i64 b] 25)).alloc (.cells #[.int .i64 7, .int .i64 d, .int .i64 a, .int .i64 b2] 25) = W at hb0 hb1 hg0 ⊢
      refine rFields_any 7 d a b 7 d a b2 _ _ ?_
      intro w1 hg1
      rw [HN.out]
      have HF := Lib.hid (HR2.out w1 (hg0.trans hg1))
      replace hb0 := hg1.blk hb0
      replace hb1 := hg1.blk hb1
      obtain ⟨e0, e1, e2, e3⟩ := box4 hb0
      obtain ⟨f0, f1, f2, f3⟩ := box4 hb1
      have hz := lt_of_block hb1
      clear hb0 hb1 hg0 hg1
      go_wp2_with (go_at_call 107; refine mixes_any _ _ _ ?_)
      exact HF.out
    · skip
      have f4a : (b == a) = false := by simpa using f4
      have f4b : (b != a) = true := by simpa using f4
      have hF : ¬ (d = d ∧ 3 ≤ (7 : Int) ∧ a = b2 ∧ b = a) := by omega
      by_cases hn1 : n = 1
      · skip
        have hn1a : (n == 1) = true := by simpa using hn1
        have hn1b : (n != 1) = false := by simpa using hn1
        have hv : rnearB (⟨7, d, a, b⟩ : Ln) ⟨7, d, a, b2⟩ = true := by unfold rnearB; rw [if_neg hlm, if_neg (by dsimp only; omega), if_neg (by dsimp only; omega), if_neg (by dsimp only; omega), if_neg hF, if_neg (by rw [HN.out]; simpa using hn1), if_neg (by dsimp only; omega), if_neg (by dsimp only; omega)]
        rw [hv] at HR
        clear hv
        have HR2 := Lib.hid HR.out
        clear HR hlm hn
        try clear hF
        try clear f3
        try clear f4
        try clear hn1
        try clear haa
        try clear hb
        try clear hx
        try clear f1
        go_enter Tryz.func64, Tryz.ntmps64
        go_wp2_with fail
        have hb0 := heap_two0 w (.cells #[.int .i64 7, .int .i64 d, .int .i64 a, .int .i64 b] 25) (.cells #[.int .i64 7, .int .i64 d, .int .i64 a, .int .i64 b2] 25)
        have hb1 := heap_two1 w (.cells #[.int .i64 7, .int .i64 d, .int .i64 a, .int .i64 b] 25) (.cells #[.int .i64 7, .int .i64 d, .int .i64 a, .int .i64 b2] 25)
        have hg0 : Grow w ((w.alloc (.cells #[.int .i64 7, .int .i64 d, .int .i64 a, .int .i64 b] 25)).alloc (.cells #[.int .i64 7, .int .i64 d, .int .i64 a, .int .i64 b2] 25)) := ((Grow.refl w).alloc _).alloc _
        generalize (w.alloc (.cells #[.int .i64 7, .int .i64 d, .int .i64 a, .int .i64 b] 25)).alloc (.cells #[.int .i64 7, .int .i64 d, .int .i64 a, .int .i64 b2] 25) = W at hb0 hb1 hg0 ⊢
        refine rFields_any 7 d a b 7 d a b2 _ _ ?_
        intro w1 hg1
        rw [HN.out]
        have HF := Lib.hid (HR2.out w1 (hg0.trans hg1))
        replace hb0 := hg1.blk hb0
        replace hb1 := hg1.blk hb1
        obtain ⟨e0, e1, e2, e3⟩ := box4 hb0
        obtain ⟨f0, f1, f2, f3⟩ := box4 hb1
        have hz := lt_of_block hb1
        clear hb0 hb1 hg0 hg1
        go_wp2_with (go_at_call 107; refine mixes_any _ _ _ ?_)
        exact HF.out
      · skip
        have hn1a : (n == 1) = false := by simpa using hn1
        have hn1b : (n != 1) = true := by simpa using hn1
        have hv : rnearB (⟨7, d, a, b⟩ : Ln) ⟨7, d, a, b2⟩ = false := by unfold rnearB; rw [if_neg hlm, if_neg (by dsimp only; omega), if_neg (by dsimp only; omega), if_neg (by dsimp only; omega), if_neg hF, if_pos (by rw [HN.out]; exact hn1)]
        rw [hv] at HR
        clear hv
        have HR2 := Lib.hid HR.out
        clear HR hlm hn
        try clear hF
        try clear f3
        try clear f4
        try clear hn1
        try clear haa
        try clear hb
        try clear hx
        try clear f1
        go_enter Tryz.func64, Tryz.ntmps64
        go_wp2_with fail
        have hb0 := heap_two0 w (.cells #[.int .i64 7, .int .i64 d, .int .i64 a, .int .i64 b] 25) (.cells #[.int .i64 7, .int .i64 d, .int .i64 a, .int .i64 b2] 25)
        have hb1 := heap_two1 w (.cells #[.int .i64 7, .int .i64 d, .int .i64 a, .int .i64 b] 25) (.cells #[.int .i64 7, .int .i64 d, .int .i64 a, .int .i64 b2] 25)
        have hg0 : Grow w ((w.alloc (.cells #[.int .i64 7, .int .i64 d, .int .i64 a, .int .i64 b] 25)).alloc (.cells #[.int .i64 7, .int .i64 d, .int .i64 a, .int .i64 b2] 25)) := ((Grow.refl w).alloc _).alloc _
        generalize (w.alloc (.cells #[.int .i64 7, .int .i64 d, .int .i64 a, .int .i64 b] 25)).alloc (.cells #[.int .i64 7, .int .i64 d, .int .i64 a, .int .i64 b2] 25) = W at hb0 hb1 hg0 ⊢
        refine rFields_any 7 d a b 7 d a b2 _ _ ?_
        intro w1 hg1
        rw [HN.out]
        have HF := Lib.hid (HR2.out w1 (hg0.trans hg1))
        replace hb0 := hg1.blk hb0
        replace hb1 := hg1.blk hb1
        obtain ⟨e0, e1, e2, e3⟩ := box4 hb0
        obtain ⟨f0, f1, f2, f3⟩ := box4 hb1
        have hz := lt_of_block hb1
        clear hb0 hb1 hg0 hg1
        go_wp2_with (go_at_call 107; refine mixes_any _ _ _ ?_)
        exact HF.out
  · skip
    have f3a : (a == b2) = false := by simpa using f3
    have f3b : (a != b2) = true := by simpa using f3
    have hF : ¬ (d = d ∧ 3 ≤ (7 : Int) ∧ a = b2 ∧ b = a) := by omega
    by_cases hn1 : n = 1
    · skip
      have hn1a : (n == 1) = true := by simpa using hn1
      have hn1b : (n != 1) = false := by simpa using hn1
      have hv : rnearB (⟨7, d, a, b⟩ : Ln) ⟨7, d, a, b2⟩ = true := by unfold rnearB; rw [if_neg hlm, if_neg (by dsimp only; omega), if_neg (by dsimp only; omega), if_neg (by dsimp only; omega), if_neg hF, if_neg (by rw [HN.out]; simpa using hn1), if_neg (by dsimp only; omega), if_neg (by dsimp only; omega)]
      rw [hv] at HR
      clear hv
      have HR2 := Lib.hid HR.out
      clear HR hlm hn
      try clear hF
      try clear f3
      try clear hn1
      try clear haa
      try clear hb
      try clear hx
      try clear f1
      go_enter Tryz.func64, Tryz.ntmps64
      go_wp2_with fail
      have hb0 := heap_two0 w (.cells #[.int .i64 7, .int .i64 d, .int .i64 a, .int .i64 b] 25) (.cells #[.int .i64 7, .int .i64 d, .int .i64 a, .int .i64 b2] 25)
      have hb1 := heap_two1 w (.cells #[.int .i64 7, .int .i64 d, .int .i64 a, .int .i64 b] 25) (.cells #[.int .i64 7, .int .i64 d, .int .i64 a, .int .i64 b2] 25)
      have hg0 : Grow w ((w.alloc (.cells #[.int .i64 7, .int .i64 d, .int .i64 a, .int .i64 b] 25)).alloc (.cells #[.int .i64 7, .int .i64 d, .int .i64 a, .int .i64 b2] 25)) := ((Grow.refl w).alloc _).alloc _
      generalize (w.alloc (.cells #[.int .i64 7, .int .i64 d, .int .i64 a, .int .i64 b] 25)).alloc (.cells #[.int .i64 7, .int .i64 d, .int .i64 a, .int .i64 b2] 25) = W at hb0 hb1 hg0 ⊢
      refine rFields_any 7 d a b 7 d a b2 _ _ ?_
      intro w1 hg1
      rw [HN.out]
      have HF := Lib.hid (HR2.out w1 (hg0.trans hg1))
      replace hb0 := hg1.blk hb0
      replace hb1 := hg1.blk hb1
      obtain ⟨e0, e1, e2, e3⟩ := box4 hb0
      obtain ⟨f0, f1, f2, f3⟩ := box4 hb1
      have hz := lt_of_block hb1
      clear hb0 hb1 hg0 hg1
      go_wp2_with (go_at_call 107; refine mixes_any _ _ _ ?_)
      exact HF.out
    · skip
      have hn1a : (n == 1) = false := by simpa using hn1
      have hn1b : (n != 1) = true := by simpa using hn1
      have hv : rnearB (⟨7, d, a, b⟩ : Ln) ⟨7, d, a, b2⟩ = false := by unfold rnearB; rw [if_neg hlm, if_neg (by dsimp only; omega), if_neg (by dsimp only; omega), if_neg (by dsimp only; omega), if_neg hF, if_pos (by rw [HN.out]; exact hn1)]
      rw [hv] at HR
      clear hv
      have HR2 := Lib.hid HR.out
      clear HR hlm hn
      try clear hF
      try clear f3
      try clear hn1
      try clear haa
      try clear hb
      try clear hx
      try clear f1
      go_enter Tryz.func64, Tryz.ntmps64
      go_wp2_with fail
      have hb0 := heap_two0 w (.cells #[.int .i64 7, .int .i64 d, .int .i64 a, .int .i64 b] 25) (.cells #[.int .i64 7, .int .i64 d, .int .i64 a, .int .i64 b2] 25)
      have hb1 := heap_two1 w (.cells #[.int .i64 7, .int .i64 d, .int .i64 a, .int .i64 b] 25) (.cells #[.int .i64 7, .int .i64 d, .int .i64 a, .int .i64 b2] 25)
      have hg0 : Grow w ((w.alloc (.cells #[.int .i64 7, .int .i64 d, .int .i64 a, .int .i64 b] 25)).alloc (.cells #[.int .i64 7, .int .i64 d, .int .i64 a, .int .i64 b2] 25)) := ((Grow.refl w).alloc _).alloc _
      generalize (w.alloc (.cells #[.int .i64 7, .int .i64 d, .int .i64 a, .int .i64 b] 25)).alloc (.cells #[.int .i64 7, .int .i64 d, .int .i64 a, .int .i64 b2] 25) = W at hb0 hb1 hg0 ⊢
      refine rFields_any 7 d a b 7 d a b2 _ _ ?_
      intro w1 hg1
      rw [HN.out]
      have HF := Lib.hid (HR2.out w1 (hg0.trans hg1))
      replace hb0 := hg1.blk hb0
      replace hb1 := hg1.blk hb1
      obtain ⟨e0, e1, e2, e3⟩ := box4 hb0
      obtain ⟨f0, f1, f2, f3⟩ := box4 hb1
      have hz := lt_of_block hb1
      clear hb0 hb1 hg0 hg1
      go_wp2_with (go_at_call 107; refine mixes_any _ _ _ ?_)
      exact HF.out
end Go.Proofs.YtbccbokjecdaaaaGreat
