/- The walk of the document's near: whether a valid line is a template of another one. -/
import Derived.Test.YtbccbokjecdaaaaRNear
namespace Go.Proofs.Ytbccbokjecdaaaa
open Go.RowKit

set_option maxRecDepth 100000 in
set_option maxHeartbeats 16000000 in
theorem rnear1_any (op d a b op2 d2 a2 b2 : Int) (w : World) (hlm : ¬ (⟨op, d, a, b⟩ : Ln) = ⟨op2, d2, a2, b2⟩) (hop : op = 1) (hop2 : op2 = 1) (bn : -9 ≤ d ∧ d ≤ 9 ∧ -9 ≤ a ∧ a ≤ 9 ∧ -9 ≤ d2 ∧ d2 ≤ 9 ∧ -9 ≤ a2 ∧ a2 ≤ 9) (R : Ending → World → Prop) (hR : ∀ w', Grow w w' → R (.returned (.bool (rnearB (⟨op, d, a, b⟩ : Ln) ⟨op2, d2, a2, b2⟩))) w') :
    Calls Try.prog 38 #[.agg #[.int .i64 op, .int .i64 d, .int .i64 a, .int .i64 b], .agg #[.int .i64 op2, .int .i64 d2, .int .i64 a2, .int .i64 b2]] w R := by
  subst hop
  subst hop2
  have HR := Lib.hid hR
  clear hR
  obtain ⟨n, hn⟩ : ∃ n, fieldsN (⟨1, d, a, b⟩ : Ln) ⟨1, d2, a2, b2⟩ = n := ⟨_, rfl⟩
  have HN := Lib.hid hn
  by_cases f1 : d = d2
  rotate_left
  · skip
    have f1a : (d == d2) = false := by simpa using f1
    have f1b : (d != d2) = true := by simpa using f1
    have hF : ¬ (d = d2 ∧ 3 ≤ (1 : Int) ∧ a = b2 ∧ b = a2) := by omega
    by_cases hn1 : n = 1
    · skip
      have hn1a : (n == 1) = true := by simpa using hn1
      have hn1b : (n != 1) = false := by simpa using hn1
      have haa : a = a2 := by by_cases h : a = a2; exact h; exfalso; have h9 := HN.out; unfold fieldsN at h9; dsimp only at h9; rw [if_neg f1, if_neg h] at h9; split at h9 <;> split at h9 <;> omega
      have haaa : (a == a2) = true := by simpa using haa
      have haab : (a != a2) = false := by simpa using haa
      have hv : rnearB (⟨1, d, a, b⟩ : Ln) ⟨1, d2, a2, b2⟩ = true := by unfold rnearB; rw [if_neg hlm, if_neg (by dsimp only; omega), if_neg (by dsimp only; omega), if_neg (by dsimp only; omega), if_neg hF, if_neg (by rw [HN.out]; simpa using hn1), if_neg (by dsimp only; omega), if_neg (by dsimp only; omega)]
      rw [hv] at HR
      clear hv
      have HR2 := Lib.hid HR.out
      clear HR hlm hn
      try clear hF
      try clear hn1
      try clear haa
      try clear hb
      try clear hx
      try clear f1
      go_enter Try.func38, Try.ntmps38
      go_wp2_with fail
      have hb0 := heap_two0 w (.cells #[.int .i64 1, .int .i64 d, .int .i64 a, .int .i64 b] 23) (.cells #[.int .i64 1, .int .i64 d2, .int .i64 a2, .int .i64 b2] 23)
      have hb1 := heap_two1 w (.cells #[.int .i64 1, .int .i64 d, .int .i64 a, .int .i64 b] 23) (.cells #[.int .i64 1, .int .i64 d2, .int .i64 a2, .int .i64 b2] 23)
      have hg0 : Grow w ((w.alloc (.cells #[.int .i64 1, .int .i64 d, .int .i64 a, .int .i64 b] 23)).alloc (.cells #[.int .i64 1, .int .i64 d2, .int .i64 a2, .int .i64 b2] 23)) := ((Grow.refl w).alloc _).alloc _
      generalize (w.alloc (.cells #[.int .i64 1, .int .i64 d, .int .i64 a, .int .i64 b] 23)).alloc (.cells #[.int .i64 1, .int .i64 d2, .int .i64 a2, .int .i64 b2] 23) = W at hb0 hb1 hg0 ⊢
      refine rFields_any 1 d a b 1 d2 a2 b2 _ _ ?_
      intro w1 hg1
      rw [HN.out]
      have HF := Lib.hid (HR2.out w1 (hg0.trans hg1))
      replace hb0 := hg1.blk hb0
      replace hb1 := hg1.blk hb1
      obtain ⟨e0, e1, e2, e3⟩ := box4 hb0
      obtain ⟨f0, f1, f2, f3⟩ := box4 hb1
      have hz := lt_of_block hb1
      clear hb0 hb1 hg0 hg1
      go_wp2_with (go_at_call 47; refine mixes_any _ _ _ ?_)
      exact HF.out
    · skip
      have hn1a : (n == 1) = false := by simpa using hn1
      have hn1b : (n != 1) = true := by simpa using hn1
      have hv : rnearB (⟨1, d, a, b⟩ : Ln) ⟨1, d2, a2, b2⟩ = false := by unfold rnearB; rw [if_neg hlm, if_neg (by dsimp only; omega), if_neg (by dsimp only; omega), if_neg (by dsimp only; omega), if_neg hF, if_pos (by rw [HN.out]; exact hn1)]
      rw [hv] at HR
      clear hv
      have HR2 := Lib.hid HR.out
      clear HR hlm hn
      try clear hF
      try clear hn1
      try clear haa
      try clear hb
      try clear hx
      try clear f1
      go_enter Try.func38, Try.ntmps38
      go_wp2_with fail
      have hb0 := heap_two0 w (.cells #[.int .i64 1, .int .i64 d, .int .i64 a, .int .i64 b] 23) (.cells #[.int .i64 1, .int .i64 d2, .int .i64 a2, .int .i64 b2] 23)
      have hb1 := heap_two1 w (.cells #[.int .i64 1, .int .i64 d, .int .i64 a, .int .i64 b] 23) (.cells #[.int .i64 1, .int .i64 d2, .int .i64 a2, .int .i64 b2] 23)
      have hg0 : Grow w ((w.alloc (.cells #[.int .i64 1, .int .i64 d, .int .i64 a, .int .i64 b] 23)).alloc (.cells #[.int .i64 1, .int .i64 d2, .int .i64 a2, .int .i64 b2] 23)) := ((Grow.refl w).alloc _).alloc _
      generalize (w.alloc (.cells #[.int .i64 1, .int .i64 d, .int .i64 a, .int .i64 b] 23)).alloc (.cells #[.int .i64 1, .int .i64 d2, .int .i64 a2, .int .i64 b2] 23) = W at hb0 hb1 hg0 ⊢
      refine rFields_any 1 d a b 1 d2 a2 b2 _ _ ?_
      intro w1 hg1
      rw [HN.out]
      have HF := Lib.hid (HR2.out w1 (hg0.trans hg1))
      replace hb0 := hg1.blk hb0
      replace hb1 := hg1.blk hb1
      obtain ⟨e0, e1, e2, e3⟩ := box4 hb0
      obtain ⟨f0, f1, f2, f3⟩ := box4 hb1
      have hz := lt_of_block hb1
      clear hb0 hb1 hg0 hg1
      go_wp2_with (go_at_call 47; refine mixes_any _ _ _ ?_)
      exact HF.out
  subst f1
  by_cases hx : a = a2
  rotate_left
  · skip
    have hxa : (a == a2) = false := by simpa using hx
    have hxb : (a != a2) = true := by simpa using hx
    have hF : ¬ (d = d ∧ 3 ≤ (1 : Int) ∧ a = b2 ∧ b = a2) := by omega
    by_cases hn1 : n = 1
    · skip
      have hn1a : (n == 1) = true := by simpa using hn1
      have hn1b : (n != 1) = false := by simpa using hn1
      by_cases hi1 : a - a2 = 1
      · skip
        have hi1a : ((a - a2) == 1) = true := by simpa using hi1
        have hi1b : ((a - a2) != 1) = false := by simpa using hi1
        have hv : rnearB (⟨1, d, a, b⟩ : Ln) ⟨1, d, a2, b2⟩ = true := by unfold rnearB; rw [if_neg hlm, if_neg (by dsimp only; omega), if_neg (by dsimp only; omega), if_neg (by dsimp only; omega), if_neg hF, if_neg (by rw [HN.out]; simpa using hn1), if_pos (by dsimp only; omega)]; simp only [decide_eq_true_eq]; exact .inl hi1
        rw [hv] at HR
        clear hv
        have HR2 := Lib.hid HR.out
        clear HR hlm hn
        try clear hF
        try clear hn1
        try clear hi1
        try clear haa
        try clear hb
        try clear hx
        try clear f1
        go_enter Try.func38, Try.ntmps38
        go_wp2_with fail
        have hb0 := heap_two0 w (.cells #[.int .i64 1, .int .i64 d, .int .i64 a, .int .i64 b] 23) (.cells #[.int .i64 1, .int .i64 d, .int .i64 a2, .int .i64 b2] 23)
        have hb1 := heap_two1 w (.cells #[.int .i64 1, .int .i64 d, .int .i64 a, .int .i64 b] 23) (.cells #[.int .i64 1, .int .i64 d, .int .i64 a2, .int .i64 b2] 23)
        have hg0 : Grow w ((w.alloc (.cells #[.int .i64 1, .int .i64 d, .int .i64 a, .int .i64 b] 23)).alloc (.cells #[.int .i64 1, .int .i64 d, .int .i64 a2, .int .i64 b2] 23)) := ((Grow.refl w).alloc _).alloc _
        generalize (w.alloc (.cells #[.int .i64 1, .int .i64 d, .int .i64 a, .int .i64 b] 23)).alloc (.cells #[.int .i64 1, .int .i64 d, .int .i64 a2, .int .i64 b2] 23) = W at hb0 hb1 hg0 ⊢
        refine rFields_any 1 d a b 1 d a2 b2 _ _ ?_
        intro w1 hg1
        rw [HN.out]
        have HF := Lib.hid (HR2.out w1 (hg0.trans hg1))
        replace hb0 := hg1.blk hb0
        replace hb1 := hg1.blk hb1
        obtain ⟨e0, e1, e2, e3⟩ := box4 hb0
        obtain ⟨f0, f1, f2, f3⟩ := box4 hb1
        have hz := lt_of_block hb1
        clear hb0 hb1 hg0 hg1
        go_wp2_with (go_at_call 47; refine mixes_any _ _ _ ?_)
        exact HF.out
      · skip
        have hi1a : ((a - a2) == 1) = false := by simpa using hi1
        have hi1b : ((a - a2) != 1) = true := by simpa using hi1
        by_cases hi2 : a2 - a = 1
        · skip
          have hi2a : ((a2 - a) == 1) = true := by simpa using hi2
          have hi2b : ((a2 - a) != 1) = false := by simpa using hi2
          have hv : rnearB (⟨1, d, a, b⟩ : Ln) ⟨1, d, a2, b2⟩ = true := by unfold rnearB; rw [if_neg hlm, if_neg (by dsimp only; omega), if_neg (by dsimp only; omega), if_neg (by dsimp only; omega), if_neg hF, if_neg (by rw [HN.out]; simpa using hn1), if_pos (by dsimp only; omega)]; simp only [decide_eq_true_eq]; exact .inr hi2
          rw [hv] at HR
          clear hv
          have HR2 := Lib.hid HR.out
          clear HR hlm hn
          try clear hF
          try clear hn1
          try clear hi1
          try clear hi2
          try clear haa
          try clear hb
          try clear hx
          try clear f1
          go_enter Try.func38, Try.ntmps38
          go_wp2_with fail
          have hb0 := heap_two0 w (.cells #[.int .i64 1, .int .i64 d, .int .i64 a, .int .i64 b] 23) (.cells #[.int .i64 1, .int .i64 d, .int .i64 a2, .int .i64 b2] 23)
          have hb1 := heap_two1 w (.cells #[.int .i64 1, .int .i64 d, .int .i64 a, .int .i64 b] 23) (.cells #[.int .i64 1, .int .i64 d, .int .i64 a2, .int .i64 b2] 23)
          have hg0 : Grow w ((w.alloc (.cells #[.int .i64 1, .int .i64 d, .int .i64 a, .int .i64 b] 23)).alloc (.cells #[.int .i64 1, .int .i64 d, .int .i64 a2, .int .i64 b2] 23)) := ((Grow.refl w).alloc _).alloc _
          generalize (w.alloc (.cells #[.int .i64 1, .int .i64 d, .int .i64 a, .int .i64 b] 23)).alloc (.cells #[.int .i64 1, .int .i64 d, .int .i64 a2, .int .i64 b2] 23) = W at hb0 hb1 hg0 ⊢
          refine rFields_any 1 d a b 1 d a2 b2 _ _ ?_
          intro w1 hg1
          rw [HN.out]
          have HF := Lib.hid (HR2.out w1 (hg0.trans hg1))
          replace hb0 := hg1.blk hb0
          replace hb1 := hg1.blk hb1
          obtain ⟨e0, e1, e2, e3⟩ := box4 hb0
          obtain ⟨f0, f1, f2, f3⟩ := box4 hb1
          have hz := lt_of_block hb1
          clear hb0 hb1 hg0 hg1
          go_wp2_with (go_at_call 47; refine mixes_any _ _ _ ?_)
          exact HF.out
        · skip
          have hi2a : ((a2 - a) == 1) = false := by simpa using hi2
          have hi2b : ((a2 - a) != 1) = true := by simpa using hi2
          have hv : rnearB (⟨1, d, a, b⟩ : Ln) ⟨1, d, a2, b2⟩ = false := by unfold rnearB; rw [if_neg hlm, if_neg (by dsimp only; omega), if_neg (by dsimp only; omega), if_neg (by dsimp only; omega), if_neg hF, if_neg (by rw [HN.out]; simpa using hn1), if_pos (by dsimp only; omega)]; simp only [decide_eq_false_iff_not]; omega
          rw [hv] at HR
          clear hv
          have HR2 := Lib.hid HR.out
          clear HR hlm hn
          try clear hF
          try clear hn1
          try clear hi1
          try clear hi2
          try clear haa
          try clear hb
          try clear hx
          try clear f1
          go_enter Try.func38, Try.ntmps38
          go_wp2_with fail
          have hb0 := heap_two0 w (.cells #[.int .i64 1, .int .i64 d, .int .i64 a, .int .i64 b] 23) (.cells #[.int .i64 1, .int .i64 d, .int .i64 a2, .int .i64 b2] 23)
          have hb1 := heap_two1 w (.cells #[.int .i64 1, .int .i64 d, .int .i64 a, .int .i64 b] 23) (.cells #[.int .i64 1, .int .i64 d, .int .i64 a2, .int .i64 b2] 23)
          have hg0 : Grow w ((w.alloc (.cells #[.int .i64 1, .int .i64 d, .int .i64 a, .int .i64 b] 23)).alloc (.cells #[.int .i64 1, .int .i64 d, .int .i64 a2, .int .i64 b2] 23)) := ((Grow.refl w).alloc _).alloc _
          generalize (w.alloc (.cells #[.int .i64 1, .int .i64 d, .int .i64 a, .int .i64 b] 23)).alloc (.cells #[.int .i64 1, .int .i64 d, .int .i64 a2, .int .i64 b2] 23) = W at hb0 hb1 hg0 ⊢
          refine rFields_any 1 d a b 1 d a2 b2 _ _ ?_
          intro w1 hg1
          rw [HN.out]
          have HF := Lib.hid (HR2.out w1 (hg0.trans hg1))
          replace hb0 := hg1.blk hb0
          replace hb1 := hg1.blk hb1
          obtain ⟨e0, e1, e2, e3⟩ := box4 hb0
          obtain ⟨f0, f1, f2, f3⟩ := box4 hb1
          have hz := lt_of_block hb1
          clear hb0 hb1 hg0 hg1
          go_wp2_with (go_at_call 47; refine mixes_any _ _ _ ?_)
          exact HF.out
    · skip
      have hn1a : (n == 1) = false := by simpa using hn1
      have hn1b : (n != 1) = true := by simpa using hn1
      have hv : rnearB (⟨1, d, a, b⟩ : Ln) ⟨1, d, a2, b2⟩ = false := by unfold rnearB; rw [if_neg hlm, if_neg (by dsimp only; omega), if_neg (by dsimp only; omega), if_neg (by dsimp only; omega), if_neg hF, if_pos (by rw [HN.out]; exact hn1)]
      rw [hv] at HR
      clear hv
      have HR2 := Lib.hid HR.out
      clear HR hlm hn
      try clear hF
      try clear hn1
      try clear haa
      try clear hb
      try clear hx
      try clear f1
      go_enter Try.func38, Try.ntmps38
      go_wp2_with fail
      have hb0 := heap_two0 w (.cells #[.int .i64 1, .int .i64 d, .int .i64 a, .int .i64 b] 23) (.cells #[.int .i64 1, .int .i64 d, .int .i64 a2, .int .i64 b2] 23)
      have hb1 := heap_two1 w (.cells #[.int .i64 1, .int .i64 d, .int .i64 a, .int .i64 b] 23) (.cells #[.int .i64 1, .int .i64 d, .int .i64 a2, .int .i64 b2] 23)
      have hg0 : Grow w ((w.alloc (.cells #[.int .i64 1, .int .i64 d, .int .i64 a, .int .i64 b] 23)).alloc (.cells #[.int .i64 1, .int .i64 d, .int .i64 a2, .int .i64 b2] 23)) := ((Grow.refl w).alloc _).alloc _
      generalize (w.alloc (.cells #[.int .i64 1, .int .i64 d, .int .i64 a, .int .i64 b] 23)).alloc (.cells #[.int .i64 1, .int .i64 d, .int .i64 a2, .int .i64 b2] 23) = W at hb0 hb1 hg0 ⊢
      refine rFields_any 1 d a b 1 d a2 b2 _ _ ?_
      intro w1 hg1
      rw [HN.out]
      have HF := Lib.hid (HR2.out w1 (hg0.trans hg1))
      replace hb0 := hg1.blk hb0
      replace hb1 := hg1.blk hb1
      obtain ⟨e0, e1, e2, e3⟩ := box4 hb0
      obtain ⟨f0, f1, f2, f3⟩ := box4 hb1
      have hz := lt_of_block hb1
      clear hb0 hb1 hg0 hg1
      go_wp2_with (go_at_call 47; refine mixes_any _ _ _ ?_)
      exact HF.out
  subst hx
  have hb : b ≠ b2 := fun e => hlm (by rw [e])
  have hba : (b == b2) = false := by simpa using hb
  have hbb : (b != b2) = true := by simpa using hb
  have hF : ¬ (d = d ∧ 3 ≤ (1 : Int) ∧ a = b2 ∧ b = a) := by omega
  by_cases hn1 : n = 1
  · skip
    have hn1a : (n == 1) = true := by simpa using hn1
    have hn1b : (n != 1) = false := by simpa using hn1
    have hv : rnearB (⟨1, d, a, b⟩ : Ln) ⟨1, d, a, b2⟩ = true := by unfold rnearB; rw [if_neg hlm, if_neg (by dsimp only; omega), if_neg (by dsimp only; omega), if_neg (by dsimp only; omega), if_neg hF, if_neg (by rw [HN.out]; simpa using hn1), if_neg (by dsimp only; omega), if_neg (by dsimp only; omega)]
    rw [hv] at HR
    clear hv
    have HR2 := Lib.hid HR.out
    clear HR hlm hn
    try clear hF
    try clear hn1
    try clear haa
    try clear hb
    try clear hx
    try clear f1
    go_enter Try.func38, Try.ntmps38
    go_wp2_with fail
    have hb0 := heap_two0 w (.cells #[.int .i64 1, .int .i64 d, .int .i64 a, .int .i64 b] 23) (.cells #[.int .i64 1, .int .i64 d, .int .i64 a, .int .i64 b2] 23)
    have hb1 := heap_two1 w (.cells #[.int .i64 1, .int .i64 d, .int .i64 a, .int .i64 b] 23) (.cells #[.int .i64 1, .int .i64 d, .int .i64 a, .int .i64 b2] 23)
    have hg0 : Grow w ((w.alloc (.cells #[.int .i64 1, .int .i64 d, .int .i64 a, .int .i64 b] 23)).alloc (.cells #[.int .i64 1, .int .i64 d, .int .i64 a, .int .i64 b2] 23)) := ((Grow.refl w).alloc _).alloc _
    generalize (w.alloc (.cells #[.int .i64 1, .int .i64 d, .int .i64 a, .int .i64 b] 23)).alloc (.cells #[.int .i64 1, .int .i64 d, .int .i64 a, .int .i64 b2] 23) = W at hb0 hb1 hg0 ⊢
    refine rFields_any 1 d a b 1 d a b2 _ _ ?_
    intro w1 hg1
    rw [HN.out]
    have HF := Lib.hid (HR2.out w1 (hg0.trans hg1))
    replace hb0 := hg1.blk hb0
    replace hb1 := hg1.blk hb1
    obtain ⟨e0, e1, e2, e3⟩ := box4 hb0
    obtain ⟨f0, f1, f2, f3⟩ := box4 hb1
    have hz := lt_of_block hb1
    clear hb0 hb1 hg0 hg1
    go_wp2_with (go_at_call 47; refine mixes_any _ _ _ ?_)
    exact HF.out
  · skip
    have hn1a : (n == 1) = false := by simpa using hn1
    have hn1b : (n != 1) = true := by simpa using hn1
    have hv : rnearB (⟨1, d, a, b⟩ : Ln) ⟨1, d, a, b2⟩ = false := by unfold rnearB; rw [if_neg hlm, if_neg (by dsimp only; omega), if_neg (by dsimp only; omega), if_neg (by dsimp only; omega), if_neg hF, if_pos (by rw [HN.out]; exact hn1)]
    rw [hv] at HR
    clear hv
    have HR2 := Lib.hid HR.out
    clear HR hlm hn
    try clear hF
    try clear hn1
    try clear haa
    try clear hb
    try clear hx
    try clear f1
    go_enter Try.func38, Try.ntmps38
    go_wp2_with fail
    have hb0 := heap_two0 w (.cells #[.int .i64 1, .int .i64 d, .int .i64 a, .int .i64 b] 23) (.cells #[.int .i64 1, .int .i64 d, .int .i64 a, .int .i64 b2] 23)
    have hb1 := heap_two1 w (.cells #[.int .i64 1, .int .i64 d, .int .i64 a, .int .i64 b] 23) (.cells #[.int .i64 1, .int .i64 d, .int .i64 a, .int .i64 b2] 23)
    have hg0 : Grow w ((w.alloc (.cells #[.int .i64 1, .int .i64 d, .int .i64 a, .int .i64 b] 23)).alloc (.cells #[.int .i64 1, .int .i64 d, .int .i64 a, .int .i64 b2] 23)) := ((Grow.refl w).alloc _).alloc _
    generalize (w.alloc (.cells #[.int .i64 1, .int .i64 d, .int .i64 a, .int .i64 b] 23)).alloc (.cells #[.int .i64 1, .int .i64 d, .int .i64 a, .int .i64 b2] 23) = W at hb0 hb1 hg0 ⊢
    refine rFields_any 1 d a b 1 d a b2 _ _ ?_
    intro w1 hg1
    rw [HN.out]
    have HF := Lib.hid (HR2.out w1 (hg0.trans hg1))
    replace hb0 := hg1.blk hb0
    replace hb1 := hg1.blk hb1
    obtain ⟨e0, e1, e2, e3⟩ := box4 hb0
    obtain ⟨f0, f1, f2, f3⟩ := box4 hb1
    have hz := lt_of_block hb1
    clear hb0 hb1 hg0 hg1
    go_wp2_with (go_at_call 47; refine mixes_any _ _ _ ?_)
    exact HF.out
set_option maxRecDepth 100000 in
set_option maxHeartbeats 16000000 in
theorem rnear2_any (op d a b op2 d2 a2 b2 : Int) (w : World) (hlm : ¬ (⟨op, d, a, b⟩ : Ln) = ⟨op2, d2, a2, b2⟩) (hop : op = 2) (hop2 : op2 = 2) (R : Ending → World → Prop) (hR : ∀ w', Grow w w' → R (.returned (.bool (rnearB (⟨op, d, a, b⟩ : Ln) ⟨op2, d2, a2, b2⟩))) w') :
    Calls Try.prog 38 #[.agg #[.int .i64 op, .int .i64 d, .int .i64 a, .int .i64 b], .agg #[.int .i64 op2, .int .i64 d2, .int .i64 a2, .int .i64 b2]] w R := by
  subst hop
  subst hop2
  have HR := Lib.hid hR
  clear hR
  obtain ⟨n, hn⟩ : ∃ n, fieldsN (⟨2, d, a, b⟩ : Ln) ⟨2, d2, a2, b2⟩ = n := ⟨_, rfl⟩
  have HN := Lib.hid hn
  by_cases f1 : d = d2
  rotate_left
  · skip
    have f1a : (d == d2) = false := by simpa using f1
    have f1b : (d != d2) = true := by simpa using f1
    have hF : ¬ (d = d2 ∧ 3 ≤ (2 : Int) ∧ a = b2 ∧ b = a2) := by omega
    by_cases hn1 : n = 1
    · skip
      have hn1a : (n == 1) = true := by simpa using hn1
      have hn1b : (n != 1) = false := by simpa using hn1
      have hv : rnearB (⟨2, d, a, b⟩ : Ln) ⟨2, d2, a2, b2⟩ = true := by unfold rnearB; rw [if_neg hlm, if_neg (by dsimp only; omega), if_neg (by dsimp only; omega), if_neg (by dsimp only; omega), if_neg hF, if_neg (by rw [HN.out]; simpa using hn1), if_neg (by dsimp only; omega), if_neg (by dsimp only; omega)]
      rw [hv] at HR
      clear hv
      have HR2 := Lib.hid HR.out
      clear HR hlm hn
      try clear hF
      try clear hn1
      try clear haa
      try clear hb
      try clear hx
      try clear f1
      go_enter Try.func38, Try.ntmps38
      go_wp2_with fail
      have hb0 := heap_two0 w (.cells #[.int .i64 2, .int .i64 d, .int .i64 a, .int .i64 b] 23) (.cells #[.int .i64 2, .int .i64 d2, .int .i64 a2, .int .i64 b2] 23)
      have hb1 := heap_two1 w (.cells #[.int .i64 2, .int .i64 d, .int .i64 a, .int .i64 b] 23) (.cells #[.int .i64 2, .int .i64 d2, .int .i64 a2, .int .i64 b2] 23)
      have hg0 : Grow w ((w.alloc (.cells #[.int .i64 2, .int .i64 d, .int .i64 a, .int .i64 b] 23)).alloc (.cells #[.int .i64 2, .int .i64 d2, .int .i64 a2, .int .i64 b2] 23)) := ((Grow.refl w).alloc _).alloc _
      generalize (w.alloc (.cells #[.int .i64 2, .int .i64 d, .int .i64 a, .int .i64 b] 23)).alloc (.cells #[.int .i64 2, .int .i64 d2, .int .i64 a2, .int .i64 b2] 23) = W at hb0 hb1 hg0 ⊢
      refine rFields_any 2 d a b 2 d2 a2 b2 _ _ ?_
      intro w1 hg1
      rw [HN.out]
      have HF := Lib.hid (HR2.out w1 (hg0.trans hg1))
      replace hb0 := hg1.blk hb0
      replace hb1 := hg1.blk hb1
      obtain ⟨e0, e1, e2, e3⟩ := box4 hb0
      obtain ⟨f0, f1, f2, f3⟩ := box4 hb1
      have hz := lt_of_block hb1
      clear hb0 hb1 hg0 hg1
      go_wp2_with (go_at_call 47; refine mixes_any _ _ _ ?_)
      exact HF.out
    · skip
      have hn1a : (n == 1) = false := by simpa using hn1
      have hn1b : (n != 1) = true := by simpa using hn1
      have hv : rnearB (⟨2, d, a, b⟩ : Ln) ⟨2, d2, a2, b2⟩ = false := by unfold rnearB; rw [if_neg hlm, if_neg (by dsimp only; omega), if_neg (by dsimp only; omega), if_neg (by dsimp only; omega), if_neg hF, if_pos (by rw [HN.out]; exact hn1)]
      rw [hv] at HR
      clear hv
      have HR2 := Lib.hid HR.out
      clear HR hlm hn
      try clear hF
      try clear hn1
      try clear haa
      try clear hb
      try clear hx
      try clear f1
      go_enter Try.func38, Try.ntmps38
      go_wp2_with fail
      have hb0 := heap_two0 w (.cells #[.int .i64 2, .int .i64 d, .int .i64 a, .int .i64 b] 23) (.cells #[.int .i64 2, .int .i64 d2, .int .i64 a2, .int .i64 b2] 23)
      have hb1 := heap_two1 w (.cells #[.int .i64 2, .int .i64 d, .int .i64 a, .int .i64 b] 23) (.cells #[.int .i64 2, .int .i64 d2, .int .i64 a2, .int .i64 b2] 23)
      have hg0 : Grow w ((w.alloc (.cells #[.int .i64 2, .int .i64 d, .int .i64 a, .int .i64 b] 23)).alloc (.cells #[.int .i64 2, .int .i64 d2, .int .i64 a2, .int .i64 b2] 23)) := ((Grow.refl w).alloc _).alloc _
      generalize (w.alloc (.cells #[.int .i64 2, .int .i64 d, .int .i64 a, .int .i64 b] 23)).alloc (.cells #[.int .i64 2, .int .i64 d2, .int .i64 a2, .int .i64 b2] 23) = W at hb0 hb1 hg0 ⊢
      refine rFields_any 2 d a b 2 d2 a2 b2 _ _ ?_
      intro w1 hg1
      rw [HN.out]
      have HF := Lib.hid (HR2.out w1 (hg0.trans hg1))
      replace hb0 := hg1.blk hb0
      replace hb1 := hg1.blk hb1
      obtain ⟨e0, e1, e2, e3⟩ := box4 hb0
      obtain ⟨f0, f1, f2, f3⟩ := box4 hb1
      have hz := lt_of_block hb1
      clear hb0 hb1 hg0 hg1
      go_wp2_with (go_at_call 47; refine mixes_any _ _ _ ?_)
      exact HF.out
  subst f1
  by_cases hx : a = a2
  rotate_left
  · skip
    have hxa : (a == a2) = false := by simpa using hx
    have hxb : (a != a2) = true := by simpa using hx
    have hF : ¬ (d = d ∧ 3 ≤ (2 : Int) ∧ a = b2 ∧ b = a2) := by omega
    by_cases hn1 : n = 1
    · skip
      have hn1a : (n == 1) = true := by simpa using hn1
      have hn1b : (n != 1) = false := by simpa using hn1
      have hv : rnearB (⟨2, d, a, b⟩ : Ln) ⟨2, d, a2, b2⟩ = true := by unfold rnearB; rw [if_neg hlm, if_neg (by dsimp only; omega), if_neg (by dsimp only; omega), if_neg (by dsimp only; omega), if_neg hF, if_neg (by rw [HN.out]; simpa using hn1), if_neg (by dsimp only; omega), if_neg (by dsimp only; omega)]
      rw [hv] at HR
      clear hv
      have HR2 := Lib.hid HR.out
      clear HR hlm hn
      try clear hF
      try clear hn1
      try clear haa
      try clear hb
      try clear hx
      try clear f1
      go_enter Try.func38, Try.ntmps38
      go_wp2_with fail
      have hb0 := heap_two0 w (.cells #[.int .i64 2, .int .i64 d, .int .i64 a, .int .i64 b] 23) (.cells #[.int .i64 2, .int .i64 d, .int .i64 a2, .int .i64 b2] 23)
      have hb1 := heap_two1 w (.cells #[.int .i64 2, .int .i64 d, .int .i64 a, .int .i64 b] 23) (.cells #[.int .i64 2, .int .i64 d, .int .i64 a2, .int .i64 b2] 23)
      have hg0 : Grow w ((w.alloc (.cells #[.int .i64 2, .int .i64 d, .int .i64 a, .int .i64 b] 23)).alloc (.cells #[.int .i64 2, .int .i64 d, .int .i64 a2, .int .i64 b2] 23)) := ((Grow.refl w).alloc _).alloc _
      generalize (w.alloc (.cells #[.int .i64 2, .int .i64 d, .int .i64 a, .int .i64 b] 23)).alloc (.cells #[.int .i64 2, .int .i64 d, .int .i64 a2, .int .i64 b2] 23) = W at hb0 hb1 hg0 ⊢
      refine rFields_any 2 d a b 2 d a2 b2 _ _ ?_
      intro w1 hg1
      rw [HN.out]
      have HF := Lib.hid (HR2.out w1 (hg0.trans hg1))
      replace hb0 := hg1.blk hb0
      replace hb1 := hg1.blk hb1
      obtain ⟨e0, e1, e2, e3⟩ := box4 hb0
      obtain ⟨f0, f1, f2, f3⟩ := box4 hb1
      have hz := lt_of_block hb1
      clear hb0 hb1 hg0 hg1
      go_wp2_with (go_at_call 47; refine mixes_any _ _ _ ?_)
      exact HF.out
    · skip
      have hn1a : (n == 1) = false := by simpa using hn1
      have hn1b : (n != 1) = true := by simpa using hn1
      have hv : rnearB (⟨2, d, a, b⟩ : Ln) ⟨2, d, a2, b2⟩ = false := by unfold rnearB; rw [if_neg hlm, if_neg (by dsimp only; omega), if_neg (by dsimp only; omega), if_neg (by dsimp only; omega), if_neg hF, if_pos (by rw [HN.out]; exact hn1)]
      rw [hv] at HR
      clear hv
      have HR2 := Lib.hid HR.out
      clear HR hlm hn
      try clear hF
      try clear hn1
      try clear haa
      try clear hb
      try clear hx
      try clear f1
      go_enter Try.func38, Try.ntmps38
      go_wp2_with fail
      have hb0 := heap_two0 w (.cells #[.int .i64 2, .int .i64 d, .int .i64 a, .int .i64 b] 23) (.cells #[.int .i64 2, .int .i64 d, .int .i64 a2, .int .i64 b2] 23)
      have hb1 := heap_two1 w (.cells #[.int .i64 2, .int .i64 d, .int .i64 a, .int .i64 b] 23) (.cells #[.int .i64 2, .int .i64 d, .int .i64 a2, .int .i64 b2] 23)
      have hg0 : Grow w ((w.alloc (.cells #[.int .i64 2, .int .i64 d, .int .i64 a, .int .i64 b] 23)).alloc (.cells #[.int .i64 2, .int .i64 d, .int .i64 a2, .int .i64 b2] 23)) := ((Grow.refl w).alloc _).alloc _
      generalize (w.alloc (.cells #[.int .i64 2, .int .i64 d, .int .i64 a, .int .i64 b] 23)).alloc (.cells #[.int .i64 2, .int .i64 d, .int .i64 a2, .int .i64 b2] 23) = W at hb0 hb1 hg0 ⊢
      refine rFields_any 2 d a b 2 d a2 b2 _ _ ?_
      intro w1 hg1
      rw [HN.out]
      have HF := Lib.hid (HR2.out w1 (hg0.trans hg1))
      replace hb0 := hg1.blk hb0
      replace hb1 := hg1.blk hb1
      obtain ⟨e0, e1, e2, e3⟩ := box4 hb0
      obtain ⟨f0, f1, f2, f3⟩ := box4 hb1
      have hz := lt_of_block hb1
      clear hb0 hb1 hg0 hg1
      go_wp2_with (go_at_call 47; refine mixes_any _ _ _ ?_)
      exact HF.out
  subst hx
  have hb : b ≠ b2 := fun e => hlm (by rw [e])
  have hba : (b == b2) = false := by simpa using hb
  have hbb : (b != b2) = true := by simpa using hb
  have hF : ¬ (d = d ∧ 3 ≤ (2 : Int) ∧ a = b2 ∧ b = a) := by omega
  by_cases hn1 : n = 1
  · skip
    have hn1a : (n == 1) = true := by simpa using hn1
    have hn1b : (n != 1) = false := by simpa using hn1
    have hv : rnearB (⟨2, d, a, b⟩ : Ln) ⟨2, d, a, b2⟩ = true := by unfold rnearB; rw [if_neg hlm, if_neg (by dsimp only; omega), if_neg (by dsimp only; omega), if_neg (by dsimp only; omega), if_neg hF, if_neg (by rw [HN.out]; simpa using hn1), if_neg (by dsimp only; omega), if_neg (by dsimp only; omega)]
    rw [hv] at HR
    clear hv
    have HR2 := Lib.hid HR.out
    clear HR hlm hn
    try clear hF
    try clear hn1
    try clear haa
    try clear hb
    try clear hx
    try clear f1
    go_enter Try.func38, Try.ntmps38
    go_wp2_with fail
    have hb0 := heap_two0 w (.cells #[.int .i64 2, .int .i64 d, .int .i64 a, .int .i64 b] 23) (.cells #[.int .i64 2, .int .i64 d, .int .i64 a, .int .i64 b2] 23)
    have hb1 := heap_two1 w (.cells #[.int .i64 2, .int .i64 d, .int .i64 a, .int .i64 b] 23) (.cells #[.int .i64 2, .int .i64 d, .int .i64 a, .int .i64 b2] 23)
    have hg0 : Grow w ((w.alloc (.cells #[.int .i64 2, .int .i64 d, .int .i64 a, .int .i64 b] 23)).alloc (.cells #[.int .i64 2, .int .i64 d, .int .i64 a, .int .i64 b2] 23)) := ((Grow.refl w).alloc _).alloc _
    generalize (w.alloc (.cells #[.int .i64 2, .int .i64 d, .int .i64 a, .int .i64 b] 23)).alloc (.cells #[.int .i64 2, .int .i64 d, .int .i64 a, .int .i64 b2] 23) = W at hb0 hb1 hg0 ⊢
    refine rFields_any 2 d a b 2 d a b2 _ _ ?_
    intro w1 hg1
    rw [HN.out]
    have HF := Lib.hid (HR2.out w1 (hg0.trans hg1))
    replace hb0 := hg1.blk hb0
    replace hb1 := hg1.blk hb1
    obtain ⟨e0, e1, e2, e3⟩ := box4 hb0
    obtain ⟨f0, f1, f2, f3⟩ := box4 hb1
    have hz := lt_of_block hb1
    clear hb0 hb1 hg0 hg1
    go_wp2_with (go_at_call 47; refine mixes_any _ _ _ ?_)
    exact HF.out
  · skip
    have hn1a : (n == 1) = false := by simpa using hn1
    have hn1b : (n != 1) = true := by simpa using hn1
    have hv : rnearB (⟨2, d, a, b⟩ : Ln) ⟨2, d, a, b2⟩ = false := by unfold rnearB; rw [if_neg hlm, if_neg (by dsimp only; omega), if_neg (by dsimp only; omega), if_neg (by dsimp only; omega), if_neg hF, if_pos (by rw [HN.out]; exact hn1)]
    rw [hv] at HR
    clear hv
    have HR2 := Lib.hid HR.out
    clear HR hlm hn
    try clear hF
    try clear hn1
    try clear haa
    try clear hb
    try clear hx
    try clear f1
    go_enter Try.func38, Try.ntmps38
    go_wp2_with fail
    have hb0 := heap_two0 w (.cells #[.int .i64 2, .int .i64 d, .int .i64 a, .int .i64 b] 23) (.cells #[.int .i64 2, .int .i64 d, .int .i64 a, .int .i64 b2] 23)
    have hb1 := heap_two1 w (.cells #[.int .i64 2, .int .i64 d, .int .i64 a, .int .i64 b] 23) (.cells #[.int .i64 2, .int .i64 d, .int .i64 a, .int .i64 b2] 23)
    have hg0 : Grow w ((w.alloc (.cells #[.int .i64 2, .int .i64 d, .int .i64 a, .int .i64 b] 23)).alloc (.cells #[.int .i64 2, .int .i64 d, .int .i64 a, .int .i64 b2] 23)) := ((Grow.refl w).alloc _).alloc _
    generalize (w.alloc (.cells #[.int .i64 2, .int .i64 d, .int .i64 a, .int .i64 b] 23)).alloc (.cells #[.int .i64 2, .int .i64 d, .int .i64 a, .int .i64 b2] 23) = W at hb0 hb1 hg0 ⊢
    refine rFields_any 2 d a b 2 d a b2 _ _ ?_
    intro w1 hg1
    rw [HN.out]
    have HF := Lib.hid (HR2.out w1 (hg0.trans hg1))
    replace hb0 := hg1.blk hb0
    replace hb1 := hg1.blk hb1
    obtain ⟨e0, e1, e2, e3⟩ := box4 hb0
    obtain ⟨f0, f1, f2, f3⟩ := box4 hb1
    have hz := lt_of_block hb1
    clear hb0 hb1 hg0 hg1
    go_wp2_with (go_at_call 47; refine mixes_any _ _ _ ?_)
    exact HF.out
end Go.Proofs.Ytbccbokjecdaaaa
