/-
The walk of the document's near: whether a valid line is a template of another one.
The walk of the document's near: whether a valid line is a template of another one.
-/
import Derived.Test.YtbccbokjecdaaaaGreatB14
import Derived.Test.YtbccbokjecdaaaaGreatB15
namespace Go.Proofs.YtbccbokjecdaaaaGreat
open Go.RowKit

set_option maxRecDepth 100000 in
set_option maxHeartbeats 16000000 in
theorem rnearG_any (op d a b op2 d2 a2 b2 : Int) (w : World) (hlm : ¬ (⟨op, d, a, b⟩ : Ln) = ⟨op2, d2, a2, b2⟩) (h3 : 3 ≤ op) (h6 : op ≤ 6) (hop2 : op = op2) (R : Ending → World → Prop) (hR : ∀ w', Grow w w' → R (.returned (.bool (rnearB (⟨op, d, a, b⟩ : Ln) ⟨op2, d2, a2, b2⟩))) w') :
    Calls Tryz.prog 64 #[.agg #[.int .i64 op, .int .i64 d, .int .i64 a, .int .i64 b], .agg #[.int .i64 op2, .int .i64 d2, .int .i64 a2, .int .i64 b2]] w R := by
  subst hop2
  have h3a : op ≥ 3 := h3
  have t0 : (op == 0) = false := by simp; omega
  have t1 : (op == 1) = false := by simp; omega
  have t7 : (op == 7) = false := by simp; omega
  have tn : (op != op) = false := by simp
  have HR := Lib.hid hR
  clear hR
  obtain ⟨n, hn⟩ : ∃ n, fieldsN (⟨op, d, a, b⟩ : Ln) ⟨op, d2, a2, b2⟩ = n := ⟨_, rfl⟩
  have HN := Lib.hid hn
  by_cases f1 : d = d2
  rotate_left
  · skip
    have f1a : (d == d2) = false := by simpa using f1
    have f1b : (d != d2) = true := by simpa using f1
    have hF : ¬ (d = d2 ∧ 3 ≤ op ∧ a = b2 ∧ b = a2) := by omega
    by_cases hn1 : n = 1
    · skip
      have hn1a : (n == 1) = true := by simpa using hn1
      have hn1b : (n != 1) = false := by simpa using hn1
      have hv : rnearB (⟨op, d, a, b⟩ : Ln) ⟨op, d2, a2, b2⟩ = true := by unfold rnearB; rw [if_neg hlm, if_neg (by dsimp only; omega), if_neg (by dsimp only; omega), if_neg (by dsimp only; omega), if_neg hF, if_neg (by rw [HN.out]; simpa using hn1), if_neg (by dsimp only; omega), if_neg (by dsimp only; omega)]
      rw [hv] at HR
      clear hv
      have HR2 := Lib.hid HR.out
      clear HR hlm hn
      try clear hF
      try clear hn1
      try clear haa
      try clear hb
      try clear hx
      try clear f1
      go_enter Tryz.func64, Tryz.ntmps64
      go_wp2_with fail
      have hb0 := heap_two0 w (.cells #[.int .i64 op, .int .i64 d, .int .i64 a, .int .i64 b] 25) (.cells #[.int .i64 op, .int .i64 d2, .int .i64 a2, .int .i64 b2] 25)
      have hb1 := heap_two1 w (.cells #[.int .i64 op, .int .i64 d, .int .i64 a, .int .i64 b] 25) (.cells #[.int .i64 op, .int .i64 d2, .int .i64 a2, .int .i64 b2] 25)
      have hg0 : Grow w ((w.alloc (.cells #[.int .i64 op, .int .i64 d, .int .i64 a, .int .i64 b] 25)).alloc (.cells #[.int .i64 op, .int .i64 d2, .int .i64 a2, .int .i64 b2] 25)) := ((Grow.refl w).alloc _).alloc _
      generalize (w.alloc (.cells #[.int .i64 op, .int .i64 d, .int .i64 a, .int .i64 b] 25)).alloc (.cells #[.int .i64 op, .int .i64 d2, .int .i64 a2, .int .i64 b2] 25) = W at hb0 hb1 hg0 ⊢
      refine rFields_any op d a b op d2 a2 b2 _ _ ?_
      intro w1 hg1
      rw [HN.out]
      have HF := Lib.hid (HR2.out w1 (hg0.trans hg1))
      replace hb0 := hg1.blk hb0
      replace hb1 := hg1.blk hb1
      obtain ⟨e0, e1, e2, e3⟩ := box4 hb0
      obtain ⟨f0, f1, f2, f3⟩ := box4 hb1
      have hz := lt_of_block hb1
      clear hb0 hb1 hg0 hg1
      go_wp2_with (go_at_call 107; refine mixes_any _ _ _ ?_)
      exact HF.out
    · skip
      have hn1a : (n == 1) = false := by simpa using hn1
      have hn1b : (n != 1) = true := by simpa using hn1
      have hv : rnearB (⟨op, d, a, b⟩ : Ln) ⟨op, d2, a2, b2⟩ = false := by unfold rnearB; rw [if_neg hlm, if_neg (by dsimp only; omega), if_neg (by dsimp only; omega), if_neg (by dsimp only; omega), if_neg hF, if_pos (by rw [HN.out]; exact hn1)]
      rw [hv] at HR
      clear hv
      have HR2 := Lib.hid HR.out
      clear HR hlm hn
      try clear hF
      try clear hn1
      try clear haa
      try clear hb
      try clear hx
      try clear f1
      go_enter Tryz.func64, Tryz.ntmps64
      go_wp2_with fail
      have hb0 := heap_two0 w (.cells #[.int .i64 op, .int .i64 d, .int .i64 a, .int .i64 b] 25) (.cells #[.int .i64 op, .int .i64 d2, .int .i64 a2, .int .i64 b2] 25)
      have hb1 := heap_two1 w (.cells #[.int .i64 op, .int .i64 d, .int .i64 a, .int .i64 b] 25) (.cells #[.int .i64 op, .int .i64 d2, .int .i64 a2, .int .i64 b2] 25)
      have hg0 : Grow w ((w.alloc (.cells #[.int .i64 op, .int .i64 d, .int .i64 a, .int .i64 b] 25)).alloc (.cells #[.int .i64 op, .int .i64 d2, .int .i64 a2, .int .i64 b2] 25)) := ((Grow.refl w).alloc _).alloc _
      generalize (w.alloc (.cells #[.int .i64 op, .int .i64 d, .int .i64 a, .int .i64 b] 25)).alloc (.cells #[.int .i64 op, .int .i64 d2, .int .i64 a2, .int .i64 b2] 25) = W at hb0 hb1 hg0 ⊢
      refine rFields_any op d a b op d2 a2 b2 _ _ ?_
      intro w1 hg1
      rw [HN.out]
      have HF := Lib.hid (HR2.out w1 (hg0.trans hg1))
      replace hb0 := hg1.blk hb0
      replace hb1 := hg1.blk hb1
      obtain ⟨e0, e1, e2, e3⟩ := box4 hb0
      obtain ⟨f0, f1, f2, f3⟩ := box4 hb1
      have hz := lt_of_block hb1
      clear hb0 hb1 hg0 hg1
      go_wp2_with (go_at_call 107; refine mixes_any _ _ _ ?_)
      exact HF.out
  subst f1
  by_cases hx : a = a2
  rotate_left
  · skip
    have hxa : (a == a2) = false := by simpa using hx
    have hxb : (a != a2) = true := by simpa using hx
    by_cases f3 : a = b2
    · skip
      have f3a : (a == b2) = true := by simpa using f3
      have f3b : (a != b2) = false := by simpa using f3
      by_cases f4 : b = a2
      · skip
        have f4a : (b == a2) = true := by simpa using f4
        have f4b : (b != a2) = false := by simpa using f4
        have hv : rnearB (⟨op, d, a, b⟩ : Ln) ⟨op, d, a2, b2⟩ = true := by unfold rnearB; rw [if_neg hlm, if_neg (by dsimp only; omega), if_neg (by dsimp only; omega), if_neg (by dsimp only; omega), if_pos (by dsimp only; omega)]
        rw [hv] at HR
        clear hv
        have HR2 := Lib.hid HR.out
        clear HR hlm hn
        try clear hF
        try clear f3
        try clear f4
        try clear haa
        try clear hb
        try clear hx
        try clear f1
        go_enter Tryz.func64, Tryz.ntmps64
        go_wp2_with fail
        have hb0 := heap_two0 w (.cells #[.int .i64 op, .int .i64 d, .int .i64 a, .int .i64 b] 25) (.cells #[.int .i64 op, .int .i64 d, .int .i64 a2, .int .i64 b2] 25)
        have hb1 := heap_two1 w (.cells #[.int .i64 op, .int .i64 d, .int .i64 a, .int .i64 b] 25) (.cells #[.int .i64 op, .int .i64 d, .int .i64 a2, .int .i64 b2] 25)
        have hg0 : Grow w ((w.alloc (.cells #[.int .i64 op, .int .i64 d, .int .i64 a, .int .i64 b] 25)).alloc (.cells #[.int .i64 op, .int .i64 d, .int .i64 a2, .int .i64 b2] 25)) := ((Grow.refl w).alloc _).alloc _
        generalize (w.alloc (.cells #[.int .i64 op, .int .i64 d, .int .i64 a, .int .i64 b] 25)).alloc (.cells #[.int .i64 op, .int .i64 d, .int .i64 a2, .int .i64 b2] 25) = W at hb0 hb1 hg0 ⊢
        refine rFields_any op d a b op d a2 b2 _ _ ?_
        intro w1 hg1
        rw [HN.out]
        have HF := Lib.hid (HR2.out w1 (hg0.trans hg1))
        replace hb0 := hg1.blk hb0
        replace hb1 := hg1.blk hb1
        obtain ⟨e0, e1, e2, e3⟩ := box4 hb0
        obtain ⟨f0, f1, f2, f3⟩ := box4 hb1
        have hz := lt_of_block hb1
        clear hb0 hb1 hg0 hg1
        go_wp2_with (go_at_call 107; refine mixes_any _ _ _ ?_)
        exact HF.out
      · skip
        have f4a : (b == a2) = false := by simpa using f4
        have f4b : (b != a2) = true := by simpa using f4
        have hF : ¬ (d = d ∧ 3 ≤ op ∧ a = b2 ∧ b = a2) := by omega
        by_cases hn1 : n = 1
        · skip
          have hn1a : (n == 1) = true := by simpa using hn1
          have hn1b : (n != 1) = false := by simpa using hn1
          have hv : rnearB (⟨op, d, a, b⟩ : Ln) ⟨op, d, a2, b2⟩ = true := by unfold rnearB; rw [if_neg hlm, if_neg (by dsimp only; omega), if_neg (by dsimp only; omega), if_neg (by dsimp only; omega), if_neg hF, if_neg (by rw [HN.out]; simpa using hn1), if_neg (by dsimp only; omega), if_neg (by dsimp only; omega)]
          rw [hv] at HR
          clear hv
          have HR2 := Lib.hid HR.out
          clear HR hlm hn
          try clear hF
          try clear f3
          try clear f4
          try clear hn1
          try clear haa
          try clear hb
          try clear hx
          try clear f1
          go_enter Tryz.func64, Tryz.ntmps64
          go_wp2_with fail
          have hb0 := heap_two0 w (.cells #[.int .i64 op, .int .i64 d, .int .i64 a, .int .i64 b] 25) (.cells #[.int .i64 op, .int .i64 d, .int .i64 a2, .int .i64 b2] 25)
          have hb1 := heap_two1 w (.cells #[.int .i64 op, .int .i64 d, .int .i64 a, .int .i64 b] 25) (.cells #[.int .i64 op, .int .i64 d, .int .i64 a2, .int .i64 b2] 25)
          have hg0 : Grow w ((w.alloc (.cells #[.int .i64 op, .int .i64 d, .int .i64 a, .int .i64 b] 25)).alloc (.cells #[.int .i64 op, .int .i64 d, .int .i64 a2, .int .i64 b2] 25)) := ((Grow.refl w).alloc _).alloc _
          generalize (w.alloc (.cells #[.int .i64 op, .int .i64 d, .int .i64 a, .int .i64 b] 25)).alloc (.cells #[.int .i64 op, .int .i64 d, .int .i64 a2, .int .i64 b2] 25) = W at hb0 hb1 hg0 ⊢
          refine rFields_any op d a b op d a2 b2 _ _ ?_
          intro w1 hg1
          rw [HN.out]
          have HF := Lib.hid (HR2.out w1 (hg0.trans hg1))
          replace hb0 := hg1.blk hb0
          replace hb1 := hg1.blk hb1
          obtain ⟨e0, e1, e2, e3⟩ := box4 hb0
          obtain ⟨f0, f1, f2, f3⟩ := box4 hb1
          have hz := lt_of_block hb1
          clear hb0 hb1 hg0 hg1
          go_wp2_with (go_at_call 107; refine mixes_any _ _ _ ?_)
          exact HF.out
        · skip
          have hn1a : (n == 1) = false := by simpa using hn1
          have hn1b : (n != 1) = true := by simpa using hn1
          have hv : rnearB (⟨op, d, a, b⟩ : Ln) ⟨op, d, a2, b2⟩ = false := by unfold rnearB; rw [if_neg hlm, if_neg (by dsimp only; omega), if_neg (by dsimp only; omega), if_neg (by dsimp only; omega), if_neg hF, if_pos (by rw [HN.out]; exact hn1)]
          rw [hv] at HR
          clear hv
          have HR2 := Lib.hid HR.out
          clear HR hlm hn
          try clear hF
          try clear f3
          try clear f4
          try clear hn1
          try clear haa
          try clear hb
          try clear hx
          try clear f1
          go_enter Tryz.func64, Tryz.ntmps64
          go_wp2_with fail
          have hb0 := heap_two0 w (.cells #[.int .i64 op, .int .i64 d, .int .i64 a, .int .i64 b] 25) (.cells #[.int .i64 op, .int .i64 d, .int .i64 a2, .int .i64 b2] 25)
          have hb1 := heap_two1 w (.cells #[.int .i64 op, .int .i64 d, .int .i64 a, .int .i64 b] 25) (.cells #[.int .i64 op, .int .i64 d, .int .i64 a2, .int .i64 b2] 25)
          have hg0 : Grow w ((w.alloc (.cells #[.int .i64 op, .int .i64 d, .int .i64 a, .int .i64 b] 25)).alloc (.cells #[.int .i64 op, .int .i64 d, .int .i64 a2, .int .i64 b2] 25)) := ((Grow.refl w).alloc _).alloc _
          generalize (w.alloc (.cells #[.int .i64 op, .int .i64 d, .int .i64 a, .int .i64 b] 25)).alloc (.cells #[.int .i64 op, .int .i64 d, .int .i64 a2, .int .i64 b2] 25) = W at hb0 hb1 hg0 ⊢
          refine rFields_any op d a b op d a2 b2 _ _ ?_
          intro w1 hg1
          rw [HN.out]
          have HF := Lib.hid (HR2.out w1 (hg0.trans hg1))
          replace hb0 := hg1.blk hb0
          replace hb1 := hg1.blk hb1
          obtain ⟨e0, e1, e2, e3⟩ := box4 hb0
          obtain ⟨f0, f1, f2, f3⟩ := box4 hb1
          have hz := lt_of_block hb1
          clear hb0 hb1 hg0 hg1
          go_wp2_with (go_at_call 107; refine mixes_any _ _ _ ?_)
          exact HF.out
    · skip
      have f3a : (a == b2) = false := by simpa using f3
      have f3b : (a != b2) = true := by simpa using f3
      have hF : ¬ (d = d ∧ 3 ≤ op ∧ a = b2 ∧ b = a2) := by omega
      by_cases hn1 : n = 1
      · skip
        have hn1a : (n == 1) = true := by simpa using hn1
        have hn1b : (n != 1) = false := by simpa using hn1
        have hv : rnearB (⟨op, d, a, b⟩ : Ln) ⟨op, d, a2, b2⟩ = true := by unfold rnearB; rw [if_neg hlm, if_neg (by dsimp only; omega), if_neg (by dsimp only; omega), if_neg (by dsimp only; omega), if_neg hF, if_neg (by rw [HN.out]; simpa using hn1), if_neg (by dsimp only; omega), if_neg (by dsimp only; omega)]
        rw [hv] at HR
        clear hv
        have HR2 := Lib.hid HR.out
        clear HR hlm hn
        try clear hF
        try clear f3
        try clear hn1
        try clear haa
        try clear hb
        try clear hx
        try clear f1
        go_enter Tryz.func64, Tryz.ntmps64
        go_wp2_with fail
        have hb0 := heap_two0 w (.cells #[.int .i64 op, .int .i64 d, .int .i64 a, .int .i64 b] 25) (.cells #[.int .i64 op, .int .i64 d, .int .i64 a2, .int .i64 b2] 25)
        have hb1 := heap_two1 w (.cells #[.int .i64 op, .int .i64 d, .int .i64 a, .int .i64 b] 25) (.cells #[.int .i64 op, .int .i64 d, .int .i64 a2, .int .i64 b2] 25)
        have hg0 : Grow w ((w.alloc (.cells #[.int .i64 op, .int .i64 d, .int .i64 a, .int .i64 b] 25)).alloc (.cells #[.int .i64 op, .int .i64 d, .int .i64 a2, .int .i64 b2] 25)) := ((Grow.refl w).alloc _).alloc _
        generalize (w.alloc (.cells #[.int .i64 op, .int .i64 d, .int .i64 a, .int .i64 b] 25)).alloc (.cells #[.int .i64 op, .int .i64 d, .int .i64 a2, .int .i64 b2] 25) = W at hb0 hb1 hg0 ⊢
        refine rFields_any op d a b op d a2 b2 _ _ ?_
        intro w1 hg1
        rw [HN.out]
        have HF := Lib.hid (HR2.out w1 (hg0.trans hg1))
        replace hb0 := hg1.blk hb0
        replace hb1 := hg1.blk hb1
        obtain ⟨e0, e1, e2, e3⟩ := box4 hb0
        obtain ⟨f0, f1, f2, f3⟩ := box4 hb1
        have hz := lt_of_block hb1
        clear hb0 hb1 hg0 hg1
        go_wp2_with (go_at_call 107; refine mixes_any _ _ _ ?_)
        exact HF.out
      · skip
        have hn1a : (n == 1) = false := by simpa using hn1
        have hn1b : (n != 1) = true := by simpa using hn1
        have hv : rnearB (⟨op, d, a, b⟩ : Ln) ⟨op, d, a2, b2⟩ = false := by unfold rnearB; rw [if_neg hlm, if_neg (by dsimp only; omega), if_neg (by dsimp only; omega), if_neg (by dsimp only; omega), if_neg hF, if_pos (by rw [HN.out]; exact hn1)]
        rw [hv] at HR
        clear hv
        have HR2 := Lib.hid HR.out
        clear HR hlm hn
        try clear hF
        try clear f3
        try clear hn1
        try clear haa
        try clear hb
        try clear hx
        try clear f1
        go_enter Tryz.func64, Tryz.ntmps64
        go_wp2_with fail
        have hb0 := heap_two0 w (.cells #[.int .i64 op, .int .i64 d, .int .i64 a, .int .i64 b] 25) (.cells #[.int .i64 op, .int .i64 d, .int .i64 a2, .int .i64 b2] 25)
        have hb1 := heap_two1 w (.cells #[.int .i64 op, .int .i64 d, .int .i64 a, .int .i64 b] 25) (.cells #[.int .i64 op, .int .i64 d, .int .i64 a2, .int .i64 b2] 25)
        have hg0 : Grow w ((w.alloc (.cells #[.int .i64 op, .int .i64 d, .int .i64 a, .int .i64 b] 25)).alloc (.cells #[.int .i64 op, .int .i64 d, .int .i64 a2, .int .i64 b2] 25)) := ((Grow.refl w).alloc _).alloc _
        generalize (w.alloc (.cells #[.int .i64 op, .int .i64 d, .int .i64 a, .int .i64 b] 25)).alloc (.cells #[.int .i64 op, .int .i64 d, .int .i64 a2, .int .i64 b2] 25) = W at hb0 hb1 hg0 ⊢
        refine rFields_any op d a b op d a2 b2 _ _ ?_
        intro w1 hg1
        rw [HN.out]
        have HF := Lib.hid (HR2.out w1 (hg0.trans hg1))
        replace hb0 := hg1.blk hb0
        replace hb1 := hg1.blk hb1
        obtain ⟨e0, e1, e2, e3⟩ := box4 hb0
        obtain ⟨f0, f1, f2, f3⟩ := box4 hb1
        have hz := lt_of_block hb1
        clear hb0 hb1 hg0 hg1
        go_wp2_with (go_at_call 107; refine mixes_any _ _ _ ?_)
        exact HF.out
  subst hx
  have hb : b ≠ b2 := fun e => hlm (by rw [e])
  have hba : (b == b2) = false := by simpa using hb
  have hbb : (b != b2) = true := by simpa using hb
  by_cases f3 : a = b2
  · skip
    have f3a : (a == b2) = true := by simpa using f3
    have f3b : (a != b2) = false := by simpa using f3
    by_cases f4 : b = a
    · skip
      have f4a : (b == a) = true := by simpa using f4
      have f4b : (b != a) = false := by simpa using f4
      have hv : rnearB (⟨op, d, a, b⟩ : Ln) ⟨op, d, a, b2⟩ = true := by unfold rnearB; rw [if_neg hlm, if_neg (by dsimp only; omega), if_neg (by dsimp only; omega), if_neg (by dsimp only; omega), if_pos (by dsimp only; omega)]
      rw [hv] at HR
      clear hv
      have HR2 := Lib.hid HR.out
      clear HR hlm hn
      try clear hF
      try clear f3
      try clear f4
      try clear haa
      try clear hb
      try clear hx
      try clear f1
      go_enter Tryz.func64, Tryz.ntmps64
      go_wp2_with fail
      have hb0 := heap_two0 w (.cells #[.int .i64 op, .int .i64 d, .int .i64 a, .int .i64 b] 25) (.cells #[.int .i64 op, .int .i64 d, .int .i64 a, .int .i64 b2] 25)
      have hb1 := heap_two1 w (.cells #[.int .i64 op, .int .i64 d, .int .i64 a, .int .i64 b] 25) (.cells #[.int .i64 op, .int .i64 d, .int .i64 a, .int .i64 b2] 25)
      have hg0 : Grow w ((w.alloc (.cells #[.int .i64 op, .int .i64 d, .int .i64 a, .int .i64 b] 25)).alloc (.cells #[.int .i64 op, .int .i64 d, .int .i64 a, .int .i64 b2] 25)) := ((Grow.refl w).alloc _).alloc _
      generalize (w.alloc (.cells #[.int .i64 op, .int .i64 d, .int .i64 a, .int .i64 b] 25)).alloc (.cells #[.int .i64 op, .int .i64 d, .int .i64 a, .int .i64 b2] 25) = W at hb0 hb1 hg0 ⊢
      refine rFields_any op d a b op d a b2 _ _ ?_
      intro w1 hg1
      rw [HN.out]
      have HF := Lib.hid (HR2.out w1 (hg0.trans hg1))
      replace hb0 := hg1.blk hb0
      replace hb1 := hg1.blk hb1
      obtain ⟨e0, e1, e2, e3⟩ := box4 hb0
      obtain ⟨f0, f1, f2, f3⟩ := box4 hb1
      have hz := lt_of_block hb1
      clear hb0 hb1 hg0 hg1
      go_wp2_with (go_at_call 107; refine mixes_any _ _ _ ?_)
      exact HF.out
    · skip
      have f4a : (b == a) = false := by simpa using f4
      have f4b : (b != a) = true := by simpa using f4
      have hF : ¬ (d = d ∧ 3 ≤ op ∧ a = b2 ∧ b = a) := by omega
      by_cases hn1 : n = 1
      · skip
        have hn1a : (n == 1) = true := by simpa using hn1
        have hn1b : (n != 1) = false := by simpa using hn1
        have hv : rnearB (⟨op, d, a, b⟩ : Ln) ⟨op, d, a, b2⟩ = true := by unfold rnearB; rw [if_neg hlm, if_neg (by dsimp only; omega), if_neg (by dsimp only; omega), if_neg (by dsimp only; omega), if_neg hF, if_neg (by rw [HN.out]; simpa using hn1), if_neg (by dsimp only; omega), if_neg (by dsimp only; omega)]
        rw [hv] at HR
        clear hv
        have HR2 := Lib.hid HR.out
        clear HR hlm hn
        try clear hF
        try clear f3
        try clear f4
        try clear hn1
        try clear haa
        try clear hb
        try clear hx
        try clear f1
        go_enter Tryz.func64, Tryz.ntmps64
        go_wp2_with fail
        have hb0 := heap_two0 w (.cells #[.int .i64 op, .int .i64 d, .int .i64 a, .int .i64 b] 25) (.cells #[.int .i64 op, .int .i64 d, .int .i64 a, .int .i64 b2] 25)
        have hb1 := heap_two1 w (.cells #[.int .i64 op, .int .i64 d, .int .i64 a, .int .i64 b] 25) (.cells #[.int .i64 op, .int .i64 d, .int .i64 a, .int .i64 b2] 25)
        have hg0 : Grow w ((w.alloc (.cells #[.int .i64 op, .int .i64 d, .int .i64 a, .int .i64 b] 25)).alloc (.cells #[.int .i64 op, .int .i64 d, .int .i64 a, .int .i64 b2] 25)) := ((Grow.refl w).alloc _).alloc _
        generalize (w.alloc (.cells #[.int .i64 op, .int .i64 d, .int .i64 a, .int .i64 b] 25)).alloc (.cells #[.int .i64 op, .int .i64 d, .int .i64 a, .int .i64 b2] 25) = W at hb0 hb1 hg0 ⊢
        refine rFields_any op d a b op d a b2 _ _ ?_
        intro w1 hg1
        rw [HN.out]
        have HF := Lib.hid (HR2.out w1 (hg0.trans hg1))
        replace hb0 := hg1.blk hb0
        replace hb1 := hg1.blk hb1
        obtain ⟨e0, e1, e2, e3⟩ := box4 hb0
        obtain ⟨f0, f1, f2, f3⟩ := box4 hb1
        have hz := lt_of_block hb1
        clear hb0 hb1 hg0 hg1
        go_wp2_with (go_at_call 107; refine mixes_any _ _ _ ?_)
        exact HF.out
      · skip
        have hn1a : (n == 1) = false := by simpa using hn1
        have hn1b : (n != 1) = true := by simpa using hn1
        have hv : rnearB (⟨op, d, a, b⟩ : Ln) ⟨op, d, a, b2⟩ = false := by unfold rnearB; rw [if_neg hlm, if_neg (by dsimp only; omega), if_neg (by dsimp only; omega), if_neg (by dsimp only; omega), if_neg hF, if_pos (by rw [HN.out]; exact hn1)]
        rw [hv] at HR
        clear hv
        have HR2 := Lib.hid HR.out
        clear HR hlm hn
        try clear hF
        try clear f3
        try clear f4
        try clear hn1
        try clear haa
        try clear hb
        try clear hx
        try clear f1
        go_enter Tryz.func64, Tryz.ntmps64
        go_wp2_with fail
        have hb0 := heap_two0 w (.cells #[.int .i64 op, .int .i64 d, .int .i64 a, .int .i64 b] 25) (.cells #[.int .i64 op, .int .i64 d, .int .i64 a, .int .i64 b2] 25)
        have hb1 := heap_two1 w (.cells #[.int .i64 op, .int .i64 d, .int .i64 a, .int .i64 b] 25) (.cells #[.int .i64 op, .int .i64 d, .int .i64 a, .int .i64 b2] 25)
        have hg0 : Grow w ((w.alloc (.cells #[.int .i64 op, .int .i64 d, .int .i64 a, .int .i64 b] 25)).alloc (.cells #[.int .i64 op, .int .i64 d, .int .i64 a, .int .i64 b2] 25)) := ((Grow.refl w).alloc _).alloc _
        generalize (w.alloc (.cells #[.int .i64 op, .int .i64 d, .int .i64 a, .int .i64 b] 25)).alloc (.cells #[.int .i64 op, .int .i64 d, .int .i64 a, .int .i64 b2] 25) = W at hb0 hb1 hg0 ⊢
        refine rFields_any op d a b op d a b2 _ _ ?_
        intro w1 hg1
        rw [HN.out]
        have HF := Lib.hid (HR2.out w1 (hg0.trans hg1))
        replace hb0 := hg1.blk hb0
        replace hb1 := hg1.blk hb1
        obtain ⟨e0, e1, e2, e3⟩ := box4 hb0
        obtain ⟨f0, f1, f2, f3⟩ := box4 hb1
        have hz := lt_of_block hb1
        clear hb0 hb1 hg0 hg1
        go_wp2_with (go_at_call 107; refine mixes_any _ _ _ ?_)
        exact HF.out
  · skip
    have f3a : (a == b2) = false := by simpa using f3
    have f3b : (a != b2) = true := by simpa using f3
    have hF : ¬ (d = d ∧ 3 ≤ op ∧ a = b2 ∧ b = a) := by omega
    by_cases hn1 : n = 1
    · skip
      have hn1a : (n == 1) = true := by simpa using hn1
      have hn1b : (n != 1) = false := by simpa using hn1
      have hv : rnearB (⟨op, d, a, b⟩ : Ln) ⟨op, d, a, b2⟩ = true := by unfold rnearB; rw [if_neg hlm, if_neg (by dsimp only; omega), if_neg (by dsimp only; omega), if_neg (by dsimp only; omega), if_neg hF, if_neg (by rw [HN.out]; simpa using hn1), if_neg (by dsimp only; omega), if_neg (by dsimp only; omega)]
      rw [hv] at HR
      clear hv
      have HR2 := Lib.hid HR.out
      clear HR hlm hn
      try clear hF
      try clear f3
      try clear hn1
      try clear haa
      try clear hb
      try clear hx
      try clear f1
      go_enter Tryz.func64, Tryz.ntmps64
      go_wp2_with fail
      have hb0 := heap_two0 w (.cells #[.int .i64 op, .int .i64 d, .int .i64 a, .int .i64 b] 25) (.cells #[.int .i64 op, .int .i64 d, .int .i64 a, .int .i64 b2] 25)
      have hb1 := heap_two1 w (.cells #[.int .i64 op, .int .i64 d, .int .i64 a, .int .i64 b] 25) (.cells #[.int .i64 op, .int .i64 d, .int .i64 a, .int .i64 b2] 25)
      have hg0 : Grow w ((w.alloc (.cells #[.int .i64 op, .int .i64 d, .int .i64 a, .int .i64 b] 25)).alloc (.cells #[.int .i64 op, .int .i64 d, .int .i64 a, .int .i64 b2] 25)) := ((Grow.refl w).alloc _).alloc _
      generalize (w.alloc (.cells #[.int .i64 op, .int .i64 d, .int .i64 a, .int .i64 b] 25)).alloc (.cells #[.int .i64 op, .int .i64 d, .int .i64 a, .int .i64 b2] 25) = W at hb0 hb1 hg0 ⊢
      refine rFields_any op d a b op d a b2 _ _ ?_
      intro w1 hg1
      rw [HN.out]
      have HF := Lib.hid (HR2.out w1 (hg0.trans hg1))
      replace hb0 := hg1.blk hb0
      replace hb1 := hg1.blk hb1
      obtain ⟨e0, e1, e2, e3⟩ := box4 hb0
      obtain ⟨f0, f1, f2, f3⟩ := box4 hb1
      have hz := lt_of_block hb1
      clear hb0 hb1 hg0 hg1
      go_wp2_with (go_at_call 107; refine mixes_any _ _ _ ?_)
      exact HF.out
    · skip
      have hn1a : (n == 1) = false := by simpa using hn1
      have hn1b : (n != 1) = true := by simpa using hn1
      have hv : rnearB (⟨op, d, a, b⟩ : Ln) ⟨op, d, a, b2⟩ = false := by unfold rnearB; rw [if_neg hlm, if_neg (by dsimp only; omega), if_neg (by dsimp only; omega), if_neg (by dsimp only; omega), if_neg hF, if_pos (by rw [HN.out]; exact hn1)]
      rw [hv] at HR
      clear hv
      have HR2 := Lib.hid HR.out
      clear HR hlm hn
      try clear hF
      try clear f3
      try clear hn1
      try clear haa
      try clear hb
      try clear hx
      try clear f1
      go_enter Tryz.func64, Tryz.ntmps64
      go_wp2_with fail
      have hb0 := heap_two0 w (.cells #[.int .i64 op, .int .i64 d, .int .i64 a, .int .i64 b] 25) (.cells #[.int .i64 op, .int .i64 d, .int .i64 a, .int .i64 b2] 25)
      have hb1 := heap_two1 w (.cells #[.int .i64 op, .int .i64 d, .int .i64 a, .int .i64 b] 25) (.cells #[.int .i64 op, .int .i64 d, .int .i64 a, .int .i64 b2] 25)
      have hg0 : Grow w ((w.alloc (.cells #[.int .i64 op, .int .i64 d, .int .i64 a, .int .i64 b] 25)).alloc (.cells #[.int .i64 op, .int .i64 d, .int .i64 a, .int .i64 b2] 25)) := ((Grow.refl w).alloc _).alloc _
      generalize (w.alloc (.cells #[.int .i64 op, .int .i64 d, .int .i64 a, .int .i64 b] 25)).alloc (.cells #[.int .i64 op, .int .i64 d, .int .i64 a, .int .i64 b2] 25) = W at hb0 hb1 hg0 ⊢
      refine rFields_any op d a b op d a b2 _ _ ?_
      intro w1 hg1
      rw [HN.out]
      have HF := Lib.hid (HR2.out w1 (hg0.trans hg1))
      replace hb0 := hg1.blk hb0
      replace hb1 := hg1.blk hb1
      obtain ⟨e0, e1, e2, e3⟩ := box4 hb0
      obtain ⟨f0, f1, f2, f3⟩ := box4 hb1
      have hz := lt_of_block hb1
      clear hb0 hb1 hg0 hg1
      go_wp2_with (go_at_call 107; refine mixes_any _ _ _ ?_)
      exact HF.out
end Go.Proofs.YtbccbokjecdaaaaGreat

namespace Go.Proofs.YtbccbokjecdaaaaGreat
open Go.RowKit

set_option maxRecDepth 100000 in
set_option maxHeartbeats 16000000 in
theorem rnear_any (op d a b op2 d2 a2 b2 : Int) (w : World) (hl : (⟨op, d, a, b⟩ : Ln).ok = true) (hm : (⟨op2, d2, a2, b2⟩ : Ln).ok = true) (R : Ending → World → Prop) (hR : ∀ w', Grow w w' → R (.returned (.bool (rnearB ⟨op, d, a, b⟩ ⟨op2, d2, a2, b2⟩))) w') :
    Calls Tryz.prog 64 #[.agg #[.int .i64 op, .int .i64 d, .int .i64 a, .int .i64 b], .agg #[.int .i64 op2, .int .i64 d2, .int .i64 a2, .int .i64 b2]] w R := by
  have cl := ok_cases hl
  have cm := ok_cases hm
  dsimp only at cl cm
  have bd : 0 ≤ op ∧ op ≤ 7 ∧ 0 ≤ op2 ∧ op2 ≤ 7 := by clear hR; omega
  have bn : -9 ≤ d ∧ d ≤ 9 ∧ -9 ≤ a ∧ a ≤ 9 ∧ -9 ≤ d2 ∧ d2 ≤ 9 ∧ -9 ≤ a2 ∧ a2 ≤ 9 := by clear hR; omega
  clear cl cm hl hm
  by_cases hlm : (⟨op, d, a, b⟩ : Ln) = ⟨op2, d2, a2, b2⟩
  · have hv : rnearB ⟨op, d, a, b⟩ ⟨op2, d2, a2, b2⟩ = false := by unfold rnearB; rw [if_pos hlm]
    rw [hv] at hR
    have HR := Lib.hid hR
    clear hR hv
    simp only [Ln.mk.injEq] at hlm
    obtain ⟨rfl, rfl, rfl, rfl⟩ := hlm
    go_enter Tryz.func64, Tryz.ntmps64
    go_wp2_with fail
    exact HR.out _ (((Grow.refl _).alloc _).alloc _)
  · by_cases h0 : op = 0
    · have hv : rnearB ⟨op, d, a, b⟩ ⟨op2, d2, a2, b2⟩ = false := by unfold rnearB; rw [if_neg hlm, if_pos h0]
      rw [hv] at hR
      have HR := Lib.hid hR
      have HN := Lib.hid hlm
      subst h0
      clear hR hv hlm bd bn
      by_cases gq0 : 0 = op2
      rotate_left
      · have tq1 : (0 == op2) = false := by simpa using gq0
        have tq2 : (0 != op2) = true := by simpa using gq0
        go_enter Tryz.func64, Tryz.ntmps64
        go_wp2_with fail
        exact HR.out _ (((Grow.refl _).alloc _).alloc _)
      subst gq0
      by_cases gq1 : d = d2
      rotate_left
      · have tq1 : (d == d2) = false := by simpa using gq1
        have tq2 : (d != d2) = true := by simpa using gq1
        go_enter Tryz.func64, Tryz.ntmps64
        go_wp2_with fail
        exact HR.out _ (((Grow.refl _).alloc _).alloc _)
      subst gq1
      by_cases gq2 : a = a2
      rotate_left
      · have tq1 : (a == a2) = false := by simpa using gq2
        have tq2 : (a != a2) = true := by simpa using gq2
        go_enter Tryz.func64, Tryz.ntmps64
        go_wp2_with fail
        exact HR.out _ (((Grow.refl _).alloc _).alloc _)
      subst gq2
      by_cases gq3 : b = b2
      rotate_left
      · have tq1 : (b == b2) = false := by simpa using gq3
        have tq2 : (b != b2) = true := by simpa using gq3
        go_enter Tryz.func64, Tryz.ntmps64
        go_wp2_with fail
        exact HR.out _ (((Grow.refl _).alloc _).alloc _)
      subst gq3
      exact absurd rfl HN.out
    · by_cases h2 : op2 = 0
      · have hv : rnearB ⟨op, d, a, b⟩ ⟨op2, d2, a2, b2⟩ = true := by unfold rnearB; rw [if_neg hlm, if_neg h0, if_pos h2]
        rw [hv] at hR
        have HR := Lib.hid hR
        have t0 : (op == 0) = false := by simpa using h0
        subst h2
        clear hR hv hlm bd bn h0
        go_enter Tryz.func64, Tryz.ntmps64
        go_wp2_with fail
        exact HR.out _ (((Grow.refl _).alloc _).alloc _)
      · by_cases h4 : op2 ≠ op
        · exact rnearD_any op d a b op2 d2 a2 b2 w hlm h0 h2 h4 R hR
        · have h5 : op2 = op := by omega
          by_cases k1 : op = 1
          · exact rnear1_any op d a b op2 d2 a2 b2 w hlm k1 (h5.trans k1) bn R hR
          · by_cases k2 : op = 2
            · exact rnear2_any op d a b op2 d2 a2 b2 w hlm k2 (h5.trans k2) R hR
            · by_cases k7 : op = 7
              · exact rnear7_any op d a b op2 d2 a2 b2 w hlm k7 (h5.trans k7) bn R hR
              · exact rnearG_any op d a b op2 d2 a2 b2 w hlm (by omega) (by omega) h5.symm R hR
end Go.Proofs.YtbccbokjecdaaaaGreat
