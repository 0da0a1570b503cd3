/-
The walk of the document's near: whether a valid line is a template of another one.
The walk of the document's near: whether a valid line is a template of another one.
The walk of the document's All: all lines, field by field.
-/
import Derived.Test.YtbccbokjecdaaaaGreatD06
namespace Go.Proofs.YtbccbokjecdaaaaGreat
open Go.RowKit

set_option maxRecDepth 100000 in
set_option maxHeartbeats 16000000 in
theorem rnearG_any (op d a b op2 d2 a2 b2 : Int) (w : World) (hlm : ¬ (⟨op, d, a, b⟩ : Ln) = ⟨op2, d2, a2, b2⟩) (h3 : 3 ≤ op) (h6 : op ≤ 6) (hop2 : op = op2) (R : Ending → World → Prop) (hR : ∀ w', Grow w w' → R (.returned (.bool (rnearB (⟨op, d, a, b⟩ : Ln) ⟨op2, d2, a2, b2⟩))) w') :
    Calls Tryz.prog 64 #[.agg #[.int .i64 op, .int .i64 d, .int .i64 a, .int .i64 b], .agg #[.int .i64 op2, .int .i64 d2, .int .i64 a2, .int .i64 b2]] w R := by
  subst hop2
  have h3a : op ≥ 3 := h3
  have t0 : (op == 0) = false := by simp; omega
  have t1 : (op == 1) = false := by simp; omega
  have t7 : (op == 7) = false := by simp; omega
  have tn : (op != op) = false := by simp
  have HR := Lib.hid hR
  clear hR
  obtain ⟨n, hn⟩ : ∃ n, fieldsN (⟨op, d, a, b⟩ : Ln) ⟨op, d2, a2, b2⟩ = n := ⟨_, rfl⟩
  have HN := Lib.hid hn
  by_cases f1 : d = d2
  rotate_left
  · skip
    have f1a : (d == d2) = false := by simpa using f1
    have f1b : (d != d2) = true := by simpa using f1
    have hF : ¬ (d = d2 ∧ 3 ≤ op ∧ a = b2 ∧ b = a2) := by omega
    by_cases hn1 : n = 1
    · skip
      have hn1a : (n == 1) = true := by simpa using hn1
      have hn1b : (n != 1) = false := by simpa using hn1
      have hv : rnearB (⟨op, d, a, b⟩ : Ln) ⟨op, d2, a2, b2⟩ = true := by unfold rnearB; rw [if_neg hlm, if_neg (by dsimp only; omega), if_neg (by dsimp only; omega), if_neg (by dsimp only; omega), if_neg hF, if_neg (by rw [HN.out]; simpa using hn1), if_neg (by dsimp only; omega), if_neg (by dsimp only; omega)]
      rw [hv] at HR
      clear hv
      have HR2 := Lib.hid HR.out
      clear HR hlm hn
      try clear hF
      try clear hn1
      try clear haa
      try clear hb
      try clear hx
      try clear f1
      go_enter Tryz.func64, Tryz.ntmps64
      go_wp2_with fail
      have hb0 := heap_two0 w (.cells #[.int .i64 op, .int .i64 d, .int .i64 a, .int .i64 b] 25) (.cells #[.int .i64 op, .int .i64 d2, .int .i64 a2, .int .i64 b2] 25)
      have hb1 := heap_two1 w (.cells #[.int .i64 op, .int .i64 d, .int .i64 a, .int .i64 b] 25) (.cells #[.int .i64 op, .int .i64 d2, .int .i64 a2, .int .i64 b2] 25)
      have hg0 : Grow w ((w.alloc (.cells #[.int .i64 op, .int .i64 d, .int .i64 a, .int .i64 b] 25)).alloc (.cells #[.int .i64 op, .int .i64 d2, .int .i64 a2, .int .i64 b2] 25)) := ((Grow.refl w).alloc _).alloc _
      generalize (w.alloc (.cells #[.int .i64 op, .int .i64 d, .int .i64 a, .int .i64 b] 25)).alloc (.cells #[.int .i64 op, .int .i64 d2, .int .i64 a2, .int .i64 b2] 25) = W at hb0 hb1 hg0 ⊢
      refine rFields_any op d a b op d2 a2 b2 _ _ ?_
      intro w1 hg1
      rw [HN.out]
      have HF := Lib.hid (HR2.out w1 (hg0.trans hg1))
      replace hb0 := hg1.blk hb0
      replace hb1 := hg1.blk hb1
      obtain ⟨e0, e1, e2, e3⟩ := box4 hb0
      obtain ⟨f0, f1, f2, f3⟩ := box4 hb1
      have hz := lt_of_block hb1
      clear hb0 hb1 hg0 hg1
      go_wp2_with (go_at_call 107; refine mixes_any _ _ _ ?_)
      exact HF.out
    · skip
      have hn1a : (n == 1) = false := by simpa using hn1
      have hn1b : (n != 1) = true := by simpa using hn1
      have hv : rnearB (⟨op, d, a, b⟩ : Ln) ⟨op, d2, a2, b2⟩ = false := by unfold rnearB; rw [if_neg hlm, if_neg (by dsimp only; omega), if_neg (by dsimp only; omega), if_neg (by dsimp only; omega), if_neg hF, if_pos (by rw [HN.out]; exact hn1)]
      rw [hv] at HR
      clear hv
      have HR2 := Lib.hid HR.out
      clear HR hlm hn
      try clear hF
      try clear hn1
      try clear haa
      try clear hb
      try clear hx
      try clear f1
      go_enter Tryz.func64, Tryz.ntmps64
      go_wp2_with fail
      have hb0 := heap_two0 w (.cells #[.int .i64 op, .int .i64 d, .int .i64 a, .int .i64 b] 25) (.cells #[.int .i64 op, .int .i64 d2, .int .i64 a2, .int .i64 b2] 25)
      have hb1 := heap_two1 w (.cells #[.int .i64 op, .int .i64 d, .int .i64 a, .int .i64 b] 25) (.cells #[.int .i64 op, .int .i64 d2, .int .i64 a2, .int .i64 b2] 25)
      have hg0 : Grow w ((w.alloc (.cells #[.int .i64 op, .int .i64 d, .int .i64 a, .int .i64 b] 25)).alloc (.cells #[.int .i64 op, .int .i64 d2, .int .i64 a2, .int .i64 b2] 25)) := ((Grow.refl w).alloc _).alloc _
      generalize (w.alloc (.cells #[.int .i64 op, .int .i64 d, .int .i64 a, .int .i64 b] 25)).alloc (.cells #[.int .i64 op, .int .i64 d2, .int .i64 a2, .int .i64 b2] 25) = W at hb0 hb1 hg0 ⊢
      refine rFields_any op d a b op d2 a2 b2 _ _ ?_
      intro w1 hg1
      rw [HN.out]
      have HF := Lib.hid (HR2.out w1 (hg0.trans hg1))
      replace hb0 := hg1.blk hb0
      replace hb1 := hg1.blk hb1
      obtain ⟨e0, e1, e2, e3⟩ := box4 hb0
      obtain ⟨f0, f1, f2, f3⟩ := box4 hb1
      have hz := lt_of_block hb1
      clear hb0 hb1 hg0 hg1
      go_wp2_with (go_at_call 107; refine mixes_any _ _ _ ?_)
      exact HF.out
  subst f1
  by_cases hx : a = a2
  rotate_left
  · skip
    have hxa : (a == a2) = false := by simpa using hx
    have hxb : (a != a2) = true := by simpa using hx
    by_cases f3 : a = b2
    · skip
      have f3a : (a == b2) = true := by simpa using f3
      have f3b : (a != b2) = false := by simpa using f3
      by_cases f4 : b = a2
      · skip
        have f4a : (b == a2) = true := by simpa using f4
        have f4b : (b != a2) = false := by simpa using f4
        have hv : rnearB (⟨op, d, a, b⟩ : Ln) ⟨op, d, a2, b2⟩ = true := by unfold rnearB; rw [if_neg hlm, if_neg (by dsimp only; omega), if_neg (by dsimp only; omega), if_neg (by dsimp only; omega), if_pos (by dsimp only; omega)]
        rw [hv] at HR
        clear hv
        have HR2 := Lib.hid HR.out
        clear HR hlm hn
        try clear hF
        try clear f3
        try clear f4
        try clear haa
        try clear hb
        try clear hx
        try clear f1
        go_enter Tryz.func64, Tryz.ntmps64
        go_wp2_with fail
        have hb0 := heap_two0 w (.cells #[.int .i64 op, .int .i64 d, .int .i64 a, .int .i64 b] 25) (.cells #[.int .i64 op, .int .i64 d, .int .i64 a2, .int .i64 b2] 25)
        have hb1 := heap_two1 w (.cells #[.int .i64 op, .int .i64 d, .int .i64 a, .int .i64 b] 25) (.cells #[.int .i64 op, .int .i64 d, .int .i64 a2, .int .i64 b2] 25)
        have hg0 : Grow w ((w.alloc (.cells #[.int .i64 op, .int .i64 d, .int .i64 a, .int .i64 b] 25)).alloc (.cells #[.int .i64 op, .int .i64 d, .int .i64 a2, .int .i64 b2] 25)) := ((Grow.refl w).alloc _).alloc _
        generalize (w.alloc (.cells #[.int .i64 op, .int .i64 d, .int .i64 a, .int .i64 b] 25)).alloc (.cells #[.int .i64 op, .int .i64 d, .int .i64 a2, .int .i64 b2] 25) = W at hb0 hb1 hg0 ⊢
        refine rFields_any op d a b op d a2 b2 _ _ ?_
        intro w1 hg1
        rw [HN.out]
        have HF := Lib.hid (HR2.out w1 (hg0.trans hg1))
        replace hb0 := hg1.blk hb0
        replace hb1 := hg1.blk hb1
        obtain ⟨e0, e1, e2, e3⟩ := box4 hb0
        obtain ⟨f0, f1, f2, f3⟩ := box4 hb1
        have hz := lt_of_block hb1
        clear hb0 hb1 hg0 hg1
        go_wp2_with (go_at_call 107; refine mixes_any _ _ _ ?_)
        exact HF.out
      · skip
        have f4a : (b == a2) = false := by simpa using f4
        have f4b : (b != a2) = true := by simpa using f4
        have hF : ¬ (d = d ∧ 3 ≤ op ∧ a = b2 ∧ b = a2) := by omega
        by_cases hn1 : n = 1
        · skip
          have hn1a : (n == 1) = true := by simpa using hn1
          have hn1b : (n != 1) = false := by simpa using hn1
          have hv : rnearB (⟨op, d, a, b⟩ : Ln) ⟨op, d, a2, b2⟩ = true := by unfold rnearB; rw [if_neg hlm, if_neg (by dsimp only; omega), if_neg (by dsimp only; omega), if_neg (by dsimp only; omega), if_neg hF, if_neg (by rw [HN.out]; simpa using hn1), if_neg (by dsimp only; omega), if_neg (by dsimp only; omega)]
          rw [hv] at HR
          clear hv
          have HR2 := Lib.hid HR.out
          clear HR hlm hn
          try clear hF
          try clear f3
          try clear f4
          try clear hn1
          try clear haa
          try clear hb
          try clear hx
          try clear f1
          go_enter Tryz.func64, Tryz.ntmps64
          go_wp2_with fail
          have hb0 := heap_two0 w (.cells #[.int .i64 op, .int .i64 d, .int .i64 a, .int .i64 b] 25) (.cells #[.int .i64 op, .int .i64 d, .int .i64 a2, .int .i64 b2] 25)
          have hb1 := heap_two1 w (.cells #[.int .i64 op, .int .i64 d, .int .i64 a, .int .i64 b] 25) (.cells #[.int .i64 op, .int .i64 d, .int .i64 a2, .int .i64 b2] 25)
          have hg0 : Grow w ((w.alloc (.cells #[.int .i64 op, .int .i64 d, .int .i64 a, .int .i64 b] 25)).alloc (.cells #[.int .i64 op, .int .i64 d, .int .i64 a2, .int .i64 b2] 25)) := ((Grow.refl w).alloc _).alloc _
          generalize (w.alloc (.cells #[.int .i64 op, .int .i64 d, .int .i64 a, .int .i64 b] 25)).alloc (.cells #[.int .i64 op, .int .i64 d, .int .i64 a2, .int .i64 b2] 25) = W at hb0 hb1 hg0 ⊢
          refine rFields_any op d a b op d a2 b2 _ _ ?_
          intro w1 hg1
          rw [HN.out]
          have HF := Lib.hid (HR2.out w1 (hg0.trans hg1))
          replace hb0 := hg1.blk hb0
          replace hb1 := hg1.blk hb1
          obtain ⟨e0, e1, e2, e3⟩ := box4 hb0
          obtain ⟨f0, f1, f2, f3⟩ := box4 hb1
          have hz := lt_of_block hb1
          clear hb0 hb1 hg0 hg1
          go_wp2_with (go_at_call 107; refine mixes_any _ _ _ ?_)
          exact HF.out
        · skip
          have hn1a : (n == 1) = false := by simpa using hn1
          have hn1b : (n != 1) = true := by simpa using hn1
          have hv : rnearB (⟨op, d, a, b⟩ : Ln) ⟨op, d, a2, b2⟩ = false := by unfold rnearB; rw [if_neg hlm, if_neg (by dsimp only; omega), if_neg (by dsimp only; omega), if_neg (by dsimp only; omega), if_neg hF, if_pos (by rw [HN.out]; exact hn1)]
          rw [hv] at HR
          clear hv
          have HR2 := Lib.hid HR.out
          clear HR hlm hn
          try clear hF
          try clear f3
          try clear f4
          try clear hn1
          try clear haa
          try clear hb
          try clear hx
          try clear f1
          go_enter Tryz.func64, Tryz.ntmps64
          go_wp2_with fail
          have hb0 := heap_two0 w (.cells #[.int .i64 op, .int .i64 d, .int .i64 a, .int .i64 b] 25) (.cells #[.int .i64 op, .int .i64 d, .int .i64 a2, .int .i64 b2] 25)
          have hb1 := heap_two1 w (.cells #[.int .i64 op, .int .i64 d, .int .i64 a, .int .i64 b] 25) (.cells #[.int .i64 op, .int .i64 d, .int .i64 a2, .int .i64 b2] 25)
          have hg0 : Grow w ((w.alloc (.cells #[.int .i64 op, .int .i64 d, .int .i64 a, .int .i64 b] 25)).alloc (.cells #[.int .i64 op, .int .i64 d, .int .i64 a2, .int .i64 b2] 25)) := ((Grow.refl w).alloc _).alloc _
          generalize (w.alloc (.cells #[.int .i64 op, .int .i64 d, .int .i64 a, .int .i64 b] 25)).alloc (.cells #[.int .i64 op, .int .i64 d, .int .i64 a2, .int .i64 b2] 25) = W at hb0 hb1 hg0 ⊢
          refine rFields_any op d a b op d a2 b2 _ _ ?_
          intro w1 hg1
          rw [HN.out]
          have HF := Lib.hid (HR2.out w1 (hg0.trans hg1))
          replace hb0 := hg1.blk hb0
          replace hb1 := hg1.blk hb1
          obtain ⟨e0, e1, e2, e3⟩ := box4 hb0
          obtain ⟨f0, f1, f2, f3⟩ := box4 hb1
          have hz := lt_of_block hb1
          clear hb0 hb1 hg0 hg1
          go_wp2_with (go_at_call 107; refine mixes_any _ _ _ ?_)
          exact HF.out
    · skip
      have f3a : (a == b2) = false := by simpa using f3
      have f3b : (a != b2) = true := by simpa using f3
      have hF : ¬ (d = d ∧ 3 ≤ op ∧ a = b2 ∧ b = a2) := by omega
      by_cases hn1 : n = 1
      · skip
        have hn1a : (n == 1) = true := by simpa using hn1
        have hn1b : (n != 1) = false := by simpa using hn1
        have hv : rnearB (⟨op, d, a, b⟩ : Ln) ⟨op, d, a2, b2⟩ = true := by unfold rnearB; rw [if_neg hlm, if_neg (by dsimp only; omega), if_neg (by dsimp only; omega), if_neg (by dsimp only; omega), if_neg hF, if_neg (by rw [HN.out]; simpa using hn1), if_neg (by dsimp only; omega), if_neg (by dsimp only; omega)]
        rw [hv] at HR
        clear hv
        have HR2 := Lib.hid HR.out
        clear HR hlm hn
        try clear hF
        try clear f3
        try clear hn1
        try clear haa
        try clear hb
        try clear hx
        try clear f1
        go_enter Tryz.func64, Tryz.ntmps64
        go_wp2_with fail
        have hb0 := heap_two0 w (.cells #[.int .i64 op, .int .i64 d, .int .i64 a, .int .i64 b] 25) (.cells #[.int .i64 op, .int .i64 d, .int .i64 a2, .int .i64 b2] 25)
        have hb1 := heap_two1 w (.cells #[.int .i64 op, .int .i64 d, .int .i64 a, .int .i64 b] 25) (.cells #[.int .i64 op, .int .i64 d, .int .i64 a2, .int .i64 b2] 25)
        have hg0 : Grow w ((w.alloc (.cells #[.int .i64 op, .int .i64 d, .int .i64 a, .int .i64 b] 25)).alloc (.cells #[.int .i64 op, .int .i64 d, .int .i64 a2, .int .i64 b2] 25)) := ((Grow.refl w).alloc _).alloc _
        generalize (w.alloc (.cells #[.int .i64 op, .int .i64 d, .int .i64 a, .int .i64 b] 25)).alloc (.cells #[.int .i64 op, .int .i64 d, .int .i64 a2, .int .i64 b2] 25) = W at hb0 hb1 hg0 ⊢
        refine rFields_any op d a b op d a2 b2 _ _ ?_
        intro w1 hg1
        rw [HN.out]
        have HF := Lib.hid (HR2.out w1 (hg0.trans hg1))
        replace hb0 := hg1.blk hb0
        replace hb1 := hg1.blk hb1
        obtain ⟨e0, e1, e2, e3⟩ := box4 hb0
        obtain ⟨f0, f1, f2, f3⟩ := box4 hb1
        have hz := lt_of_block hb1
        clear hb0 hb1 hg0 hg1
        go_wp2_with (go_at_call 107; refine mixes_any _ _ _ ?_)
        exact HF.out
      · skip
        have hn1a : (n == 1) = false := by simpa using hn1
        have hn1b : (n != 1) = true := by simpa using hn1
        have hv : rnearB (⟨op, d, a, b⟩ : Ln) ⟨op, d, a2, b2⟩ = false := by unfold rnearB; rw [if_neg hlm, if_neg (by dsimp only; omega), if_neg (by dsimp only; omega), if_neg (by dsimp only; omega), if_neg hF, if_pos (by rw [HN.out]; exact hn1)]
        rw [hv] at HR
        clear hv
        have HR2 := Lib.hid HR.out
        clear HR hlm hn
        try clear hF
        try clear f3
        try clear hn1
        try clear haa
        try clear hb
        try clear hx
        try clear f1
        go_enter Tryz.func64, Tryz.ntmps64
        go_wp2_with fail
        have hb0 := heap_two0 w (.cells #[.int .i64 op, .int .i64 d, .int .i64 a, .int .i64 b] 25) (.cells #[.int .i64 op, .int .i64 d, .int .i64 a2, .int .i64 b2] 25)
        have hb1 := heap_two1 w (.cells #[.int .i64 op, .int .i64 d, .int .i64 a, .int .i64 b] 25) (.cells #[.int .i64 op, .int .i64 d, .int .i64 a2, .int .i64 b2] 25)
        have hg0 : Grow w ((w.alloc (.cells #[.int .i64 op, .int .i64 d, .int .i64 a, .int .i64 b] 25)).alloc (.cells #[.int .i64 op, .int .i64 d, .int .i64 a2, .int .i64 b2] 25)) := ((Grow.refl w).alloc _).alloc _
        generalize (w.alloc (.cells #[.int .i64 op, .int .i64 d, .int .i64 a, .int .i64 b] 25)).alloc (.cells #[.int .i64 op, .int .i64 d, .int .i64 a2, .int .i64 b2] 25) = W at hb0 hb1 hg0 ⊢
        refine rFields_any op d a b op d a2 b2 _ _ ?_
        intro w1 hg1
        rw [HN.out]
        have HF := Lib.hid (HR2.out w1 (hg0.trans hg1))
        replace hb0 := hg1.blk hb0
        replace hb1 := hg1.blk hb1
        obtain ⟨e0, e1, e2, e3⟩ := box4 hb0
        obtain ⟨f0, f1, f2, f3⟩ := box4 hb1
        have hz := lt_of_block hb1
        clear hb0 hb1 hg0 hg1
        go_wp2_with (go_at_call 107; refine mixes_any _ _ _ ?_)
        exact HF.out
  subst hx
  have hb : b ≠ b2 := fun e => hlm (by rw [e])
  have hba : (b == b2) = false := by simpa using hb
  have hbb : (b != b2) = true := by simpa using hb
  by_cases f3 : a = b2
  · skip
    have f3a : (a == b2) = true := by simpa using f3
    have f3b : (a != b2) = false := by simpa using f3
    by_cases f4 : b = a
    · skip
      have f4a : (b == a) = true := by simpa using f4
      have f4b : (b != a) = false := by simpa using f4
      have hv : rnearB (⟨op, d, a, b⟩ : Ln) ⟨op, d, a, b2⟩ = true := by unfold rnearB; rw [if_neg hlm, if_neg (by dsimp only; omega), if_neg (by dsimp only; omega), if_neg (by dsimp only; omega), if_pos (by dsimp only; omega)]
      rw [hv] at HR
      clear hv
      have HR2 := Lib.hid HR.out
      clear HR hlm hn
      try clear hF
      try clear f3
      try clear f4
      try clear haa
      try clear hb
      try clear hx
      try clear f1
      go_enter Tryz.func64, Tryz.ntmps64
      go_wp2_with fail
      have hb0 := heap_two0 w (.cells #[.int .i64 op, .int .i64 d, .int .i64 a, .int .i64 b] 25) (.cells #[.int .i64 op, .int .i64 d, .int .i64 a, .int .i64 b2] 25)
      have hb1 := heap_two1 w (.cells #[.int .i64 op, .int .i64 d, .int .i64 a, .int .i64 b] 25) (.cells #[.int .i64 op, .int .i64 d, .int .i64 a, .int .i64 b2] 25)
      have hg0 : Grow w ((w.alloc (.cells #[.int .i64 op, .int .i64 d, .int .i64 a, .int .i64 b] 25)).alloc (.cells #[.int .i64 op, .int .i64 d, .int .i64 a, .int .i64 b2] 25)) := ((Grow.refl w).alloc _).alloc _
      generalize (w.alloc (.cells #[.int .i64 op, .int .i64 d, .int .i64 a, .int .i64 b] 25)).alloc (.cells #[.int .i64 op, .int .i64 d, .int .i64 a, .int .i64 b2] 25) = W at hb0 hb1 hg0 ⊢
      refine rFields_any op d a b op d a b2 _ _ ?_
      intro w1 hg1
      rw [HN.out]
      have HF := Lib.hid (HR2.out w1 (hg0.trans hg1))
      replace hb0 := hg1.blk hb0
      replace hb1 := hg1.blk hb1
      obtain ⟨e0, e1, e2, e3⟩ := box4 hb0
      obtain ⟨f0, f1, f2, f3⟩ := box4 hb1
      have hz := lt_of_block hb1
      clear hb0 hb1 hg0 hg1
      go_wp2_with (go_at_call 107; refine mixes_any _ _ _ ?_)
      exact HF.out
    · skip
      have f4a : (b == a) = false := by simpa using f4
      have f4b : (b != a) = true := by simpa using f4
      have hF : ¬ (d = d ∧ 3 ≤ op ∧ a = b2 ∧ b = a) := by omega
      by_cases hn1 : n = 1
      · skip
        have hn1a : (n == 1) = true := by simpa using hn1
        have hn1b : (n != 1) = false := by simpa using hn1
        have hv : rnearB (⟨op, d, a, b⟩ : Ln) ⟨op, d, a, b2⟩ = true := by unfold rnearB; rw [if_neg hlm, if_neg (by dsimp only; omega), if_neg (by dsimp only; omega), if_neg (by dsimp only; omega), if_neg hF, if_neg (by rw [HN.out]; simpa using hn1), if_neg (by dsimp only; omega), if_neg (by dsimp only; omega)]
        rw [hv] at HR
        clear hv
        have HR2 := Lib.hid HR.out
        clear HR hlm hn
        try clear hF
        try clear f3
        try clear f4
        try clear hn1
        try clear haa
        try clear hb
        try clear hx
        try clear f1
        go_enter Tryz.func64, Tryz.ntmps64
        go_wp2_with fail
        have hb0 := heap_two0 w (.cells #[.int .i64 op, .int .i64 d, .int .i64 a, .int .i64 b] 25) (.cells #[.int .i64 op, .int .i64 d, .int .i64 a, .int .i64 b2] 25)
        have hb1 := heap_two1 w (.cells #[.int .i64 op, .int .i64 d, .int .i64 a, .int .i64 b] 25) (.cells #[.int .i64 op, .int .i64 d, .int .i64 a, .int .i64 b2] 25)
        have hg0 : Grow w ((w.alloc (.cells #[.int .i64 op, .int .i64 d, .int .i64 a, .int .i64 b] 25)).alloc (.cells #[.int .i64 op, .int .i64 d, .int .i64 a, .int .i64 b2] 25)) := ((Grow.refl w).alloc _).alloc _
        generalize (w.alloc (.cells #[.int .i64 op, .int .i64 d, .int .i64 a, .int .i64 b] 25)).alloc (.cells #[.int .i64 op, .int .i64 d, .int .i64 a, .int .i64 b2] 25) = W at hb0 hb1 hg0 ⊢
        refine rFields_any op d a b op d a b2 _ _ ?_
        intro w1 hg1
        rw [HN.out]
        have HF := Lib.hid (HR2.out w1 (hg0.trans hg1))
        replace hb0 := hg1.blk hb0
        replace hb1 := hg1.blk hb1
        obtain ⟨e0, e1, e2, e3⟩ := box4 hb0
        obtain ⟨f0, f1, f2, f3⟩ := box4 hb1
        have hz := lt_of_block hb1
        clear hb0 hb1 hg0 hg1
        go_wp2_with (go_at_call 107; refine mixes_any _ _ _ ?_)
        exact HF.out
      · skip
        have hn1a : (n == 1) = false := by simpa using hn1
        have hn1b : (n != 1) = true := by simpa using hn1
        have hv : rnearB (⟨op, d, a, b⟩ : Ln) ⟨op, d, a, b2⟩ = false := by unfold rnearB; rw [if_neg hlm, if_neg (by dsimp only; omega), if_neg (by dsimp only; omega), if_neg (by dsimp only; omega), if_neg hF, if_pos (by rw [HN.out]; exact hn1)]
        rw [hv] at HR
        clear hv
        have HR2 := Lib.hid HR.out
        clear HR hlm hn
        try clear hF
        try clear f3
        try clear f4
        try clear hn1
        try clear haa
        try clear hb
        try clear hx
        try clear f1
        go_enter Tryz.func64, Tryz.ntmps64
        go_wp2_with fail
        have hb0 := heap_two0 w (.cells #[.int .i64 op, .int .i64 d, .int .i64 a, .int .i64 b] 25) (.cells #[.int .i64 op, .int .i64 d, .int .i64 a, .int .i64 b2] 25)
        have hb1 := heap_two1 w (.cells #[.int .i64 op, .int .i64 d, .int .i64 a, .int .i64 b] 25) (.cells #[.int .i64 op, .int .i64 d, .int .i64 a, .int .i64 b2] 25)
        have hg0 : Grow w ((w.alloc (.cells #[.int .i64 op, .int .i64 d, .int .i64 a, .int .i64 b] 25)).alloc (.cells #[.int .i64 op, .int .i64 d, .int .i64 a, .int .i64 b2] 25)) := ((Grow.refl w).alloc _).alloc _
        generalize (w.alloc (.cells #[.int .i64 op, .int .i64 d, .int .i64 a, .int .i64 b] 25)).alloc (.cells #[.int .i64 op, .int .i64 d, .int .i64 a, .int .i64 b2] 25) = W at hb0 hb1 hg0 ⊢
        refine rFields_any op d a b op d a b2 _ _ ?_
        intro w1 hg1
        rw [HN.out]
        have HF := Lib.hid (HR2.out w1 (hg0.trans hg1))
        replace hb0 := hg1.blk hb0
        replace hb1 := hg1.blk hb1
        obtain ⟨e0, e1, e2, e3⟩ := box4 hb0
        obtain ⟨f0, f1, f2, f3⟩ := box4 hb1
        have hz := lt_of_block hb1
        clear hb0 hb1 hg0 hg1
        go_wp2_with (go_at_call 107; refine mixes_any _ _ _ ?_)
        exact HF.out
  · skip
    have f3a : (a == b2) = false := by simpa using f3
    have f3b : (a != b2) = true := by simpa using f3
    have hF : ¬ (d = d ∧ 3 ≤ op ∧ a = b2 ∧ b = a) := by omega
    by_cases hn1 : n = 1
    · skip
      have hn1a : (n == 1) = true := by simpa using hn1
      have hn1b : (n != 1) = false := by simpa using hn1
      have hv : rnearB (⟨op, d, a, b⟩ : Ln) ⟨op, d, a, b2⟩ = true := by unfold rnearB; rw [if_neg hlm, if_neg (by dsimp only; omega), if_neg (by dsimp only; omega), if_neg (by dsimp only; omega), if_neg hF, if_neg (by rw [HN.out]; simpa using hn1), if_neg (by dsimp only; omega), if_neg (by dsimp only; omega)]
      rw [hv] at HR
      clear hv
      have HR2 := Lib.hid HR.out
      clear HR hlm hn
      try clear hF
      try clear f3
      try clear hn1
      try clear haa
      try clear hb
      try clear hx
      try clear f1
      go_enter Tryz.func64, Tryz.ntmps64
      go_wp2_with fail
      have hb0 := heap_two0 w (.cells #[.int .i64 op, .int .i64 d, .int .i64 a, .int .i64 b] 25) (.cells #[.int .i64 op, .int .i64 d, .int .i64 a, .int .i64 b2] 25)
      have hb1 := heap_two1 w (.cells #[.int .i64 op, .int .i64 d, .int .i64 a, .int .i64 b] 25) (.cells #[.int .i64 op, .int .i64 d, .int .i64 a, .int .i64 b2] 25)
      have hg0 : Grow w ((w.alloc (.cells #[.int .i64 op, .int .i64 d, .int .i64 a, .int .i64 b] 25)).alloc (.cells #[.int .i64 op, .int .i64 d, .int .i64 a, .int .i64 b2] 25)) := ((Grow.refl w).alloc _).alloc _
      generalize (w.alloc (.cells #[.int .i64 op, .int .i64 d, .int .i64 a, .int .i64 b] 25)).alloc (.cells #[.int .i64 op, .int .i64 d, .int .i64 a, .int .i64 b2] 25) = W at hb0 hb1 hg0 ⊢
      refine rFields_any op d a b op d a b2 _ _ ?_
      intro w1 hg1
      rw [HN.out]
      have HF := Lib.hid (HR2.out w1 (hg0.trans hg1))
      replace hb0 := hg1.blk hb0
      replace hb1 := hg1.blk hb1
      obtain ⟨e0, e1, e2, e3⟩ := box4 hb0
      obtain ⟨f0, f1, f2, f3⟩ := box4 hb1
      have hz := lt_of_block hb1
      clear hb0 hb1 hg0 hg1
      go_wp2_with (go_at_call 107; refine mixes_any _ _ _ ?_)
      exact HF.out
    · skip
      have hn1a : (n == 1) = false := by simpa using hn1
      have hn1b : (n != 1) = true := by simpa using hn1
      have hv : rnearB (⟨op, d, a, b⟩ : Ln) ⟨op, d, a, b2⟩ = false := by unfold rnearB; rw [if_neg hlm, if_neg (by dsimp only; omega), if_neg (by dsimp only; omega), if_neg (by dsimp only; omega), if_neg hF, if_pos (by rw [HN.out]; exact hn1)]
      rw [hv] at HR
      clear hv
      have HR2 := Lib.hid HR.out
      clear HR hlm hn
      try clear hF
      try clear f3
      try clear hn1
      try clear haa
      try clear hb
      try clear hx
      try clear f1
      go_enter Tryz.func64, Tryz.ntmps64
      go_wp2_with fail
      have hb0 := heap_two0 w (.cells #[.int .i64 op, .int .i64 d, .int .i64 a, .int .i64 b] 25) (.cells #[.int .i64 op, .int .i64 d, .int .i64 a, .int .i64 b2] 25)
      have hb1 := heap_two1 w (.cells #[.int .i64 op, .int .i64 d, .int .i64 a, .int .i64 b] 25) (.cells #[.int .i64 op, .int .i64 d, .int .i64 a, .int .i64 b2] 25)
      have hg0 : Grow w ((w.alloc (.cells #[.int .i64 op, .int .i64 d, .int .i64 a, .int .i64 b] 25)).alloc (.cells #[.int .i64 op, .int .i64 d, .int .i64 a, .int .i64 b2] 25)) := ((Grow.refl w).alloc _).alloc _
      generalize (w.alloc (.cells #[.int .i64 op, .int .i64 d, .int .i64 a, .int .i64 b] 25)).alloc (.cells #[.int .i64 op, .int .i64 d, .int .i64 a, .int .i64 b2] 25) = W at hb0 hb1 hg0 ⊢
      refine rFields_any op d a b op d a b2 _ _ ?_
      intro w1 hg1
      rw [HN.out]
      have HF := Lib.hid (HR2.out w1 (hg0.trans hg1))
      replace hb0 := hg1.blk hb0
      replace hb1 := hg1.blk hb1
      obtain ⟨e0, e1, e2, e3⟩ := box4 hb0
      obtain ⟨f0, f1, f2, f3⟩ := box4 hb1
      have hz := lt_of_block hb1
      clear hb0 hb1 hg0 hg1
      go_wp2_with (go_at_call 107; refine mixes_any _ _ _ ?_)
      exact HF.out
end Go.Proofs.YtbccbokjecdaaaaGreat

namespace Go.Proofs.YtbccbokjecdaaaaGreat
open Go.RowKit

set_option maxRecDepth 100000 in
set_option maxHeartbeats 16000000 in
theorem rnear_any (op d a b op2 d2 a2 b2 : Int) (w : World) (hl : (⟨op, d, a, b⟩ : Ln).ok = true) (hm : (⟨op2, d2, a2, b2⟩ : Ln).ok = true) (R : Ending → World → Prop) (hR : ∀ w', Grow w w' → R (.returned (.bool (rnearB ⟨op, d, a, b⟩ ⟨op2, d2, a2, b2⟩))) w') :
    Calls Tryz.prog 64 #[.agg #[.int .i64 op, .int .i64 d, .int .i64 a, .int .i64 b], .agg #[.int .i64 op2, .int .i64 d2, .int .i64 a2, .int .i64 b2]] w R := by
  have cl := ok_cases hl
  have cm := ok_cases hm
  dsimp only at cl cm
  have bd : 0 ≤ op ∧ op ≤ 7 ∧ 0 ≤ op2 ∧ op2 ≤ 7 := by clear hR; omega
  have bn : -9 ≤ d ∧ d ≤ 9 ∧ -9 ≤ a ∧ a ≤ 9 ∧ -9 ≤ d2 ∧ d2 ≤ 9 ∧ -9 ≤ a2 ∧ a2 ≤ 9 := by clear hR; omega
  clear cl cm hl hm
  by_cases hlm : (⟨op, d, a, b⟩ : Ln) = ⟨op2, d2, a2, b2⟩
  · have hv : rnearB ⟨op, d, a, b⟩ ⟨op2, d2, a2, b2⟩ = false := by unfold rnearB; rw [if_pos hlm]
    rw [hv] at hR
    have HR := Lib.hid hR
    clear hR hv
    simp only [Ln.mk.injEq] at hlm
    obtain ⟨rfl, rfl, rfl, rfl⟩ := hlm
    go_enter Tryz.func64, Tryz.ntmps64
    go_wp2_with fail
    exact HR.out _ (((Grow.refl _).alloc _).alloc _)
  · by_cases h0 : op = 0
    · have hv : rnearB ⟨op, d, a, b⟩ ⟨op2, d2, a2, b2⟩ = false := by unfold rnearB; rw [if_neg hlm, if_pos h0]
      rw [hv] at hR
      have HR := Lib.hid hR
      have HN := Lib.hid hlm
      subst h0
      clear hR hv hlm bd bn
      by_cases gq0 : 0 = op2
      rotate_left
      · have tq1 : (0 == op2) = false := by simpa using gq0
        have tq2 : (0 != op2) = true := by simpa using gq0
        go_enter Tryz.func64, Tryz.ntmps64
        go_wp2_with fail
        exact HR.out _ (((Grow.refl _).alloc _).alloc _)
      subst gq0
      by_cases gq1 : d = d2
      rotate_left
      · have tq1 : (d == d2) = false := by simpa using gq1
        have tq2 : (d != d2) = true := by simpa using gq1
        go_enter Tryz.func64, Tryz.ntmps64
        go_wp2_with fail
        exact HR.out _ (((Grow.refl _).alloc _).alloc _)
      subst gq1
      by_cases gq2 : a = a2
      rotate_left
      · have tq1 : (a == a2) = false := by simpa using gq2
        have tq2 : (a != a2) = true := by simpa using gq2
        go_enter Tryz.func64, Tryz.ntmps64
        go_wp2_with fail
        exact HR.out _ (((Grow.refl _).alloc _).alloc _)
      subst gq2
      by_cases gq3 : b = b2
      rotate_left
      · have tq1 : (b == b2) = false := by simpa using gq3
        have tq2 : (b != b2) = true := by simpa using gq3
        go_enter Tryz.func64, Tryz.ntmps64
        go_wp2_with fail
        exact HR.out _ (((Grow.refl _).alloc _).alloc _)
      subst gq3
      exact absurd rfl HN.out
    · by_cases h2 : op2 = 0
      · have hv : rnearB ⟨op, d, a, b⟩ ⟨op2, d2, a2, b2⟩ = true := by unfold rnearB; rw [if_neg hlm, if_neg h0, if_pos h2]
        rw [hv] at hR
        have HR := Lib.hid hR
        have t0 : (op == 0) = false := by simpa using h0
        subst h2
        clear hR hv hlm bd bn h0
        go_enter Tryz.func64, Tryz.ntmps64
        go_wp2_with fail
        exact HR.out _ (((Grow.refl _).alloc _).alloc _)
      · by_cases h4 : op2 ≠ op
        · exact rnearD_any op d a b op2 d2 a2 b2 w hlm h0 h2 h4 R hR
        · have h5 : op2 = op := by omega
          by_cases k1 : op = 1
          · exact rnear1_any op d a b op2 d2 a2 b2 w hlm k1 (h5.trans k1) bn R hR
          · by_cases k2 : op = 2
            · exact rnear2_any op d a b op2 d2 a2 b2 w hlm k2 (h5.trans k2) R hR
            · by_cases k7 : op = 7
              · exact rnear7_any op d a b op2 d2 a2 b2 w hlm k7 (h5.trans k7) bn R hR
              · exact rnearG_any op d a b op2 d2 a2 b2 w hlm (by omega) (by omega) h5.symm R hR
end Go.Proofs.YtbccbokjecdaaaaGreat

namespace Go.Proofs.YtbccbokjecdaaaaGreat
open Go.RowKit

theorem map_len_le {α β : Type} (f : α → β) (l : List α) (n : Nat) (h : l.length ≤ n) : (l.map f).length ≤ n := by simpa using h
theorem setA_len (t : Int) (n : Nat) : (setA t n).length = n := by simp [setA]
theorem setT_len (n : Nat) : (setT n).length ≤ 19 * n := flat_len (fun t : Nat => setA (t : Int) 19) 19 (fun _ => by rw [setA_len]; exact Nat.le_refl _) n
theorem cpA_len (t : Int) (n : Nat) : (cpA t n).length = n := by simp [cpA]
theorem cpT_len (n : Nat) : (cpT n).length ≤ 4 * n := flat_len (fun t : Nat => cpA (t : Int) 4) 4 (fun _ => by rw [cpA_len]; exact Nat.le_refl _) n
theorem opB_len (o t a : Int) (n : Nat) : (opB o t a n).length = n := by simp [opB]
theorem opA_len (o t : Int) (n : Nat) : (opA o t n).length ≤ 4 * n := flat_len (fun a : Nat => opB o t (a : Int) 4) 4 (fun _ => by rw [opB_len]; exact Nat.le_refl _) n
theorem opT_len (o : Int) (lo n : Nat) : (opT o lo n).length ≤ 16 * n := flat_len (fun t : Nat => opA o ((lo + t : Nat) : Int) 4) 16 (fun t => Nat.le_trans (opA_len o ((lo + t : Nat) : Int) 4) (by omega)) n
theorem opO_len (n : Nat) : (opO n).length ≤ 128 * n := flat_len (fun k : Nat => if k = 4 then opT 7 1 8 else opT ((3 + k : Nat) : Int) 0 4) 128 (fun k => by
  split
  · exact opT_len 7 1 8
  · exact Nat.le_trans (opT_len _ 0 4) (by omega)) n
def headR : List Ln := [⟨0, 0, 0, 0⟩]
def head1 : List Ln := headR ++ setT 4
def head2 : List Ln := head1 ++ cpT 4
theorem head1_len : head1.length ≤ 77 := by unfold head1 headR; rw [List.length_append]; have := setT_len 4; simp; omega
theorem head2_len : head2.length ≤ 93 := by unfold head2; rw [List.length_append]; have := head1_len; have := cpT_len 4; omega
theorem len_set (t m : Nat) (ht : t < 4) (hm : m < 19) : (headR ++ setT t ++ setA t m).length < 100000000000 := by
  simp only [List.length_append]; have := setT_len t; have := setA_len t m; simp [headR]; omega
theorem len_cp (t m : Nat) (ht : t < 4) (hm : m < 4) : (head1 ++ cpT t ++ cpA t m).length < 100000000000 := by
  simp only [List.length_append]; have := head1_len; have := cpT_len t; have := cpA_len t m; omega
theorem len_op (k : Nat) (o : Int) (lo t a b : Nat) (h : Int) (hk : k < 5) (ht : t < 8) (ha : a < 4) (hb : b < 4) : (head2 ++ opO k ++ opT o lo t ++ opA o h a ++ opB o h a b).length < 100000000000 := by
  simp only [List.length_append]; have := head2_len; have := opO_len k; have := opT_len o lo t; have := opA_len o h a; have := opB_len o h a b; omega
theorem setA_snoc (t : Int) (n : Nat) : setA t (n + 1) = setA t n ++ [⟨1, t, (n : Int) - 9, 0⟩] := by simp [setA, List.range_succ]
theorem cpA_snoc (t : Int) (n : Nat) : cpA t (n + 1) = cpA t n ++ [⟨2, t, (n : Int), 0⟩] := by simp [cpA, List.range_succ]
theorem opB_snoc (o t a : Int) (n : Nat) : opB o t a (n + 1) = opB o t a n ++ [⟨o, t, a, (n : Int)⟩] := by simp [opB, List.range_succ]

set_option maxRecDepth 100000 in
set_option maxHeartbeats 16000000 in
theorem rAll_any (w : World) (R : Ending → World → Prop) (hR : ∀ w' v, Grow w w' → LinesAt w' v allR → R (.returned v) w') :
    Calls Tryz.prog 129 #[] w R := by
  have HR := Lib.hid hR
  clear hR
  go_enter Tryz.func129, Tryz.ntmps129
  go_wp2_with fail
  go_loopw [1, 2] (fun out c wr => ∃ t : Nat, t ≤ 4 ∧ c = .int .i64 t ∧ AL w (headR ++ setT t) out wr) (fun _ c _ => (4 - intOf c).toNat)
  case atStart => exact ⟨0, by omega, rfl, (Grow.refl _).alloc _, World.ownsRow_lit w (base := w.heap.size) (e := 25) (size := 4) #[.int .i64 0, .int .i64 0, .int .i64 0, .int .i64 0] 1 (Nat.le_refl _) (by simp [maxLen]) rfl⟩
  case round =>
    obtain ⟨t, ht, rfl, ha⟩ := hrel
    have HA := Lib.hid ha
    clear ha
    by_cases hlt : t < 4
    · have hlt2 : (t : Int) < 4 := by omega
      go_wp2_with fail
      obtain ⟨wo2, rfl⟩ : ∃ z : World, z = wr := ⟨_, rfl⟩
      go_loopw [1, 3] (fun out c wr => ∃ (m : Nat) (x : Int), m ≤ 19 ∧ x = (m : Int) - 9 ∧ c = .int .i64 x ∧ AL w (headR ++ setT t ++ setA t m) out wr) (fun _ c _ => (10 - intOf c).toNat)
      case atStart => exact ⟨0, -9, by omega, by omega, rfl, by show AL w (headR ++ setT t ++ []) _ _; rw [List.append_nil]; exact HA.out⟩
      case round =>
        obtain ⟨m, x, hm, hx, rfl, ha⟩ := hrel
        clear HA
        have HA := Lib.hid ha
        have HX := Lib.hid hx
        clear ha
        by_cases hltm : m < 19
        · have hx1 : x ≤ 9 := by omega
          have hx0 : -9 ≤ x := by omega
          have HLEN := Lib.hid (len_set t m hlt hltm)
          clear hx
          go_wp2_with (at_builtin; refine wpList_app _ rfl (.tmp 22) (.tmp 26) 22 rfl w.heap.size 25 Tryz.underlying22 info_ln rfl (by decide) (by decide) encL encL_len encL_one _ (headR ++ setT t ++ setA t m) rfl (HA.out.grow ((Grow.refl _).alloc _)).ow _ (⟨1, t, x, 0⟩ : Ln) 1 rfl (news_gen _ _ (by simp) (encL ⟨1, t, x, 0⟩) _) HLEN.out (by have := HA.out.g.sz; simp; omega) ?_; intro out2 w2 hown2 hgr2)
          have HA2 := Lib.hid (HA.out.app (y := ⟨1, t, x, 0⟩) ((Grow.refl _).alloc _) hown2 hgr2)
          clear hown2 hgr2
          go_roundw
          case rel => exact ⟨m + 1, x + 1, by omega, by have := HX.out; omega, rfl, by rw [setA_snoc, ← HX.out, ← List.append_assoc]; exact HA2.out⟩
          case measure => simp [intOf]; omega
        · have hm19 : m = 19 := by omega
          subst hm19
          have hx10 : x = 10 := by omega
          subst hx10
          clear hx HX
          go_wp2_with fail
          go_roundw
          case rel => exact ⟨t + 1, by omega, by go_num, by rw [setT_succ, ← List.append_assoc]; exact HA.out⟩
          case measure => simp [intOf]; omega
    · have ht4 : t = 4 := by omega
      have HA1 : Hid (AL w head1 _ _) := Lib.hid (by have h := HA.out; rw [ht4] at h; exact h)
      clear HA ht4
      go_wp2_with fail
      obtain ⟨wo3, rfl⟩ : ∃ z : World, z = wr := ⟨_, rfl⟩
      go_loopw [1, 4] (fun out c wr => ∃ t : Nat, t ≤ 4 ∧ c = .int .i64 t ∧ AL w (head1 ++ cpT t) out wr) (fun _ c _ => (4 - intOf c).toNat)
      case atStart => exact ⟨0, by omega, rfl, by show AL w (head1 ++ []) _ _; rw [List.append_nil]; exact HA1.out⟩
      case round =>
        obtain ⟨t, ht, rfl, ha⟩ := hrel
        clear HA1
        have HA := Lib.hid ha
        clear ha
        by_cases hlt : t < 4
        · have hlt2 : (t : Int) < 4 := by omega
          go_wp2_with fail
          obtain ⟨wo4, rfl⟩ : ∃ z : World, z = wr := ⟨_, rfl⟩
          go_loopw [1, 5] (fun out c wr => ∃ m : Nat, m ≤ 4 ∧ c = .int .i64 m ∧ AL w (head1 ++ cpT t ++ cpA t m) out wr) (fun _ c _ => (4 - intOf c).toNat)
          case atStart => exact ⟨0, by omega, rfl, by show AL w (head1 ++ cpT t ++ []) _ _; rw [List.append_nil]; exact HA.out⟩
          case round =>
            obtain ⟨m, hm, rfl, ha⟩ := hrel
            clear HA
            have HA := Lib.hid ha
            clear ha
            by_cases hltm : m < 4
            · have hm2 : (m : Int) < 4 := by omega
              have HLEN := Lib.hid (len_cp t m hlt hltm)
              go_wp2_with (at_builtin; refine wpList_app _ rfl (.tmp 36) (.tmp 40) 22 rfl w.heap.size 25 Tryz.underlying22 info_ln rfl (by decide) (by decide) encL encL_len encL_one _ (head1 ++ cpT t ++ cpA t m) rfl (HA.out.grow ((Grow.refl _).alloc _)).ow _ (⟨2, t, m, 0⟩ : Ln) 1 rfl (news_gen _ _ (by simp) (encL ⟨2, t, m, 0⟩) _) HLEN.out (by have := HA.out.g.sz; simp; omega) ?_; intro out2 w2 hown2 hgr2)
              have HA2 := Lib.hid (HA.out.app (y := ⟨2, t, m, 0⟩) ((Grow.refl _).alloc _) hown2 hgr2)
              clear hown2 hgr2
              go_roundw
              case rel => exact ⟨m + 1, by omega, by go_num, by rw [cpA_snoc, ← List.append_assoc]; exact HA2.out⟩
              case measure => simp [intOf]; omega
            · have hm4 : m = 4 := by omega
              subst hm4
              go_wp2_with fail
              go_roundw
              case rel => exact ⟨t + 1, by omega, by go_num, by rw [cpT_succ, ← List.append_assoc]; exact HA.out⟩
              case measure => simp [intOf]; omega
        · have ht4 : t = 4 := by omega
          have HA1 : Hid (AL w head2 _ _) := Lib.hid (by have h := HA.out; rw [ht4] at h; exact h)
          clear HA ht4
          go_wp2_with fail
          obtain ⟨wo5, rfl⟩ : ∃ z : World, z = wr := ⟨_, rfl⟩
          go_loopw [1, 6] (fun out c wr => ∃ k q : Nat, k ≤ 5 ∧ q = 3 + k ∧ c = .int .i64 q ∧ AL w (head2 ++ opO k) out wr) (fun _ c _ => (8 - intOf c).toNat)
          case atStart => exact ⟨0, 3, by omega, by omega, rfl, by show AL w (head2 ++ []) _ _; rw [List.append_nil]; exact HA1.out⟩
          case round =>
            obtain ⟨k, q, hk, hq, rfl, ha⟩ := hrel
            clear HA1
            have HA := Lib.hid ha
            have HQ := Lib.hid hq
            clear ha
            by_cases hlt : k < 5
            rotate_left
            · have hk5 : k = 5 := by omega
              subst hk5
              have hq8 : q = 8 := by omega
              subst hq8
              clear hq HQ
              have HF := Lib.hid (HR.out _ _ HA.out.g (slc_of_owns encL_len HA.out.ow))
              go_wp2_with fail
              exact HF.out
            · by_cases hk4 : k = 4
              · have HK4 := Lib.hid hk4
                have hq2 : (q : Int) ≤ 7 := by omega
                have hq0 : 3 ≤ (q : Int) := by omega
                have tq : ((q : Int) == 7) = true := by simp; omega
                clear hq hk4
                go_wp2_with fail
                obtain ⟨wo6, rfl⟩ : ∃ z : World, z = wr := ⟨_, rfl⟩
                go_loopw [1, 9] (fun out c wr => ∃ t d : Nat, t ≤ 8 ∧ d = 1 + t ∧ c = .int .i64 d ∧ AL w (head2 ++ opO k ++ opT q 1 t) out wr) (fun _ c _ => (9 - intOf c).toNat)
                case atStart => exact ⟨0, 1, by omega, by omega, rfl, by show AL w (head2 ++ opO k ++ []) _ _; rw [List.append_nil]; exact HA.out⟩
                case round =>
                  obtain ⟨t, d, ht, hd, rfl, ha⟩ := hrel
                  clear HA
                  have HA := Lib.hid ha
                  have HD := Lib.hid hd
                  clear ha
                  by_cases hltt : t < 8
                  · have hd2 : (d : Int) ≤ 8 := by omega
                    clear hd
                    go_wp2_with fail
                    obtain ⟨wo7, rfl⟩ : ∃ z : World, z = wr := ⟨_, rfl⟩
                    go_loopw [1, 10] (fun out c wr => ∃ a : Nat, a ≤ 4 ∧ c = .int .i64 a ∧ AL w (head2 ++ opO k ++ opT q 1 t ++ opA q d a) out wr) (fun _ c _ => (4 - intOf c).toNat)
                    case atStart => exact ⟨0, by omega, rfl, by show AL w (head2 ++ opO k ++ opT q 1 t ++ []) _ _; rw [List.append_nil]; exact HA.out⟩
                    case round =>
                      obtain ⟨a, hma, rfl, ha⟩ := hrel
                      clear HA
                      have HA := Lib.hid ha
                      clear ha
                      by_cases hlta : a < 4
                      · have ha2 : (a : Int) < 4 := by omega
                        go_wp2_with fail
                        obtain ⟨wo8, rfl⟩ : ∃ z : World, z = wr := ⟨_, rfl⟩
                        go_loopw [1, 11] (fun out c wr => ∃ b : Nat, b ≤ 4 ∧ c = .int .i64 b ∧ AL w (head2 ++ opO k ++ opT q 1 t ++ opA q d a ++ opB q d a b) out wr) (fun _ c _ => (4 - intOf c).toNat)
                        case atStart => exact ⟨0, by omega, rfl, by show AL w (head2 ++ opO k ++ opT q 1 t ++ opA q d a ++ []) _ _; rw [List.append_nil]; exact HA.out⟩
                        case round =>
                          obtain ⟨b, hmb, rfl, ha⟩ := hrel
                          clear HA
                          have HA := Lib.hid ha
                          clear ha
                          by_cases hltb : b < 4
                          · have hb2 : (b : Int) < 4 := by omega
                            have HLEN := Lib.hid (len_op k q 1 t a b d hlt (by omega) hlta hltb)
                            go_wp2_with (at_builtin; refine wpList_app _ rfl (.tmp 62) (.tmp 68) 22 rfl w.heap.size 25 Tryz.underlying22 info_ln rfl (by decide) (by decide) encL encL_len encL_one _ (head2 ++ opO k ++ opT q 1 t ++ opA q d a ++ opB q d a b) rfl (HA.out.grow ((Grow.refl _).alloc _)).ow _ (⟨q, d, a, b⟩ : Ln) 1 rfl (news_gen _ _ (by simp) (encL ⟨q, d, a, b⟩) _) HLEN.out (by have := HA.out.g.sz; simp; omega) ?_; intro out2 w2 hown2 hgr2)
                            have HA2 := Lib.hid (HA.out.app (y := ⟨q, d, a, b⟩) ((Grow.refl _).alloc _) hown2 hgr2)
                            clear hown2 hgr2
                            go_roundw
                            case rel => exact ⟨b + 1, by omega, by go_num, by rw [opB_snoc, ← List.append_assoc]; exact HA2.out⟩
                            case measure => simp [intOf]; omega
                          · have hb4 : b = 4 := by omega
                            subst hb4
                            go_wp2_with fail
                            go_roundw
                            case rel => exact ⟨a + 1, by omega, by go_num, by rw [opA_succ, ← List.append_assoc]; exact HA.out⟩
                            case measure => simp [intOf]; omega
                      · have ha4 : a = 4 := by omega
                        subst ha4
                        go_wp2_with fail
                        go_roundw
                        case rel => exact ⟨t + 1, d + 1, by omega, by have := HD.out; omega, by go_num, by rw [opT_succ, ← HD.out, ← List.append_assoc]; exact HA.out⟩
                        case measure => simp [intOf]; omega
                  · have ht4 : t = 8 := by omega
                    subst ht4
                    have hd3 : d = 9 := by omega
                    subst hd3
                    clear hd HD
                    go_wp2_with fail
                    go_roundw
                    case rel =>
                      have e : opO (k + 1) = opO k ++ opT (q : Int) 1 8 := by rw [opO_succ, if_pos HK4.out, show ((q : Nat) : Int) = 7 by have := HQ.out; have := HK4.out; omega]
                      exact ⟨k + 1, q + 1, by omega, by have := HQ.out; omega, by go_num, by rw [e, ← List.append_assoc]; exact HA.out⟩
                    case measure => simp [intOf]; omega
              · have hq2 : (q : Int) ≤ 7 := by omega
                have hq0 : 3 ≤ (q : Int) := by omega
                have tq : ((q : Int) == 7) = false := by simp; omega
                clear hq
                go_wp2_with fail
                obtain ⟨wo9, rfl⟩ : ∃ z : World, z = wr := ⟨_, rfl⟩
                go_loopw [1, 9] (fun out c wr => ∃ t d : Nat, t ≤ 4 ∧ d = 0 + t ∧ c = .int .i64 d ∧ AL w (head2 ++ opO k ++ opT q 0 t) out wr) (fun _ c _ => (4 - intOf c).toNat)
                case atStart => exact ⟨0, 0, by omega, by omega, rfl, by show AL w (head2 ++ opO k ++ []) _ _; rw [List.append_nil]; exact HA.out⟩
                case round =>
                  obtain ⟨t, d, ht, hd, rfl, ha⟩ := hrel
                  clear HA
                  have HA := Lib.hid ha
                  have HD := Lib.hid hd
                  clear ha
                  by_cases hltt : t < 4
                  · have hd2 : (d : Int) ≤ 3 := by omega
                    clear hd
                    go_wp2_with fail
                    obtain ⟨wo10, rfl⟩ : ∃ z : World, z = wr := ⟨_, rfl⟩
                    go_loopw [1, 10] (fun out c wr => ∃ a : Nat, a ≤ 4 ∧ c = .int .i64 a ∧ AL w (head2 ++ opO k ++ opT q 0 t ++ opA q d a) out wr) (fun _ c _ => (4 - intOf c).toNat)
                    case atStart => exact ⟨0, by omega, rfl, by show AL w (head2 ++ opO k ++ opT q 0 t ++ []) _ _; rw [List.append_nil]; exact HA.out⟩
                    case round =>
                      obtain ⟨a, hma, rfl, ha⟩ := hrel
                      clear HA
                      have HA := Lib.hid ha
                      clear ha
                      by_cases hlta : a < 4
                      · have ha2 : (a : Int) < 4 := by omega
                        go_wp2_with fail
                        obtain ⟨wo11, rfl⟩ : ∃ z : World, z = wr := ⟨_, rfl⟩
                        go_loopw [1, 11] (fun out c wr => ∃ b : Nat, b ≤ 4 ∧ c = .int .i64 b ∧ AL w (head2 ++ opO k ++ opT q 0 t ++ opA q d a ++ opB q d a b) out wr) (fun _ c _ => (4 - intOf c).toNat)
                        case atStart => exact ⟨0, by omega, rfl, by show AL w (head2 ++ opO k ++ opT q 0 t ++ opA q d a ++ []) _ _; rw [List.append_nil]; exact HA.out⟩
                        case round =>
                          obtain ⟨b, hmb, rfl, ha⟩ := hrel
                          clear HA
                          have HA := Lib.hid ha
                          clear ha
                          by_cases hltb : b < 4
                          · have hb2 : (b : Int) < 4 := by omega
                            have HLEN := Lib.hid (len_op k q 0 t a b d hlt (by omega) hlta hltb)
                            go_wp2_with (at_builtin; refine wpList_app _ rfl (.tmp 62) (.tmp 68) 22 rfl w.heap.size 25 Tryz.underlying22 info_ln rfl (by decide) (by decide) encL encL_len encL_one _ (head2 ++ opO k ++ opT q 0 t ++ opA q d a ++ opB q d a b) rfl (HA.out.grow ((Grow.refl _).alloc _)).ow _ (⟨q, d, a, b⟩ : Ln) 1 rfl (news_gen _ _ (by simp) (encL ⟨q, d, a, b⟩) _) HLEN.out (by have := HA.out.g.sz; simp; omega) ?_; intro out2 w2 hown2 hgr2)
                            have HA2 := Lib.hid (HA.out.app (y := ⟨q, d, a, b⟩) ((Grow.refl _).alloc _) hown2 hgr2)
                            clear hown2 hgr2
                            go_roundw
                            case rel => exact ⟨b + 1, by omega, by go_num, by rw [opB_snoc, ← List.append_assoc]; exact HA2.out⟩
                            case measure => simp [intOf]; omega
                          · have hb4 : b = 4 := by omega
                            subst hb4
                            go_wp2_with fail
                            go_roundw
                            case rel => exact ⟨a + 1, by omega, by go_num, by rw [opA_succ, ← List.append_assoc]; exact HA.out⟩
                            case measure => simp [intOf]; omega
                      · have ha4 : a = 4 := by omega
                        subst ha4
                        go_wp2_with fail
                        go_roundw
                        case rel => exact ⟨t + 1, d + 1, by omega, by have := HD.out; omega, by go_num, by rw [opT_succ, ← HD.out, ← List.append_assoc]; exact HA.out⟩
                        case measure => simp [intOf]; omega
                  · have ht4 : t = 4 := by omega
                    subst ht4
                    have hd3 : d = 4 := by omega
                    subst hd3
                    clear hd HD
                    go_wp2_with fail
                    go_roundw
                    case rel => exact ⟨k + 1, q + 1, by omega, by have := HQ.out; omega, by go_num, by rw [opO_succ, if_neg hk4, ← HQ.out, ← List.append_assoc]; exact HA.out⟩
                    case measure => simp [intOf]; omega
end Go.Proofs.YtbccbokjecdaaaaGreat
