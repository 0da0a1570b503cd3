/- The walk of the statement SeekNears. -/
import Derived.Test.YtbccbokjecdaaaaSkG
import Derived.Test.YtbccbokjecdaaaaPlKn
import Derived.Test.YtbccbokjecdaaaaOpen
namespace Go.Proofs.Ytbccbokjecdaaaa
open Go.RowKit

theorem sm_is : nearB ⟨1, 0, 3, 0⟩ ⟨1, 2, 3, 0⟩ = true ∧ nearE ⟨1, 0, 3, 0⟩ ⟨1, 2, 3, 0⟩ = 0 := by decide +kernel
theorem sm_not : nearB ⟨1, 0, 3, 0⟩ ⟨1, 0, 5, 0⟩ = false ∧ nearE ⟨1, 0, 3, 0⟩ ⟨1, 0, 5, 0⟩ = 0 := by decide +kernel
set_option maxRecDepth 100000 in
set_option maxHeartbeats 4000000 in
theorem ssame_any (w : World) (R : Ending → World → Prop) (hR : ∀ w', Grow w w' → R (.returned (.bool true)) w') :
    Calls Try.prog 7 #[] w R := by
  have HR := Lib.hid hR
  clear hR
  go_enter Try.func7, Try.ntmps7
  go_wp2_with fail
  refine near_any 1 0 3 0 1 2 3 0 _ _ ?_
  intro w1 hg1
  rw [sm_is.1, sm_is.2]
  have HG1 := Lib.hid hg1
  clear hg1
  go_wp2_with fail
  refine near_any 1 0 3 0 1 0 5 0 _ _ ?_
  intro w2 hg2
  rw [sm_not.1, sm_not.2]
  have HF := Lib.hid (HR.out w2 (HG1.out.trans hg2))
  clear hg2
  go_wp2_with fail
  exact HF.out

theorem near_comm_e (l m : Ln) : nearE l m = nearE m l := by unfold nearE; rw [Bool.and_comm]
theorem near_bad {l m : Ln} (h : nearE l m ≠ 0) : nearE l m = 1 ∧ nearB l m = false := by
  unfold nearE at *
  unfold nearB
  cases h1 : l.ok && m.ok with
  | true => rw [h1] at h; exact absurd rfl h
  | false => simp
theorem near_ok {l m : Ln} (h : nearE l m = 0) : l.ok = true ∧ m.ok = true := by
  unfold nearE at h
  cases h1 : l.ok && m.ok with
  | true => simpa using h1
  | false => rw [h1] at h; cases h
/-- The four ways. -/
theorem nears_ways (l m : Ln) : (nearE l m = 1 ∧ nearE m l = 1 ∧ nearB l m = false ∧ nearB m l = false) ∨ (nearE l m = 0 ∧ nearE m l = 0 ∧ nearB l m = false ∧ l.op = 0) ∨ (nearE l m = 0 ∧ nearE m l = 0 ∧ l.op ≠ 0 ∧ m.op = 0) ∨
    (nearE l m = 0 ∧ nearE m l = 0 ∧ nearB m l = nearB l m ∧ l.op ≠ 0 ∧ m.op ≠ 0 ∧ (nearB l m = true → l ≠ m)) := by
  by_cases h : nearE l m = 0
  · obtain ⟨hl, hm⟩ := near_ok h
    have h2 : nearE m l = 0 := by rw [near_comm_e]; exact h
    by_cases h0 : l.op = 0
    · exact .inr (.inl ⟨h, h2, near_none m h0, h0⟩)
    · by_cases h1 : m.op = 0
      · exact .inr (.inr (.inl ⟨h, h2, h0, h1⟩))
      · refine .inr (.inr (.inr ⟨h, h2, (near_symm hl hm h0 h1).symm, h0, h1, fun hn e => ?_⟩))
        subst e
        rw [near_irrefl] at hn; cases hn
  · have k := near_bad h
    have h2 : nearE m l ≠ 0 := by rw [near_comm_e]; exact h
    have k2 := near_bad h2
    exact .inl ⟨k.1, k2.1, k.2, k2.2⟩

set_option maxRecDepth 100000 in
set_option maxHeartbeats 8000000 in
theorem seekNears_any (l0 l1 l2 l3 : Int) (m0 m1 m2 m3 : Int) (w : World)  (R : Ending → World → Prop) (hR : ∀ w', Grow w w' → R (.returned (.bool true)) w') :
    Calls Try.prog 3 #[.agg #[.int .i64 l0, .int .i64 l1, .int .i64 l2, .int .i64 l3], .agg #[.int .i64 m0, .int .i64 m1, .int .i64 m2, .int .i64 m3]] w R := by
  have HR := Lib.hid hR
  clear hR
  have hways := nears_ways ⟨l0, l1, l2, l3⟩ ⟨m0, m1, m2, m3⟩
  dsimp only at hways
  obtain ⟨e1, he1⟩ : ∃ z, nearE ⟨l0, l1, l2, l3⟩ ⟨m0, m1, m2, m3⟩ = z := ⟨_, rfl⟩
  obtain ⟨b1, hb1⟩ : ∃ z, nearB ⟨l0, l1, l2, l3⟩ ⟨m0, m1, m2, m3⟩ = z := ⟨_, rfl⟩
  rw [he1, hb1] at hways
  have HE1 := Lib.hid he1
  have HB1 := Lib.hid hb1
  clear he1 hb1
  obtain ⟨e2, he2⟩ : ∃ z, nearE ⟨m0, m1, m2, m3⟩ ⟨l0, l1, l2, l3⟩ = z := ⟨_, rfl⟩
  obtain ⟨b2, hb2⟩ : ∃ z, nearB ⟨m0, m1, m2, m3⟩ ⟨l0, l1, l2, l3⟩ = z := ⟨_, rfl⟩
  rw [he2, hb2] at hways
  have HE2 := Lib.hid he2
  have HB2 := Lib.hid hb2
  clear he2 hb2
  rcases hways with ⟨rfl, rfl, rfl, rfl⟩ | ⟨rfl, rfl, rfl, h0⟩ | ⟨rfl, rfl, h0, h1⟩ | ⟨rfl, rfl, rfl, h0, h1, hne⟩
  · skip
    go_enter Try.func3, Try.ntmps3
    go_wp2_with fail
    obtain ⟨wb0, hwb0⟩ : ∃ W, w.alloc (.cells #[.int .i64 l0, .int .i64 l1, .int .i64 l2, .int .i64 l3] 23) = W := ⟨_, rfl⟩
    rw [hwb0]
    have hgb0 : Grow w wb0 := hwb0 ▸ (Grow.refl w).alloc _
    have hsz0 : wb0.heap.size = w.heap.size + 1 := by rw [← hwb0, World.size_alloc]
    have hbb0 : wb0.heap[w.heap.size]? = some (.cells #[.int .i64 l0, .int .i64 l1, .int .i64 l2, .int .i64 l3] 23 (0, 0)) := by have h := heap_alloc_new w (.cells #[.int .i64 l0, .int .i64 l1, .int .i64 l2, .int .i64 l3] 23); rw [hwb0] at h; exact h
    clear hwb0
    have hgr1 : Grow w wb0 := by first | exact hgb0 | exact Grow.trans ((Grow.refl _).alloc _) hgb0 | exact Grow.trans (((Grow.refl _).alloc _).alloc _) hgb0 | exact Grow.trans ((((Grow.refl _).alloc _).alloc _).alloc _) hgb0 | exact Grow.trans (((((Grow.refl _).alloc _).alloc _).alloc _).alloc _) hgb0 | exact Grow.trans ((Grow.refl _).drewN _) hgb0
    have GCH1 := Lib.hid hgr1
    clear hgb0 hgr1
    obtain ⟨el0, el1, el2, el3⟩ := box4 hbb0
    have zl := lt_of_block hbb0
    have HBB0 := Lib.hid hbb0
    clear hbb0
    obtain ⟨wb1, hwb1⟩ : ∃ W, wb0.alloc (.cells #[.int .i64 m0, .int .i64 m1, .int .i64 m2, .int .i64 m3] 23) = W := ⟨_, rfl⟩
    rw [hwb1]
    have hgb1 : Grow wb0 wb1 := hwb1 ▸ (Grow.refl wb0).alloc _
    have hsz1 : wb1.heap.size = w.heap.size + 2 := by rw [← hwb1, World.size_alloc]; rw [hsz0]
    have hbb1 : wb1.heap[w.heap.size + 1]? = some (.cells #[.int .i64 m0, .int .i64 m1, .int .i64 m2, .int .i64 m3] 23 (0, 0)) := by have h := heap_alloc_new wb0 (.cells #[.int .i64 m0, .int .i64 m1, .int .i64 m2, .int .i64 m3] 23); rw [hsz0] at h; rw [hwb1] at h; exact h
    clear hwb1
    have hgr2 : Grow wb0 wb1 := by first | exact hgb1 | exact Grow.trans ((Grow.refl _).alloc _) hgb1 | exact Grow.trans (((Grow.refl _).alloc _).alloc _) hgb1 | exact Grow.trans ((((Grow.refl _).alloc _).alloc _).alloc _) hgb1 | exact Grow.trans (((((Grow.refl _).alloc _).alloc _).alloc _).alloc _) hgb1 | exact Grow.trans ((Grow.refl _).drewN _) hgb1
    have GCH2 := Lib.hid (GCH1.out.trans hgr2)
    have hbx_2 := hgr2.blk HBB0.out
    clear el0 el1 el2 el3 zl
    obtain ⟨el0, el1, el2, el3⟩ := box4 hbx_2
    have zl := lt_of_block hbx_2
    have HBX0_2 := Lib.hid hbx_2
    clear hbx_2
    clear hgb1 hgr2 GCH1 HBB0
    obtain ⟨em0, em1, em2, em3⟩ := box4 hbb1
    have zm := lt_of_block hbb1
    have HBB1 := Lib.hid hbb1
    clear hbb1
    clear hsz0 hsz1
    refine near_any l0 l1 l2 l3 m0 m1 m2 m3 _ _ ?_
    intro wz3 hg3 
    have hgr3 : Grow wb1 wz3 := by first | exact hg3 | exact Grow.trans ((Grow.refl _).alloc _) hg3 | exact Grow.trans (((Grow.refl _).alloc _).alloc _) hg3 | exact Grow.trans ((((Grow.refl _).alloc _).alloc _).alloc _) hg3 | exact Grow.trans (((((Grow.refl _).alloc _).alloc _).alloc _).alloc _) hg3 | exact Grow.trans ((Grow.refl _).drewN _) hg3
    have GCH3 := Lib.hid (GCH2.out.trans hgr3)
    have hbx_3 := hgr3.blk HBX0_2.out
    clear el0 el1 el2 el3 zl
    obtain ⟨el0, el1, el2, el3⟩ := box4 hbx_3
    have zl := lt_of_block hbx_3
    have HBX0_3 := Lib.hid hbx_3
    clear hbx_3
    have hbx_3 := hgr3.blk HBB1.out
    clear em0 em1 em2 em3 zm
    obtain ⟨em0, em1, em2, em3⟩ := box4 hbx_3
    have zm := lt_of_block hbx_3
    have HBX1_3 := Lib.hid hbx_3
    clear hbx_3
    clear hg3 hgr3 GCH2 HBX0_2 HBB1
    rw [HE1.out, HB1.out]
    go_wp2_with fail
    refine near_any m0 m1 m2 m3 l0 l1 l2 l3 _ _ ?_
    intro wz4 hg4 
    have hgr4 : Grow wz3 wz4 := by first | exact hg4 | exact Grow.trans ((Grow.refl _).alloc _) hg4 | exact Grow.trans (((Grow.refl _).alloc _).alloc _) hg4 | exact Grow.trans ((((Grow.refl _).alloc _).alloc _).alloc _) hg4 | exact Grow.trans (((((Grow.refl _).alloc _).alloc _).alloc _).alloc _) hg4 | exact Grow.trans ((Grow.refl _).drewN _) hg4
    have GCH4 := Lib.hid (GCH3.out.trans hgr4)
    have hbx_4 := hgr4.blk HBX0_3.out
    clear el0 el1 el2 el3 zl
    obtain ⟨el0, el1, el2, el3⟩ := box4 hbx_4
    have zl := lt_of_block hbx_4
    have HBX0_4 := Lib.hid hbx_4
    clear hbx_4
    have hbx_4 := hgr4.blk HBX1_3.out
    clear em0 em1 em2 em3 zm
    obtain ⟨em0, em1, em2, em3⟩ := box4 hbx_4
    have zm := lt_of_block hbx_4
    have HBX1_4 := Lib.hid hbx_4
    clear hbx_4
    clear hg4 hgr4 GCH3 HBX0_3 HBX1_3
    rw [HE2.out, HB2.out]
    go_wp2_with fail
    refine ssame_any _ _ ?_
    intro wz5 hg5 
    have hgr5 : Grow wz4 wz5 := by first | exact hg5 | exact Grow.trans ((Grow.refl _).alloc _) hg5 | exact Grow.trans (((Grow.refl _).alloc _).alloc _) hg5 | exact Grow.trans ((((Grow.refl _).alloc _).alloc _).alloc _) hg5 | exact Grow.trans (((((Grow.refl _).alloc _).alloc _).alloc _).alloc _) hg5 | exact Grow.trans ((Grow.refl _).drewN _) hg5
    have GCH5 := Lib.hid (GCH4.out.trans hgr5)
    have hbx_5 := hgr5.blk HBX0_4.out
    clear el0 el1 el2 el3 zl
    obtain ⟨el0, el1, el2, el3⟩ := box4 hbx_5
    have zl := lt_of_block hbx_5
    have HBX0_5 := Lib.hid hbx_5
    clear hbx_5
    have hbx_5 := hgr5.blk HBX1_4.out
    clear em0 em1 em2 em3 zm
    obtain ⟨em0, em1, em2, em3⟩ := box4 hbx_5
    have zm := lt_of_block hbx_5
    have HBX1_5 := Lib.hid hbx_5
    clear hbx_5
    clear hg5 hgr5 GCH4 HBX0_4 HBX1_4
    go_wp2_with fail
    first | exact HR.out _ (GCH5.out) | exact HR.out _ (Grow.trans GCH5.out ((Grow.refl _).alloc _)) | exact HR.out _ (Grow.trans GCH5.out (((Grow.refl _).alloc _).alloc _)) | exact HR.out _ (Grow.trans GCH5.out ((((Grow.refl _).alloc _).alloc _).alloc _)) | exact HR.out _ (Grow.trans GCH5.out (((((Grow.refl _).alloc _).alloc _).alloc _).alloc _)) | exact HR.out _ (Grow.trans GCH5.out ((Grow.refl _).drewN _))
  · have t1 : (l0 == 0) = true := by simpa using h0
    clear h0
    go_enter Try.func3, Try.ntmps3
    go_wp2_with fail
    obtain ⟨wb0, hwb0⟩ : ∃ W, w.alloc (.cells #[.int .i64 l0, .int .i64 l1, .int .i64 l2, .int .i64 l3] 23) = W := ⟨_, rfl⟩
    rw [hwb0]
    have hgb0 : Grow w wb0 := hwb0 ▸ (Grow.refl w).alloc _
    have hsz0 : wb0.heap.size = w.heap.size + 1 := by rw [← hwb0, World.size_alloc]
    have hbb0 : wb0.heap[w.heap.size]? = some (.cells #[.int .i64 l0, .int .i64 l1, .int .i64 l2, .int .i64 l3] 23 (0, 0)) := by have h := heap_alloc_new w (.cells #[.int .i64 l0, .int .i64 l1, .int .i64 l2, .int .i64 l3] 23); rw [hwb0] at h; exact h
    clear hwb0
    have hgr1 : Grow w wb0 := by first | exact hgb0 | exact Grow.trans ((Grow.refl _).alloc _) hgb0 | exact Grow.trans (((Grow.refl _).alloc _).alloc _) hgb0 | exact Grow.trans ((((Grow.refl _).alloc _).alloc _).alloc _) hgb0 | exact Grow.trans (((((Grow.refl _).alloc _).alloc _).alloc _).alloc _) hgb0 | exact Grow.trans ((Grow.refl _).drewN _) hgb0
    have GCH1 := Lib.hid hgr1
    clear hgb0 hgr1
    obtain ⟨el0, el1, el2, el3⟩ := box4 hbb0
    have zl := lt_of_block hbb0
    have HBB0 := Lib.hid hbb0
    clear hbb0
    obtain ⟨wb1, hwb1⟩ : ∃ W, wb0.alloc (.cells #[.int .i64 m0, .int .i64 m1, .int .i64 m2, .int .i64 m3] 23) = W := ⟨_, rfl⟩
    rw [hwb1]
    have hgb1 : Grow wb0 wb1 := hwb1 ▸ (Grow.refl wb0).alloc _
    have hsz1 : wb1.heap.size = w.heap.size + 2 := by rw [← hwb1, World.size_alloc]; rw [hsz0]
    have hbb1 : wb1.heap[w.heap.size + 1]? = some (.cells #[.int .i64 m0, .int .i64 m1, .int .i64 m2, .int .i64 m3] 23 (0, 0)) := by have h := heap_alloc_new wb0 (.cells #[.int .i64 m0, .int .i64 m1, .int .i64 m2, .int .i64 m3] 23); rw [hsz0] at h; rw [hwb1] at h; exact h
    clear hwb1
    have hgr2 : Grow wb0 wb1 := by first | exact hgb1 | exact Grow.trans ((Grow.refl _).alloc _) hgb1 | exact Grow.trans (((Grow.refl _).alloc _).alloc _) hgb1 | exact Grow.trans ((((Grow.refl _).alloc _).alloc _).alloc _) hgb1 | exact Grow.trans (((((Grow.refl _).alloc _).alloc _).alloc _).alloc _) hgb1 | exact Grow.trans ((Grow.refl _).drewN _) hgb1
    have GCH2 := Lib.hid (GCH1.out.trans hgr2)
    have hbx_2 := hgr2.blk HBB0.out
    clear el0 el1 el2 el3 zl
    obtain ⟨el0, el1, el2, el3⟩ := box4 hbx_2
    have zl := lt_of_block hbx_2
    have HBX0_2 := Lib.hid hbx_2
    clear hbx_2
    clear hgb1 hgr2 GCH1 HBB0
    obtain ⟨em0, em1, em2, em3⟩ := box4 hbb1
    have zm := lt_of_block hbb1
    have HBB1 := Lib.hid hbb1
    clear hbb1
    clear hsz0 hsz1
    refine near_any l0 l1 l2 l3 m0 m1 m2 m3 _ _ ?_
    intro wz3 hg3 
    have hgr3 : Grow wb1 wz3 := by first | exact hg3 | exact Grow.trans ((Grow.refl _).alloc _) hg3 | exact Grow.trans (((Grow.refl _).alloc _).alloc _) hg3 | exact Grow.trans ((((Grow.refl _).alloc _).alloc _).alloc _) hg3 | exact Grow.trans (((((Grow.refl _).alloc _).alloc _).alloc _).alloc _) hg3 | exact Grow.trans ((Grow.refl _).drewN _) hg3
    have GCH3 := Lib.hid (GCH2.out.trans hgr3)
    have hbx_3 := hgr3.blk HBX0_2.out
    clear el0 el1 el2 el3 zl
    obtain ⟨el0, el1, el2, el3⟩ := box4 hbx_3
    have zl := lt_of_block hbx_3
    have HBX0_3 := Lib.hid hbx_3
    clear hbx_3
    have hbx_3 := hgr3.blk HBB1.out
    clear em0 em1 em2 em3 zm
    obtain ⟨em0, em1, em2, em3⟩ := box4 hbx_3
    have zm := lt_of_block hbx_3
    have HBX1_3 := Lib.hid hbx_3
    clear hbx_3
    clear hg3 hgr3 GCH2 HBX0_2 HBB1
    rw [HE1.out, HB1.out]
    go_wp2_with fail
    refine near_any m0 m1 m2 m3 l0 l1 l2 l3 _ _ ?_
    intro wz4 hg4 
    have hgr4 : Grow wz3 wz4 := by first | exact hg4 | exact Grow.trans ((Grow.refl _).alloc _) hg4 | exact Grow.trans (((Grow.refl _).alloc _).alloc _) hg4 | exact Grow.trans ((((Grow.refl _).alloc _).alloc _).alloc _) hg4 | exact Grow.trans (((((Grow.refl _).alloc _).alloc _).alloc _).alloc _) hg4 | exact Grow.trans ((Grow.refl _).drewN _) hg4
    have GCH4 := Lib.hid (GCH3.out.trans hgr4)
    have hbx_4 := hgr4.blk HBX0_3.out
    clear el0 el1 el2 el3 zl
    obtain ⟨el0, el1, el2, el3⟩ := box4 hbx_4
    have zl := lt_of_block hbx_4
    have HBX0_4 := Lib.hid hbx_4
    clear hbx_4
    have hbx_4 := hgr4.blk HBX1_3.out
    clear em0 em1 em2 em3 zm
    obtain ⟨em0, em1, em2, em3⟩ := box4 hbx_4
    have zm := lt_of_block hbx_4
    have HBX1_4 := Lib.hid hbx_4
    clear hbx_4
    clear hg4 hgr4 GCH3 HBX0_3 HBX1_3
    rw [HE2.out, HB2.out]
    go_wp2_with fail
    refine ssame_any _ _ ?_
    intro wz5 hg5 
    have hgr5 : Grow wz4 wz5 := by first | exact hg5 | exact Grow.trans ((Grow.refl _).alloc _) hg5 | exact Grow.trans (((Grow.refl _).alloc _).alloc _) hg5 | exact Grow.trans ((((Grow.refl _).alloc _).alloc _).alloc _) hg5 | exact Grow.trans (((((Grow.refl _).alloc _).alloc _).alloc _).alloc _) hg5 | exact Grow.trans ((Grow.refl _).drewN _) hg5
    have GCH5 := Lib.hid (GCH4.out.trans hgr5)
    have hbx_5 := hgr5.blk HBX0_4.out
    clear el0 el1 el2 el3 zl
    obtain ⟨el0, el1, el2, el3⟩ := box4 hbx_5
    have zl := lt_of_block hbx_5
    have HBX0_5 := Lib.hid hbx_5
    clear hbx_5
    have hbx_5 := hgr5.blk HBX1_4.out
    clear em0 em1 em2 em3 zm
    obtain ⟨em0, em1, em2, em3⟩ := box4 hbx_5
    have zm := lt_of_block hbx_5
    have HBX1_5 := Lib.hid hbx_5
    clear hbx_5
    clear hg5 hgr5 GCH4 HBX0_4 HBX1_4
    go_wp2_with fail
    first | exact HR.out _ (GCH5.out) | exact HR.out _ (Grow.trans GCH5.out ((Grow.refl _).alloc _)) | exact HR.out _ (Grow.trans GCH5.out (((Grow.refl _).alloc _).alloc _)) | exact HR.out _ (Grow.trans GCH5.out ((((Grow.refl _).alloc _).alloc _).alloc _)) | exact HR.out _ (Grow.trans GCH5.out (((((Grow.refl _).alloc _).alloc _).alloc _).alloc _)) | exact HR.out _ (Grow.trans GCH5.out ((Grow.refl _).drewN _))
  · have t2 : (m0 == 0) = true := by simpa using h1
    clear h1
    have t1 : (l0 == 0) = false := by simpa using h0
    go_enter Try.func3, Try.ntmps3
    go_wp2_with fail
    obtain ⟨wb0, hwb0⟩ : ∃ W, w.alloc (.cells #[.int .i64 l0, .int .i64 l1, .int .i64 l2, .int .i64 l3] 23) = W := ⟨_, rfl⟩
    rw [hwb0]
    have hgb0 : Grow w wb0 := hwb0 ▸ (Grow.refl w).alloc _
    have hsz0 : wb0.heap.size = w.heap.size + 1 := by rw [← hwb0, World.size_alloc]
    have hbb0 : wb0.heap[w.heap.size]? = some (.cells #[.int .i64 l0, .int .i64 l1, .int .i64 l2, .int .i64 l3] 23 (0, 0)) := by have h := heap_alloc_new w (.cells #[.int .i64 l0, .int .i64 l1, .int .i64 l2, .int .i64 l3] 23); rw [hwb0] at h; exact h
    clear hwb0
    have hgr1 : Grow w wb0 := by first | exact hgb0 | exact Grow.trans ((Grow.refl _).alloc _) hgb0 | exact Grow.trans (((Grow.refl _).alloc _).alloc _) hgb0 | exact Grow.trans ((((Grow.refl _).alloc _).alloc _).alloc _) hgb0 | exact Grow.trans (((((Grow.refl _).alloc _).alloc _).alloc _).alloc _) hgb0 | exact Grow.trans ((Grow.refl _).drewN _) hgb0
    have GCH1 := Lib.hid hgr1
    clear hgb0 hgr1
    obtain ⟨el0, el1, el2, el3⟩ := box4 hbb0
    have zl := lt_of_block hbb0
    have HBB0 := Lib.hid hbb0
    clear hbb0
    obtain ⟨wb1, hwb1⟩ : ∃ W, wb0.alloc (.cells #[.int .i64 m0, .int .i64 m1, .int .i64 m2, .int .i64 m3] 23) = W := ⟨_, rfl⟩
    rw [hwb1]
    have hgb1 : Grow wb0 wb1 := hwb1 ▸ (Grow.refl wb0).alloc _
    have hsz1 : wb1.heap.size = w.heap.size + 2 := by rw [← hwb1, World.size_alloc]; rw [hsz0]
    have hbb1 : wb1.heap[w.heap.size + 1]? = some (.cells #[.int .i64 m0, .int .i64 m1, .int .i64 m2, .int .i64 m3] 23 (0, 0)) := by have h := heap_alloc_new wb0 (.cells #[.int .i64 m0, .int .i64 m1, .int .i64 m2, .int .i64 m3] 23); rw [hsz0] at h; rw [hwb1] at h; exact h
    clear hwb1
    have hgr2 : Grow wb0 wb1 := by first | exact hgb1 | exact Grow.trans ((Grow.refl _).alloc _) hgb1 | exact Grow.trans (((Grow.refl _).alloc _).alloc _) hgb1 | exact Grow.trans ((((Grow.refl _).alloc _).alloc _).alloc _) hgb1 | exact Grow.trans (((((Grow.refl _).alloc _).alloc _).alloc _).alloc _) hgb1 | exact Grow.trans ((Grow.refl _).drewN _) hgb1
    have GCH2 := Lib.hid (GCH1.out.trans hgr2)
    have hbx_2 := hgr2.blk HBB0.out
    clear el0 el1 el2 el3 zl
    obtain ⟨el0, el1, el2, el3⟩ := box4 hbx_2
    have zl := lt_of_block hbx_2
    have HBX0_2 := Lib.hid hbx_2
    clear hbx_2
    clear hgb1 hgr2 GCH1 HBB0
    obtain ⟨em0, em1, em2, em3⟩ := box4 hbb1
    have zm := lt_of_block hbb1
    have HBB1 := Lib.hid hbb1
    clear hbb1
    clear hsz0 hsz1
    refine near_any l0 l1 l2 l3 m0 m1 m2 m3 _ _ ?_
    intro wz3 hg3 
    have hgr3 : Grow wb1 wz3 := by first | exact hg3 | exact Grow.trans ((Grow.refl _).alloc _) hg3 | exact Grow.trans (((Grow.refl _).alloc _).alloc _) hg3 | exact Grow.trans ((((Grow.refl _).alloc _).alloc _).alloc _) hg3 | exact Grow.trans (((((Grow.refl _).alloc _).alloc _).alloc _).alloc _) hg3 | exact Grow.trans ((Grow.refl _).drewN _) hg3
    have GCH3 := Lib.hid (GCH2.out.trans hgr3)
    have hbx_3 := hgr3.blk HBX0_2.out
    clear el0 el1 el2 el3 zl
    obtain ⟨el0, el1, el2, el3⟩ := box4 hbx_3
    have zl := lt_of_block hbx_3
    have HBX0_3 := Lib.hid hbx_3
    clear hbx_3
    have hbx_3 := hgr3.blk HBB1.out
    clear em0 em1 em2 em3 zm
    obtain ⟨em0, em1, em2, em3⟩ := box4 hbx_3
    have zm := lt_of_block hbx_3
    have HBX1_3 := Lib.hid hbx_3
    clear hbx_3
    clear hg3 hgr3 GCH2 HBX0_2 HBB1
    rw [HE1.out, HB1.out]
    go_wp2_with fail
    refine near_any m0 m1 m2 m3 l0 l1 l2 l3 _ _ ?_
    intro wz4 hg4 
    have hgr4 : Grow wz3 wz4 := by first | exact hg4 | exact Grow.trans ((Grow.refl _).alloc _) hg4 | exact Grow.trans (((Grow.refl _).alloc _).alloc _) hg4 | exact Grow.trans ((((Grow.refl _).alloc _).alloc _).alloc _) hg4 | exact Grow.trans (((((Grow.refl _).alloc _).alloc _).alloc _).alloc _) hg4 | exact Grow.trans ((Grow.refl _).drewN _) hg4
    have GCH4 := Lib.hid (GCH3.out.trans hgr4)
    have hbx_4 := hgr4.blk HBX0_3.out
    clear el0 el1 el2 el3 zl
    obtain ⟨el0, el1, el2, el3⟩ := box4 hbx_4
    have zl := lt_of_block hbx_4
    have HBX0_4 := Lib.hid hbx_4
    clear hbx_4
    have hbx_4 := hgr4.blk HBX1_3.out
    clear em0 em1 em2 em3 zm
    obtain ⟨em0, em1, em2, em3⟩ := box4 hbx_4
    have zm := lt_of_block hbx_4
    have HBX1_4 := Lib.hid hbx_4
    clear hbx_4
    clear hg4 hgr4 GCH3 HBX0_3 HBX1_3
    rw [HE2.out, HB2.out]
    go_wp2_with fail
    refine ssame_any _ _ ?_
    intro wz5 hg5 
    have hgr5 : Grow wz4 wz5 := by first | exact hg5 | exact Grow.trans ((Grow.refl _).alloc _) hg5 | exact Grow.trans (((Grow.refl _).alloc _).alloc _) hg5 | exact Grow.trans ((((Grow.refl _).alloc _).alloc _).alloc _) hg5 | exact Grow.trans (((((Grow.refl _).alloc _).alloc _).alloc _).alloc _) hg5 | exact Grow.trans ((Grow.refl _).drewN _) hg5
    have GCH5 := Lib.hid (GCH4.out.trans hgr5)
    have hbx_5 := hgr5.blk HBX0_4.out
    clear el0 el1 el2 el3 zl
    obtain ⟨el0, el1, el2, el3⟩ := box4 hbx_5
    have zl := lt_of_block hbx_5
    have HBX0_5 := Lib.hid hbx_5
    clear hbx_5
    have hbx_5 := hgr5.blk HBX1_4.out
    clear em0 em1 em2 em3 zm
    obtain ⟨em0, em1, em2, em3⟩ := box4 hbx_5
    have zm := lt_of_block hbx_5
    have HBX1_5 := Lib.hid hbx_5
    clear hbx_5
    clear hg5 hgr5 GCH4 HBX0_4 HBX1_4
    go_wp2_with fail
    first | exact HR.out _ (GCH5.out) | exact HR.out _ (Grow.trans GCH5.out ((Grow.refl _).alloc _)) | exact HR.out _ (Grow.trans GCH5.out (((Grow.refl _).alloc _).alloc _)) | exact HR.out _ (Grow.trans GCH5.out ((((Grow.refl _).alloc _).alloc _).alloc _)) | exact HR.out _ (Grow.trans GCH5.out (((((Grow.refl _).alloc _).alloc _).alloc _).alloc _)) | exact HR.out _ (Grow.trans GCH5.out ((Grow.refl _).drewN _))
  · have t1 : (l0 == 0) = false := by simpa using h0
    have t2 : (m0 == 0) = false := by simpa using h1
    cases b2 with
    | false =>
      clear hne h0 h1
      by_cases heq : (⟨l0, l1, l2, l3⟩ : Ln) = ⟨m0, m1, m2, m3⟩
      · simp only [Ln.mk.injEq] at heq
        obtain ⟨rfl, rfl, rfl, rfl⟩ := heq
        go_enter Try.func3, Try.ntmps3
        go_wp2_with fail
        obtain ⟨wb0, hwb0⟩ : ∃ W, w.alloc (.cells #[.int .i64 l0, .int .i64 l1, .int .i64 l2, .int .i64 l3] 23) = W := ⟨_, rfl⟩
        rw [hwb0]
        have hgb0 : Grow w wb0 := hwb0 ▸ (Grow.refl w).alloc _
        have hsz0 : wb0.heap.size = w.heap.size + 1 := by rw [← hwb0, World.size_alloc]
        have hbb0 : wb0.heap[w.heap.size]? = some (.cells #[.int .i64 l0, .int .i64 l1, .int .i64 l2, .int .i64 l3] 23 (0, 0)) := by have h := heap_alloc_new w (.cells #[.int .i64 l0, .int .i64 l1, .int .i64 l2, .int .i64 l3] 23); rw [hwb0] at h; exact h
        clear hwb0
        have hgr1 : Grow w wb0 := by first | exact hgb0 | exact Grow.trans ((Grow.refl _).alloc _) hgb0 | exact Grow.trans (((Grow.refl _).alloc _).alloc _) hgb0 | exact Grow.trans ((((Grow.refl _).alloc _).alloc _).alloc _) hgb0 | exact Grow.trans (((((Grow.refl _).alloc _).alloc _).alloc _).alloc _) hgb0 | exact Grow.trans ((Grow.refl _).drewN _) hgb0
        have GCH1 := Lib.hid hgr1
        clear hgb0 hgr1
        obtain ⟨el0, el1, el2, el3⟩ := box4 hbb0
        have zl := lt_of_block hbb0
        have HBB0 := Lib.hid hbb0
        clear hbb0
        obtain ⟨wb1, hwb1⟩ : ∃ W, wb0.alloc (.cells #[.int .i64 l0, .int .i64 l1, .int .i64 l2, .int .i64 l3] 23) = W := ⟨_, rfl⟩
        rw [hwb1]
        have hgb1 : Grow wb0 wb1 := hwb1 ▸ (Grow.refl wb0).alloc _
        have hsz1 : wb1.heap.size = w.heap.size + 2 := by rw [← hwb1, World.size_alloc]; rw [hsz0]
        have hbb1 : wb1.heap[w.heap.size + 1]? = some (.cells #[.int .i64 l0, .int .i64 l1, .int .i64 l2, .int .i64 l3] 23 (0, 0)) := by have h := heap_alloc_new wb0 (.cells #[.int .i64 l0, .int .i64 l1, .int .i64 l2, .int .i64 l3] 23); rw [hsz0] at h; rw [hwb1] at h; exact h
        clear hwb1
        have hgr2 : Grow wb0 wb1 := by first | exact hgb1 | exact Grow.trans ((Grow.refl _).alloc _) hgb1 | exact Grow.trans (((Grow.refl _).alloc _).alloc _) hgb1 | exact Grow.trans ((((Grow.refl _).alloc _).alloc _).alloc _) hgb1 | exact Grow.trans (((((Grow.refl _).alloc _).alloc _).alloc _).alloc _) hgb1 | exact Grow.trans ((Grow.refl _).drewN _) hgb1
        have GCH2 := Lib.hid (GCH1.out.trans hgr2)
        have hbx_2 := hgr2.blk HBB0.out
        clear el0 el1 el2 el3 zl
        obtain ⟨el0, el1, el2, el3⟩ := box4 hbx_2
        have zl := lt_of_block hbx_2
        have HBX0_2 := Lib.hid hbx_2
        clear hbx_2
        clear hgb1 hgr2 GCH1 HBB0
        obtain ⟨em0, em1, em2, em3⟩ := box4 hbb1
        have zm := lt_of_block hbb1
        have HBB1 := Lib.hid hbb1
        clear hbb1
        clear hsz0 hsz1
        refine near_any l0 l1 l2 l3 l0 l1 l2 l3 _ _ ?_
        intro wz3 hg3 
        have hgr3 : Grow wb1 wz3 := by first | exact hg3 | exact Grow.trans ((Grow.refl _).alloc _) hg3 | exact Grow.trans (((Grow.refl _).alloc _).alloc _) hg3 | exact Grow.trans ((((Grow.refl _).alloc _).alloc _).alloc _) hg3 | exact Grow.trans (((((Grow.refl _).alloc _).alloc _).alloc _).alloc _) hg3 | exact Grow.trans ((Grow.refl _).drewN _) hg3
        have GCH3 := Lib.hid (GCH2.out.trans hgr3)
        have hbx_3 := hgr3.blk HBX0_2.out
        clear el0 el1 el2 el3 zl
        obtain ⟨el0, el1, el2, el3⟩ := box4 hbx_3
        have zl := lt_of_block hbx_3
        have HBX0_3 := Lib.hid hbx_3
        clear hbx_3
        have hbx_3 := hgr3.blk HBB1.out
        clear em0 em1 em2 em3 zm
        obtain ⟨em0, em1, em2, em3⟩ := box4 hbx_3
        have zm := lt_of_block hbx_3
        have HBX1_3 := Lib.hid hbx_3
        clear hbx_3
        clear hg3 hgr3 GCH2 HBX0_2 HBB1
        rw [HE1.out, HB1.out]
        go_wp2_with fail
        refine near_any l0 l1 l2 l3 l0 l1 l2 l3 _ _ ?_
        intro wz4 hg4 
        have hgr4 : Grow wz3 wz4 := by first | exact hg4 | exact Grow.trans ((Grow.refl _).alloc _) hg4 | exact Grow.trans (((Grow.refl _).alloc _).alloc _) hg4 | exact Grow.trans ((((Grow.refl _).alloc _).alloc _).alloc _) hg4 | exact Grow.trans (((((Grow.refl _).alloc _).alloc _).alloc _).alloc _) hg4 | exact Grow.trans ((Grow.refl _).drewN _) hg4
        have GCH4 := Lib.hid (GCH3.out.trans hgr4)
        have hbx_4 := hgr4.blk HBX0_3.out
        clear el0 el1 el2 el3 zl
        obtain ⟨el0, el1, el2, el3⟩ := box4 hbx_4
        have zl := lt_of_block hbx_4
        have HBX0_4 := Lib.hid hbx_4
        clear hbx_4
        have hbx_4 := hgr4.blk HBX1_3.out
        clear em0 em1 em2 em3 zm
        obtain ⟨em0, em1, em2, em3⟩ := box4 hbx_4
        have zm := lt_of_block hbx_4
        have HBX1_4 := Lib.hid hbx_4
        clear hbx_4
        clear hg4 hgr4 GCH3 HBX0_3 HBX1_3
        rw [HE2.out, HB2.out]
        go_wp2_with fail
        refine ssame_any _ _ ?_
        intro wz5 hg5 
        have hgr5 : Grow wz4 wz5 := by first | exact hg5 | exact Grow.trans ((Grow.refl _).alloc _) hg5 | exact Grow.trans (((Grow.refl _).alloc _).alloc _) hg5 | exact Grow.trans ((((Grow.refl _).alloc _).alloc _).alloc _) hg5 | exact Grow.trans (((((Grow.refl _).alloc _).alloc _).alloc _).alloc _) hg5 | exact Grow.trans ((Grow.refl _).drewN _) hg5
        have GCH5 := Lib.hid (GCH4.out.trans hgr5)
        have hbx_5 := hgr5.blk HBX0_4.out
        clear el0 el1 el2 el3 zl
        obtain ⟨el0, el1, el2, el3⟩ := box4 hbx_5
        have zl := lt_of_block hbx_5
        have HBX0_5 := Lib.hid hbx_5
        clear hbx_5
        have hbx_5 := hgr5.blk HBX1_4.out
        clear em0 em1 em2 em3 zm
        obtain ⟨em0, em1, em2, em3⟩ := box4 hbx_5
        have zm := lt_of_block hbx_5
        have HBX1_5 := Lib.hid hbx_5
        clear hbx_5
        clear hg5 hgr5 GCH4 HBX0_4 HBX1_4
        go_wp2_with fail
        first | exact HR.out _ (GCH5.out) | exact HR.out _ (Grow.trans GCH5.out ((Grow.refl _).alloc _)) | exact HR.out _ (Grow.trans GCH5.out (((Grow.refl _).alloc _).alloc _)) | exact HR.out _ (Grow.trans GCH5.out ((((Grow.refl _).alloc _).alloc _).alloc _)) | exact HR.out _ (Grow.trans GCH5.out (((((Grow.refl _).alloc _).alloc _).alloc _).alloc _)) | exact HR.out _ (Grow.trans GCH5.out ((Grow.refl _).drewN _))
      have HNE := Lib.hid heq
      clear heq
      by_cases gq0 : l0 = m0
      rotate_left
      · have tq1 : (l0 == m0) = false := by simpa using gq0
        have tq2 : (l0 != m0) = true := by simpa using gq0
        go_enter Try.func3, Try.ntmps3
        go_wp2_with fail
        obtain ⟨wb0, hwb0⟩ : ∃ W, w.alloc (.cells #[.int .i64 l0, .int .i64 l1, .int .i64 l2, .int .i64 l3] 23) = W := ⟨_, rfl⟩
        rw [hwb0]
        have hgb0 : Grow w wb0 := hwb0 ▸ (Grow.refl w).alloc _
        have hsz0 : wb0.heap.size = w.heap.size + 1 := by rw [← hwb0, World.size_alloc]
        have hbb0 : wb0.heap[w.heap.size]? = some (.cells #[.int .i64 l0, .int .i64 l1, .int .i64 l2, .int .i64 l3] 23 (0, 0)) := by have h := heap_alloc_new w (.cells #[.int .i64 l0, .int .i64 l1, .int .i64 l2, .int .i64 l3] 23); rw [hwb0] at h; exact h
        clear hwb0
        have hgr1 : Grow w wb0 := by first | exact hgb0 | exact Grow.trans ((Grow.refl _).alloc _) hgb0 | exact Grow.trans (((Grow.refl _).alloc _).alloc _) hgb0 | exact Grow.trans ((((Grow.refl _).alloc _).alloc _).alloc _) hgb0 | exact Grow.trans (((((Grow.refl _).alloc _).alloc _).alloc _).alloc _) hgb0 | exact Grow.trans ((Grow.refl _).drewN _) hgb0
        have GCH1 := Lib.hid hgr1
        clear hgb0 hgr1
        obtain ⟨el0, el1, el2, el3⟩ := box4 hbb0
        have zl := lt_of_block hbb0
        have HBB0 := Lib.hid hbb0
        clear hbb0
        obtain ⟨wb1, hwb1⟩ : ∃ W, wb0.alloc (.cells #[.int .i64 m0, .int .i64 m1, .int .i64 m2, .int .i64 m3] 23) = W := ⟨_, rfl⟩
        rw [hwb1]
        have hgb1 : Grow wb0 wb1 := hwb1 ▸ (Grow.refl wb0).alloc _
        have hsz1 : wb1.heap.size = w.heap.size + 2 := by rw [← hwb1, World.size_alloc]; rw [hsz0]
        have hbb1 : wb1.heap[w.heap.size + 1]? = some (.cells #[.int .i64 m0, .int .i64 m1, .int .i64 m2, .int .i64 m3] 23 (0, 0)) := by have h := heap_alloc_new wb0 (.cells #[.int .i64 m0, .int .i64 m1, .int .i64 m2, .int .i64 m3] 23); rw [hsz0] at h; rw [hwb1] at h; exact h
        clear hwb1
        have hgr2 : Grow wb0 wb1 := by first | exact hgb1 | exact Grow.trans ((Grow.refl _).alloc _) hgb1 | exact Grow.trans (((Grow.refl _).alloc _).alloc _) hgb1 | exact Grow.trans ((((Grow.refl _).alloc _).alloc _).alloc _) hgb1 | exact Grow.trans (((((Grow.refl _).alloc _).alloc _).alloc _).alloc _) hgb1 | exact Grow.trans ((Grow.refl _).drewN _) hgb1
        have GCH2 := Lib.hid (GCH1.out.trans hgr2)
        have hbx_2 := hgr2.blk HBB0.out
        clear el0 el1 el2 el3 zl
        obtain ⟨el0, el1, el2, el3⟩ := box4 hbx_2
        have zl := lt_of_block hbx_2
        have HBX0_2 := Lib.hid hbx_2
        clear hbx_2
        clear hgb1 hgr2 GCH1 HBB0
        obtain ⟨em0, em1, em2, em3⟩ := box4 hbb1
        have zm := lt_of_block hbb1
        have HBB1 := Lib.hid hbb1
        clear hbb1
        clear hsz0 hsz1
        refine near_any l0 l1 l2 l3 m0 m1 m2 m3 _ _ ?_
        intro wz3 hg3 
        have hgr3 : Grow wb1 wz3 := by first | exact hg3 | exact Grow.trans ((Grow.refl _).alloc _) hg3 | exact Grow.trans (((Grow.refl _).alloc _).alloc _) hg3 | exact Grow.trans ((((Grow.refl _).alloc _).alloc _).alloc _) hg3 | exact Grow.trans (((((Grow.refl _).alloc _).alloc _).alloc _).alloc _) hg3 | exact Grow.trans ((Grow.refl _).drewN _) hg3
        have GCH3 := Lib.hid (GCH2.out.trans hgr3)
        have hbx_3 := hgr3.blk HBX0_2.out
        clear el0 el1 el2 el3 zl
        obtain ⟨el0, el1, el2, el3⟩ := box4 hbx_3
        have zl := lt_of_block hbx_3
        have HBX0_3 := Lib.hid hbx_3
        clear hbx_3
        have hbx_3 := hgr3.blk HBB1.out
        clear em0 em1 em2 em3 zm
        obtain ⟨em0, em1, em2, em3⟩ := box4 hbx_3
        have zm := lt_of_block hbx_3
        have HBX1_3 := Lib.hid hbx_3
        clear hbx_3
        clear hg3 hgr3 GCH2 HBX0_2 HBB1
        rw [HE1.out, HB1.out]
        go_wp2_with fail
        refine near_any m0 m1 m2 m3 l0 l1 l2 l3 _ _ ?_
        intro wz4 hg4 
        have hgr4 : Grow wz3 wz4 := by first | exact hg4 | exact Grow.trans ((Grow.refl _).alloc _) hg4 | exact Grow.trans (((Grow.refl _).alloc _).alloc _) hg4 | exact Grow.trans ((((Grow.refl _).alloc _).alloc _).alloc _) hg4 | exact Grow.trans (((((Grow.refl _).alloc _).alloc _).alloc _).alloc _) hg4 | exact Grow.trans ((Grow.refl _).drewN _) hg4
        have GCH4 := Lib.hid (GCH3.out.trans hgr4)
        have hbx_4 := hgr4.blk HBX0_3.out
        clear el0 el1 el2 el3 zl
        obtain ⟨el0, el1, el2, el3⟩ := box4 hbx_4
        have zl := lt_of_block hbx_4
        have HBX0_4 := Lib.hid hbx_4
        clear hbx_4
        have hbx_4 := hgr4.blk HBX1_3.out
        clear em0 em1 em2 em3 zm
        obtain ⟨em0, em1, em2, em3⟩ := box4 hbx_4
        have zm := lt_of_block hbx_4
        have HBX1_4 := Lib.hid hbx_4
        clear hbx_4
        clear hg4 hgr4 GCH3 HBX0_3 HBX1_3
        rw [HE2.out, HB2.out]
        go_wp2_with fail
        refine ssame_any _ _ ?_
        intro wz5 hg5 
        have hgr5 : Grow wz4 wz5 := by first | exact hg5 | exact Grow.trans ((Grow.refl _).alloc _) hg5 | exact Grow.trans (((Grow.refl _).alloc _).alloc _) hg5 | exact Grow.trans ((((Grow.refl _).alloc _).alloc _).alloc _) hg5 | exact Grow.trans (((((Grow.refl _).alloc _).alloc _).alloc _).alloc _) hg5 | exact Grow.trans ((Grow.refl _).drewN _) hg5
        have GCH5 := Lib.hid (GCH4.out.trans hgr5)
        have hbx_5 := hgr5.blk HBX0_4.out
        clear el0 el1 el2 el3 zl
        obtain ⟨el0, el1, el2, el3⟩ := box4 hbx_5
        have zl := lt_of_block hbx_5
        have HBX0_5 := Lib.hid hbx_5
        clear hbx_5
        have hbx_5 := hgr5.blk HBX1_4.out
        clear em0 em1 em2 em3 zm
        obtain ⟨em0, em1, em2, em3⟩ := box4 hbx_5
        have zm := lt_of_block hbx_5
        have HBX1_5 := Lib.hid hbx_5
        clear hbx_5
        clear hg5 hgr5 GCH4 HBX0_4 HBX1_4
        go_wp2_with fail
        first | exact HR.out _ (GCH5.out) | exact HR.out _ (Grow.trans GCH5.out ((Grow.refl _).alloc _)) | exact HR.out _ (Grow.trans GCH5.out (((Grow.refl _).alloc _).alloc _)) | exact HR.out _ (Grow.trans GCH5.out ((((Grow.refl _).alloc _).alloc _).alloc _)) | exact HR.out _ (Grow.trans GCH5.out (((((Grow.refl _).alloc _).alloc _).alloc _).alloc _)) | exact HR.out _ (Grow.trans GCH5.out ((Grow.refl _).drewN _))
      subst gq0
      by_cases gq1 : l1 = m1
      rotate_left
      · have tq1 : (l1 == m1) = false := by simpa using gq1
        have tq2 : (l1 != m1) = true := by simpa using gq1
        go_enter Try.func3, Try.ntmps3
        go_wp2_with fail
        obtain ⟨wb0, hwb0⟩ : ∃ W, w.alloc (.cells #[.int .i64 l0, .int .i64 l1, .int .i64 l2, .int .i64 l3] 23) = W := ⟨_, rfl⟩
        rw [hwb0]
        have hgb0 : Grow w wb0 := hwb0 ▸ (Grow.refl w).alloc _
        have hsz0 : wb0.heap.size = w.heap.size + 1 := by rw [← hwb0, World.size_alloc]
        have hbb0 : wb0.heap[w.heap.size]? = some (.cells #[.int .i64 l0, .int .i64 l1, .int .i64 l2, .int .i64 l3] 23 (0, 0)) := by have h := heap_alloc_new w (.cells #[.int .i64 l0, .int .i64 l1, .int .i64 l2, .int .i64 l3] 23); rw [hwb0] at h; exact h
        clear hwb0
        have hgr1 : Grow w wb0 := by first | exact hgb0 | exact Grow.trans ((Grow.refl _).alloc _) hgb0 | exact Grow.trans (((Grow.refl _).alloc _).alloc _) hgb0 | exact Grow.trans ((((Grow.refl _).alloc _).alloc _).alloc _) hgb0 | exact Grow.trans (((((Grow.refl _).alloc _).alloc _).alloc _).alloc _) hgb0 | exact Grow.trans ((Grow.refl _).drewN _) hgb0
        have GCH1 := Lib.hid hgr1
        clear hgb0 hgr1
        obtain ⟨el0, el1, el2, el3⟩ := box4 hbb0
        have zl := lt_of_block hbb0
        have HBB0 := Lib.hid hbb0
        clear hbb0
        obtain ⟨wb1, hwb1⟩ : ∃ W, wb0.alloc (.cells #[.int .i64 l0, .int .i64 m1, .int .i64 m2, .int .i64 m3] 23) = W := ⟨_, rfl⟩
        rw [hwb1]
        have hgb1 : Grow wb0 wb1 := hwb1 ▸ (Grow.refl wb0).alloc _
        have hsz1 : wb1.heap.size = w.heap.size + 2 := by rw [← hwb1, World.size_alloc]; rw [hsz0]
        have hbb1 : wb1.heap[w.heap.size + 1]? = some (.cells #[.int .i64 l0, .int .i64 m1, .int .i64 m2, .int .i64 m3] 23 (0, 0)) := by have h := heap_alloc_new wb0 (.cells #[.int .i64 l0, .int .i64 m1, .int .i64 m2, .int .i64 m3] 23); rw [hsz0] at h; rw [hwb1] at h; exact h
        clear hwb1
        have hgr2 : Grow wb0 wb1 := by first | exact hgb1 | exact Grow.trans ((Grow.refl _).alloc _) hgb1 | exact Grow.trans (((Grow.refl _).alloc _).alloc _) hgb1 | exact Grow.trans ((((Grow.refl _).alloc _).alloc _).alloc _) hgb1 | exact Grow.trans (((((Grow.refl _).alloc _).alloc _).alloc _).alloc _) hgb1 | exact Grow.trans ((Grow.refl _).drewN _) hgb1
        have GCH2 := Lib.hid (GCH1.out.trans hgr2)
        have hbx_2 := hgr2.blk HBB0.out
        clear el0 el1 el2 el3 zl
        obtain ⟨el0, el1, el2, el3⟩ := box4 hbx_2
        have zl := lt_of_block hbx_2
        have HBX0_2 := Lib.hid hbx_2
        clear hbx_2
        clear hgb1 hgr2 GCH1 HBB0
        obtain ⟨em0, em1, em2, em3⟩ := box4 hbb1
        have zm := lt_of_block hbb1
        have HBB1 := Lib.hid hbb1
        clear hbb1
        clear hsz0 hsz1
        refine near_any l0 l1 l2 l3 l0 m1 m2 m3 _ _ ?_
        intro wz3 hg3 
        have hgr3 : Grow wb1 wz3 := by first | exact hg3 | exact Grow.trans ((Grow.refl _).alloc _) hg3 | exact Grow.trans (((Grow.refl _).alloc _).alloc _) hg3 | exact Grow.trans ((((Grow.refl _).alloc _).alloc _).alloc _) hg3 | exact Grow.trans (((((Grow.refl _).alloc _).alloc _).alloc _).alloc _) hg3 | exact Grow.trans ((Grow.refl _).drewN _) hg3
        have GCH3 := Lib.hid (GCH2.out.trans hgr3)
        have hbx_3 := hgr3.blk HBX0_2.out
        clear el0 el1 el2 el3 zl
        obtain ⟨el0, el1, el2, el3⟩ := box4 hbx_3
        have zl := lt_of_block hbx_3
        have HBX0_3 := Lib.hid hbx_3
        clear hbx_3
        have hbx_3 := hgr3.blk HBB1.out
        clear em0 em1 em2 em3 zm
        obtain ⟨em0, em1, em2, em3⟩ := box4 hbx_3
        have zm := lt_of_block hbx_3
        have HBX1_3 := Lib.hid hbx_3
        clear hbx_3
        clear hg3 hgr3 GCH2 HBX0_2 HBB1
        rw [HE1.out, HB1.out]
        go_wp2_with fail
        refine near_any l0 m1 m2 m3 l0 l1 l2 l3 _ _ ?_
        intro wz4 hg4 
        have hgr4 : Grow wz3 wz4 := by first | exact hg4 | exact Grow.trans ((Grow.refl _).alloc _) hg4 | exact Grow.trans (((Grow.refl _).alloc _).alloc _) hg4 | exact Grow.trans ((((Grow.refl _).alloc _).alloc _).alloc _) hg4 | exact Grow.trans (((((Grow.refl _).alloc _).alloc _).alloc _).alloc _) hg4 | exact Grow.trans ((Grow.refl _).drewN _) hg4
        have GCH4 := Lib.hid (GCH3.out.trans hgr4)
        have hbx_4 := hgr4.blk HBX0_3.out
        clear el0 el1 el2 el3 zl
        obtain ⟨el0, el1, el2, el3⟩ := box4 hbx_4
        have zl := lt_of_block hbx_4
        have HBX0_4 := Lib.hid hbx_4
        clear hbx_4
        have hbx_4 := hgr4.blk HBX1_3.out
        clear em0 em1 em2 em3 zm
        obtain ⟨em0, em1, em2, em3⟩ := box4 hbx_4
        have zm := lt_of_block hbx_4
        have HBX1_4 := Lib.hid hbx_4
        clear hbx_4
        clear hg4 hgr4 GCH3 HBX0_3 HBX1_3
        rw [HE2.out, HB2.out]
        go_wp2_with fail
        refine ssame_any _ _ ?_
        intro wz5 hg5 
        have hgr5 : Grow wz4 wz5 := by first | exact hg5 | exact Grow.trans ((Grow.refl _).alloc _) hg5 | exact Grow.trans (((Grow.refl _).alloc _).alloc _) hg5 | exact Grow.trans ((((Grow.refl _).alloc _).alloc _).alloc _) hg5 | exact Grow.trans (((((Grow.refl _).alloc _).alloc _).alloc _).alloc _) hg5 | exact Grow.trans ((Grow.refl _).drewN _) hg5
        have GCH5 := Lib.hid (GCH4.out.trans hgr5)
        have hbx_5 := hgr5.blk HBX0_4.out
        clear el0 el1 el2 el3 zl
        obtain ⟨el0, el1, el2, el3⟩ := box4 hbx_5
        have zl := lt_of_block hbx_5
        have HBX0_5 := Lib.hid hbx_5
        clear hbx_5
        have hbx_5 := hgr5.blk HBX1_4.out
        clear em0 em1 em2 em3 zm
        obtain ⟨em0, em1, em2, em3⟩ := box4 hbx_5
        have zm := lt_of_block hbx_5
        have HBX1_5 := Lib.hid hbx_5
        clear hbx_5
        clear hg5 hgr5 GCH4 HBX0_4 HBX1_4
        go_wp2_with fail
        first | exact HR.out _ (GCH5.out) | exact HR.out _ (Grow.trans GCH5.out ((Grow.refl _).alloc _)) | exact HR.out _ (Grow.trans GCH5.out (((Grow.refl _).alloc _).alloc _)) | exact HR.out _ (Grow.trans GCH5.out ((((Grow.refl _).alloc _).alloc _).alloc _)) | exact HR.out _ (Grow.trans GCH5.out (((((Grow.refl _).alloc _).alloc _).alloc _).alloc _)) | exact HR.out _ (Grow.trans GCH5.out ((Grow.refl _).drewN _))
      subst gq1
      by_cases gq2 : l2 = m2
      rotate_left
      · have tq1 : (l2 == m2) = false := by simpa using gq2
        have tq2 : (l2 != m2) = true := by simpa using gq2
        go_enter Try.func3, Try.ntmps3
        go_wp2_with fail
        obtain ⟨wb0, hwb0⟩ : ∃ W, w.alloc (.cells #[.int .i64 l0, .int .i64 l1, .int .i64 l2, .int .i64 l3] 23) = W := ⟨_, rfl⟩
        rw [hwb0]
        have hgb0 : Grow w wb0 := hwb0 ▸ (Grow.refl w).alloc _
        have hsz0 : wb0.heap.size = w.heap.size + 1 := by rw [← hwb0, World.size_alloc]
        have hbb0 : wb0.heap[w.heap.size]? = some (.cells #[.int .i64 l0, .int .i64 l1, .int .i64 l2, .int .i64 l3] 23 (0, 0)) := by have h := heap_alloc_new w (.cells #[.int .i64 l0, .int .i64 l1, .int .i64 l2, .int .i64 l3] 23); rw [hwb0] at h; exact h
        clear hwb0
        have hgr1 : Grow w wb0 := by first | exact hgb0 | exact Grow.trans ((Grow.refl _).alloc _) hgb0 | exact Grow.trans (((Grow.refl _).alloc _).alloc _) hgb0 | exact Grow.trans ((((Grow.refl _).alloc _).alloc _).alloc _) hgb0 | exact Grow.trans (((((Grow.refl _).alloc _).alloc _).alloc _).alloc _) hgb0 | exact Grow.trans ((Grow.refl _).drewN _) hgb0
        have GCH1 := Lib.hid hgr1
        clear hgb0 hgr1
        obtain ⟨el0, el1, el2, el3⟩ := box4 hbb0
        have zl := lt_of_block hbb0
        have HBB0 := Lib.hid hbb0
        clear hbb0
        obtain ⟨wb1, hwb1⟩ : ∃ W, wb0.alloc (.cells #[.int .i64 l0, .int .i64 l1, .int .i64 m2, .int .i64 m3] 23) = W := ⟨_, rfl⟩
        rw [hwb1]
        have hgb1 : Grow wb0 wb1 := hwb1 ▸ (Grow.refl wb0).alloc _
        have hsz1 : wb1.heap.size = w.heap.size + 2 := by rw [← hwb1, World.size_alloc]; rw [hsz0]
        have hbb1 : wb1.heap[w.heap.size + 1]? = some (.cells #[.int .i64 l0, .int .i64 l1, .int .i64 m2, .int .i64 m3] 23 (0, 0)) := by have h := heap_alloc_new wb0 (.cells #[.int .i64 l0, .int .i64 l1, .int .i64 m2, .int .i64 m3] 23); rw [hsz0] at h; rw [hwb1] at h; exact h
        clear hwb1
        have hgr2 : Grow wb0 wb1 := by first | exact hgb1 | exact Grow.trans ((Grow.refl _).alloc _) hgb1 | exact Grow.trans (((Grow.refl _).alloc _).alloc _) hgb1 | exact Grow.trans ((((Grow.refl _).alloc _).alloc _).alloc _) hgb1 | exact Grow.trans (((((Grow.refl _).alloc _).alloc _).alloc _).alloc _) hgb1 | exact Grow.trans ((Grow.refl _).drewN _) hgb1
        have GCH2 := Lib.hid (GCH1.out.trans hgr2)
        have hbx_2 := hgr2.blk HBB0.out
        clear el0 el1 el2 el3 zl
        obtain ⟨el0, el1, el2, el3⟩ := box4 hbx_2
        have zl := lt_of_block hbx_2
        have HBX0_2 := Lib.hid hbx_2
        clear hbx_2
        clear hgb1 hgr2 GCH1 HBB0
        obtain ⟨em0, em1, em2, em3⟩ := box4 hbb1
        have zm := lt_of_block hbb1
        have HBB1 := Lib.hid hbb1
        clear hbb1
        clear hsz0 hsz1
        refine near_any l0 l1 l2 l3 l0 l1 m2 m3 _ _ ?_
        intro wz3 hg3 
        have hgr3 : Grow wb1 wz3 := by first | exact hg3 | exact Grow.trans ((Grow.refl _).alloc _) hg3 | exact Grow.trans (((Grow.refl _).alloc _).alloc _) hg3 | exact Grow.trans ((((Grow.refl _).alloc _).alloc _).alloc _) hg3 | exact Grow.trans (((((Grow.refl _).alloc _).alloc _).alloc _).alloc _) hg3 | exact Grow.trans ((Grow.refl _).drewN _) hg3
        have GCH3 := Lib.hid (GCH2.out.trans hgr3)
        have hbx_3 := hgr3.blk HBX0_2.out
        clear el0 el1 el2 el3 zl
        obtain ⟨el0, el1, el2, el3⟩ := box4 hbx_3
        have zl := lt_of_block hbx_3
        have HBX0_3 := Lib.hid hbx_3
        clear hbx_3
        have hbx_3 := hgr3.blk HBB1.out
        clear em0 em1 em2 em3 zm
        obtain ⟨em0, em1, em2, em3⟩ := box4 hbx_3
        have zm := lt_of_block hbx_3
        have HBX1_3 := Lib.hid hbx_3
        clear hbx_3
        clear hg3 hgr3 GCH2 HBX0_2 HBB1
        rw [HE1.out, HB1.out]
        go_wp2_with fail
        refine near_any l0 l1 m2 m3 l0 l1 l2 l3 _ _ ?_
        intro wz4 hg4 
        have hgr4 : Grow wz3 wz4 := by first | exact hg4 | exact Grow.trans ((Grow.refl _).alloc _) hg4 | exact Grow.trans (((Grow.refl _).alloc _).alloc _) hg4 | exact Grow.trans ((((Grow.refl _).alloc _).alloc _).alloc _) hg4 | exact Grow.trans (((((Grow.refl _).alloc _).alloc _).alloc _).alloc _) hg4 | exact Grow.trans ((Grow.refl _).drewN _) hg4
        have GCH4 := Lib.hid (GCH3.out.trans hgr4)
        have hbx_4 := hgr4.blk HBX0_3.out
        clear el0 el1 el2 el3 zl
        obtain ⟨el0, el1, el2, el3⟩ := box4 hbx_4
        have zl := lt_of_block hbx_4
        have HBX0_4 := Lib.hid hbx_4
        clear hbx_4
        have hbx_4 := hgr4.blk HBX1_3.out
        clear em0 em1 em2 em3 zm
        obtain ⟨em0, em1, em2, em3⟩ := box4 hbx_4
        have zm := lt_of_block hbx_4
        have HBX1_4 := Lib.hid hbx_4
        clear hbx_4
        clear hg4 hgr4 GCH3 HBX0_3 HBX1_3
        rw [HE2.out, HB2.out]
        go_wp2_with fail
        refine ssame_any _ _ ?_
        intro wz5 hg5 
        have hgr5 : Grow wz4 wz5 := by first | exact hg5 | exact Grow.trans ((Grow.refl _).alloc _) hg5 | exact Grow.trans (((Grow.refl _).alloc _).alloc _) hg5 | exact Grow.trans ((((Grow.refl _).alloc _).alloc _).alloc _) hg5 | exact Grow.trans (((((Grow.refl _).alloc _).alloc _).alloc _).alloc _) hg5 | exact Grow.trans ((Grow.refl _).drewN _) hg5
        have GCH5 := Lib.hid (GCH4.out.trans hgr5)
        have hbx_5 := hgr5.blk HBX0_4.out
        clear el0 el1 el2 el3 zl
        obtain ⟨el0, el1, el2, el3⟩ := box4 hbx_5
        have zl := lt_of_block hbx_5
        have HBX0_5 := Lib.hid hbx_5
        clear hbx_5
        have hbx_5 := hgr5.blk HBX1_4.out
        clear em0 em1 em2 em3 zm
        obtain ⟨em0, em1, em2, em3⟩ := box4 hbx_5
        have zm := lt_of_block hbx_5
        have HBX1_5 := Lib.hid hbx_5
        clear hbx_5
        clear hg5 hgr5 GCH4 HBX0_4 HBX1_4
        go_wp2_with fail
        first | exact HR.out _ (GCH5.out) | exact HR.out _ (Grow.trans GCH5.out ((Grow.refl _).alloc _)) | exact HR.out _ (Grow.trans GCH5.out (((Grow.refl _).alloc _).alloc _)) | exact HR.out _ (Grow.trans GCH5.out ((((Grow.refl _).alloc _).alloc _).alloc _)) | exact HR.out _ (Grow.trans GCH5.out (((((Grow.refl _).alloc _).alloc _).alloc _).alloc _)) | exact HR.out _ (Grow.trans GCH5.out ((Grow.refl _).drewN _))
      subst gq2
      by_cases gq3 : l3 = m3
      rotate_left
      · have tq1 : (l3 == m3) = false := by simpa using gq3
        have tq2 : (l3 != m3) = true := by simpa using gq3
        go_enter Try.func3, Try.ntmps3
        go_wp2_with fail
        obtain ⟨wb0, hwb0⟩ : ∃ W, w.alloc (.cells #[.int .i64 l0, .int .i64 l1, .int .i64 l2, .int .i64 l3] 23) = W := ⟨_, rfl⟩
        rw [hwb0]
        have hgb0 : Grow w wb0 := hwb0 ▸ (Grow.refl w).alloc _
        have hsz0 : wb0.heap.size = w.heap.size + 1 := by rw [← hwb0, World.size_alloc]
        have hbb0 : wb0.heap[w.heap.size]? = some (.cells #[.int .i64 l0, .int .i64 l1, .int .i64 l2, .int .i64 l3] 23 (0, 0)) := by have h := heap_alloc_new w (.cells #[.int .i64 l0, .int .i64 l1, .int .i64 l2, .int .i64 l3] 23); rw [hwb0] at h; exact h
        clear hwb0
        have hgr1 : Grow w wb0 := by first | exact hgb0 | exact Grow.trans ((Grow.refl _).alloc _) hgb0 | exact Grow.trans (((Grow.refl _).alloc _).alloc _) hgb0 | exact Grow.trans ((((Grow.refl _).alloc _).alloc _).alloc _) hgb0 | exact Grow.trans (((((Grow.refl _).alloc _).alloc _).alloc _).alloc _) hgb0 | exact Grow.trans ((Grow.refl _).drewN _) hgb0
        have GCH1 := Lib.hid hgr1
        clear hgb0 hgr1
        obtain ⟨el0, el1, el2, el3⟩ := box4 hbb0
        have zl := lt_of_block hbb0
        have HBB0 := Lib.hid hbb0
        clear hbb0
        obtain ⟨wb1, hwb1⟩ : ∃ W, wb0.alloc (.cells #[.int .i64 l0, .int .i64 l1, .int .i64 l2, .int .i64 m3] 23) = W := ⟨_, rfl⟩
        rw [hwb1]
        have hgb1 : Grow wb0 wb1 := hwb1 ▸ (Grow.refl wb0).alloc _
        have hsz1 : wb1.heap.size = w.heap.size + 2 := by rw [← hwb1, World.size_alloc]; rw [hsz0]
        have hbb1 : wb1.heap[w.heap.size + 1]? = some (.cells #[.int .i64 l0, .int .i64 l1, .int .i64 l2, .int .i64 m3] 23 (0, 0)) := by have h := heap_alloc_new wb0 (.cells #[.int .i64 l0, .int .i64 l1, .int .i64 l2, .int .i64 m3] 23); rw [hsz0] at h; rw [hwb1] at h; exact h
        clear hwb1
        have hgr2 : Grow wb0 wb1 := by first | exact hgb1 | exact Grow.trans ((Grow.refl _).alloc _) hgb1 | exact Grow.trans (((Grow.refl _).alloc _).alloc _) hgb1 | exact Grow.trans ((((Grow.refl _).alloc _).alloc _).alloc _) hgb1 | exact Grow.trans (((((Grow.refl _).alloc _).alloc _).alloc _).alloc _) hgb1 | exact Grow.trans ((Grow.refl _).drewN _) hgb1
        have GCH2 := Lib.hid (GCH1.out.trans hgr2)
        have hbx_2 := hgr2.blk HBB0.out
        clear el0 el1 el2 el3 zl
        obtain ⟨el0, el1, el2, el3⟩ := box4 hbx_2
        have zl := lt_of_block hbx_2
        have HBX0_2 := Lib.hid hbx_2
        clear hbx_2
        clear hgb1 hgr2 GCH1 HBB0
        obtain ⟨em0, em1, em2, em3⟩ := box4 hbb1
        have zm := lt_of_block hbb1
        have HBB1 := Lib.hid hbb1
        clear hbb1
        clear hsz0 hsz1
        refine near_any l0 l1 l2 l3 l0 l1 l2 m3 _ _ ?_
        intro wz3 hg3 
        have hgr3 : Grow wb1 wz3 := by first | exact hg3 | exact Grow.trans ((Grow.refl _).alloc _) hg3 | exact Grow.trans (((Grow.refl _).alloc _).alloc _) hg3 | exact Grow.trans ((((Grow.refl _).alloc _).alloc _).alloc _) hg3 | exact Grow.trans (((((Grow.refl _).alloc _).alloc _).alloc _).alloc _) hg3 | exact Grow.trans ((Grow.refl _).drewN _) hg3
        have GCH3 := Lib.hid (GCH2.out.trans hgr3)
        have hbx_3 := hgr3.blk HBX0_2.out
        clear el0 el1 el2 el3 zl
        obtain ⟨el0, el1, el2, el3⟩ := box4 hbx_3
        have zl := lt_of_block hbx_3
        have HBX0_3 := Lib.hid hbx_3
        clear hbx_3
        have hbx_3 := hgr3.blk HBB1.out
        clear em0 em1 em2 em3 zm
        obtain ⟨em0, em1, em2, em3⟩ := box4 hbx_3
        have zm := lt_of_block hbx_3
        have HBX1_3 := Lib.hid hbx_3
        clear hbx_3
        clear hg3 hgr3 GCH2 HBX0_2 HBB1
        rw [HE1.out, HB1.out]
        go_wp2_with fail
        refine near_any l0 l1 l2 m3 l0 l1 l2 l3 _ _ ?_
        intro wz4 hg4 
        have hgr4 : Grow wz3 wz4 := by first | exact hg4 | exact Grow.trans ((Grow.refl _).alloc _) hg4 | exact Grow.trans (((Grow.refl _).alloc _).alloc _) hg4 | exact Grow.trans ((((Grow.refl _).alloc _).alloc _).alloc _) hg4 | exact Grow.trans (((((Grow.refl _).alloc _).alloc _).alloc _).alloc _) hg4 | exact Grow.trans ((Grow.refl _).drewN _) hg4
        have GCH4 := Lib.hid (GCH3.out.trans hgr4)
        have hbx_4 := hgr4.blk HBX0_3.out
        clear el0 el1 el2 el3 zl
        obtain ⟨el0, el1, el2, el3⟩ := box4 hbx_4
        have zl := lt_of_block hbx_4
        have HBX0_4 := Lib.hid hbx_4
        clear hbx_4
        have hbx_4 := hgr4.blk HBX1_3.out
        clear em0 em1 em2 em3 zm
        obtain ⟨em0, em1, em2, em3⟩ := box4 hbx_4
        have zm := lt_of_block hbx_4
        have HBX1_4 := Lib.hid hbx_4
        clear hbx_4
        clear hg4 hgr4 GCH3 HBX0_3 HBX1_3
        rw [HE2.out, HB2.out]
        go_wp2_with fail
        refine ssame_any _ _ ?_
        intro wz5 hg5 
        have hgr5 : Grow wz4 wz5 := by first | exact hg5 | exact Grow.trans ((Grow.refl _).alloc _) hg5 | exact Grow.trans (((Grow.refl _).alloc _).alloc _) hg5 | exact Grow.trans ((((Grow.refl _).alloc _).alloc _).alloc _) hg5 | exact Grow.trans (((((Grow.refl _).alloc _).alloc _).alloc _).alloc _) hg5 | exact Grow.trans ((Grow.refl _).drewN _) hg5
        have GCH5 := Lib.hid (GCH4.out.trans hgr5)
        have hbx_5 := hgr5.blk HBX0_4.out
        clear el0 el1 el2 el3 zl
        obtain ⟨el0, el1, el2, el3⟩ := box4 hbx_5
        have zl := lt_of_block hbx_5
        have HBX0_5 := Lib.hid hbx_5
        clear hbx_5
        have hbx_5 := hgr5.blk HBX1_4.out
        clear em0 em1 em2 em3 zm
        obtain ⟨em0, em1, em2, em3⟩ := box4 hbx_5
        have zm := lt_of_block hbx_5
        have HBX1_5 := Lib.hid hbx_5
        clear hbx_5
        clear hg5 hgr5 GCH4 HBX0_4 HBX1_4
        go_wp2_with fail
        first | exact HR.out _ (GCH5.out) | exact HR.out _ (Grow.trans GCH5.out ((Grow.refl _).alloc _)) | exact HR.out _ (Grow.trans GCH5.out (((Grow.refl _).alloc _).alloc _)) | exact HR.out _ (Grow.trans GCH5.out ((((Grow.refl _).alloc _).alloc _).alloc _)) | exact HR.out _ (Grow.trans GCH5.out (((((Grow.refl _).alloc _).alloc _).alloc _).alloc _)) | exact HR.out _ (Grow.trans GCH5.out ((Grow.refl _).drewN _))
      subst gq3
      exact absurd rfl HNE.out
    | true =>
      have HNE := Lib.hid (hne rfl)
      clear hne h0 h1
      by_cases gq0 : l0 = m0
      rotate_left
      · have tq1 : (l0 == m0) = false := by simpa using gq0
        have tq2 : (l0 != m0) = true := by simpa using gq0
        go_enter Try.func3, Try.ntmps3
        go_wp2_with fail
        obtain ⟨wb0, hwb0⟩ : ∃ W, w.alloc (.cells #[.int .i64 l0, .int .i64 l1, .int .i64 l2, .int .i64 l3] 23) = W := ⟨_, rfl⟩
        rw [hwb0]
        have hgb0 : Grow w wb0 := hwb0 ▸ (Grow.refl w).alloc _
        have hsz0 : wb0.heap.size = w.heap.size + 1 := by rw [← hwb0, World.size_alloc]
        have hbb0 : wb0.heap[w.heap.size]? = some (.cells #[.int .i64 l0, .int .i64 l1, .int .i64 l2, .int .i64 l3] 23 (0, 0)) := by have h := heap_alloc_new w (.cells #[.int .i64 l0, .int .i64 l1, .int .i64 l2, .int .i64 l3] 23); rw [hwb0] at h; exact h
        clear hwb0
        have hgr1 : Grow w wb0 := by first | exact hgb0 | exact Grow.trans ((Grow.refl _).alloc _) hgb0 | exact Grow.trans (((Grow.refl _).alloc _).alloc _) hgb0 | exact Grow.trans ((((Grow.refl _).alloc _).alloc _).alloc _) hgb0 | exact Grow.trans (((((Grow.refl _).alloc _).alloc _).alloc _).alloc _) hgb0 | exact Grow.trans ((Grow.refl _).drewN _) hgb0
        have GCH1 := Lib.hid hgr1
        clear hgb0 hgr1
        obtain ⟨el0, el1, el2, el3⟩ := box4 hbb0
        have zl := lt_of_block hbb0
        have HBB0 := Lib.hid hbb0
        clear hbb0
        obtain ⟨wb1, hwb1⟩ : ∃ W, wb0.alloc (.cells #[.int .i64 m0, .int .i64 m1, .int .i64 m2, .int .i64 m3] 23) = W := ⟨_, rfl⟩
        rw [hwb1]
        have hgb1 : Grow wb0 wb1 := hwb1 ▸ (Grow.refl wb0).alloc _
        have hsz1 : wb1.heap.size = w.heap.size + 2 := by rw [← hwb1, World.size_alloc]; rw [hsz0]
        have hbb1 : wb1.heap[w.heap.size + 1]? = some (.cells #[.int .i64 m0, .int .i64 m1, .int .i64 m2, .int .i64 m3] 23 (0, 0)) := by have h := heap_alloc_new wb0 (.cells #[.int .i64 m0, .int .i64 m1, .int .i64 m2, .int .i64 m3] 23); rw [hsz0] at h; rw [hwb1] at h; exact h
        clear hwb1
        have hgr2 : Grow wb0 wb1 := by first | exact hgb1 | exact Grow.trans ((Grow.refl _).alloc _) hgb1 | exact Grow.trans (((Grow.refl _).alloc _).alloc _) hgb1 | exact Grow.trans ((((Grow.refl _).alloc _).alloc _).alloc _) hgb1 | exact Grow.trans (((((Grow.refl _).alloc _).alloc _).alloc _).alloc _) hgb1 | exact Grow.trans ((Grow.refl _).drewN _) hgb1
        have GCH2 := Lib.hid (GCH1.out.trans hgr2)
        have hbx_2 := hgr2.blk HBB0.out
        clear el0 el1 el2 el3 zl
        obtain ⟨el0, el1, el2, el3⟩ := box4 hbx_2
        have zl := lt_of_block hbx_2
        have HBX0_2 := Lib.hid hbx_2
        clear hbx_2
        clear hgb1 hgr2 GCH1 HBB0
        obtain ⟨em0, em1, em2, em3⟩ := box4 hbb1
        have zm := lt_of_block hbb1
        have HBB1 := Lib.hid hbb1
        clear hbb1
        clear hsz0 hsz1
        refine near_any l0 l1 l2 l3 m0 m1 m2 m3 _ _ ?_
        intro wz3 hg3 
        have hgr3 : Grow wb1 wz3 := by first | exact hg3 | exact Grow.trans ((Grow.refl _).alloc _) hg3 | exact Grow.trans (((Grow.refl _).alloc _).alloc _) hg3 | exact Grow.trans ((((Grow.refl _).alloc _).alloc _).alloc _) hg3 | exact Grow.trans (((((Grow.refl _).alloc _).alloc _).alloc _).alloc _) hg3 | exact Grow.trans ((Grow.refl _).drewN _) hg3
        have GCH3 := Lib.hid (GCH2.out.trans hgr3)
        have hbx_3 := hgr3.blk HBX0_2.out
        clear el0 el1 el2 el3 zl
        obtain ⟨el0, el1, el2, el3⟩ := box4 hbx_3
        have zl := lt_of_block hbx_3
        have HBX0_3 := Lib.hid hbx_3
        clear hbx_3
        have hbx_3 := hgr3.blk HBB1.out
        clear em0 em1 em2 em3 zm
        obtain ⟨em0, em1, em2, em3⟩ := box4 hbx_3
        have zm := lt_of_block hbx_3
        have HBX1_3 := Lib.hid hbx_3
        clear hbx_3
        clear hg3 hgr3 GCH2 HBX0_2 HBB1
        rw [HE1.out, HB1.out]
        go_wp2_with fail
        refine near_any m0 m1 m2 m3 l0 l1 l2 l3 _ _ ?_
        intro wz4 hg4 
        have hgr4 : Grow wz3 wz4 := by first | exact hg4 | exact Grow.trans ((Grow.refl _).alloc _) hg4 | exact Grow.trans (((Grow.refl _).alloc _).alloc _) hg4 | exact Grow.trans ((((Grow.refl _).alloc _).alloc _).alloc _) hg4 | exact Grow.trans (((((Grow.refl _).alloc _).alloc _).alloc _).alloc _) hg4 | exact Grow.trans ((Grow.refl _).drewN _) hg4
        have GCH4 := Lib.hid (GCH3.out.trans hgr4)
        have hbx_4 := hgr4.blk HBX0_3.out
        clear el0 el1 el2 el3 zl
        obtain ⟨el0, el1, el2, el3⟩ := box4 hbx_4
        have zl := lt_of_block hbx_4
        have HBX0_4 := Lib.hid hbx_4
        clear hbx_4
        have hbx_4 := hgr4.blk HBX1_3.out
        clear em0 em1 em2 em3 zm
        obtain ⟨em0, em1, em2, em3⟩ := box4 hbx_4
        have zm := lt_of_block hbx_4
        have HBX1_4 := Lib.hid hbx_4
        clear hbx_4
        clear hg4 hgr4 GCH3 HBX0_3 HBX1_3
        rw [HE2.out, HB2.out]
        go_wp2_with fail
        refine ssame_any _ _ ?_
        intro wz5 hg5 
        have hgr5 : Grow wz4 wz5 := by first | exact hg5 | exact Grow.trans ((Grow.refl _).alloc _) hg5 | exact Grow.trans (((Grow.refl _).alloc _).alloc _) hg5 | exact Grow.trans ((((Grow.refl _).alloc _).alloc _).alloc _) hg5 | exact Grow.trans (((((Grow.refl _).alloc _).alloc _).alloc _).alloc _) hg5 | exact Grow.trans ((Grow.refl _).drewN _) hg5
        have GCH5 := Lib.hid (GCH4.out.trans hgr5)
        have hbx_5 := hgr5.blk HBX0_4.out
        clear el0 el1 el2 el3 zl
        obtain ⟨el0, el1, el2, el3⟩ := box4 hbx_5
        have zl := lt_of_block hbx_5
        have HBX0_5 := Lib.hid hbx_5
        clear hbx_5
        have hbx_5 := hgr5.blk HBX1_4.out
        clear em0 em1 em2 em3 zm
        obtain ⟨em0, em1, em2, em3⟩ := box4 hbx_5
        have zm := lt_of_block hbx_5
        have HBX1_5 := Lib.hid hbx_5
        clear hbx_5
        clear hg5 hgr5 GCH4 HBX0_4 HBX1_4
        go_wp2_with fail
        first | exact HR.out _ (GCH5.out) | exact HR.out _ (Grow.trans GCH5.out ((Grow.refl _).alloc _)) | exact HR.out _ (Grow.trans GCH5.out (((Grow.refl _).alloc _).alloc _)) | exact HR.out _ (Grow.trans GCH5.out ((((Grow.refl _).alloc _).alloc _).alloc _)) | exact HR.out _ (Grow.trans GCH5.out (((((Grow.refl _).alloc _).alloc _).alloc _).alloc _)) | exact HR.out _ (Grow.trans GCH5.out ((Grow.refl _).drewN _))
      subst gq0
      by_cases gq1 : l1 = m1
      rotate_left
      · have tq1 : (l1 == m1) = false := by simpa using gq1
        have tq2 : (l1 != m1) = true := by simpa using gq1
        go_enter Try.func3, Try.ntmps3
        go_wp2_with fail
        obtain ⟨wb0, hwb0⟩ : ∃ W, w.alloc (.cells #[.int .i64 l0, .int .i64 l1, .int .i64 l2, .int .i64 l3] 23) = W := ⟨_, rfl⟩
        rw [hwb0]
        have hgb0 : Grow w wb0 := hwb0 ▸ (Grow.refl w).alloc _
        have hsz0 : wb0.heap.size = w.heap.size + 1 := by rw [← hwb0, World.size_alloc]
        have hbb0 : wb0.heap[w.heap.size]? = some (.cells #[.int .i64 l0, .int .i64 l1, .int .i64 l2, .int .i64 l3] 23 (0, 0)) := by have h := heap_alloc_new w (.cells #[.int .i64 l0, .int .i64 l1, .int .i64 l2, .int .i64 l3] 23); rw [hwb0] at h; exact h
        clear hwb0
        have hgr1 : Grow w wb0 := by first | exact hgb0 | exact Grow.trans ((Grow.refl _).alloc _) hgb0 | exact Grow.trans (((Grow.refl _).alloc _).alloc _) hgb0 | exact Grow.trans ((((Grow.refl _).alloc _).alloc _).alloc _) hgb0 | exact Grow.trans (((((Grow.refl _).alloc _).alloc _).alloc _).alloc _) hgb0 | exact Grow.trans ((Grow.refl _).drewN _) hgb0
        have GCH1 := Lib.hid hgr1
        clear hgb0 hgr1
        obtain ⟨el0, el1, el2, el3⟩ := box4 hbb0
        have zl := lt_of_block hbb0
        have HBB0 := Lib.hid hbb0
        clear hbb0
        obtain ⟨wb1, hwb1⟩ : ∃ W, wb0.alloc (.cells #[.int .i64 l0, .int .i64 m1, .int .i64 m2, .int .i64 m3] 23) = W := ⟨_, rfl⟩
        rw [hwb1]
        have hgb1 : Grow wb0 wb1 := hwb1 ▸ (Grow.refl wb0).alloc _
        have hsz1 : wb1.heap.size = w.heap.size + 2 := by rw [← hwb1, World.size_alloc]; rw [hsz0]
        have hbb1 : wb1.heap[w.heap.size + 1]? = some (.cells #[.int .i64 l0, .int .i64 m1, .int .i64 m2, .int .i64 m3] 23 (0, 0)) := by have h := heap_alloc_new wb0 (.cells #[.int .i64 l0, .int .i64 m1, .int .i64 m2, .int .i64 m3] 23); rw [hsz0] at h; rw [hwb1] at h; exact h
        clear hwb1
        have hgr2 : Grow wb0 wb1 := by first | exact hgb1 | exact Grow.trans ((Grow.refl _).alloc _) hgb1 | exact Grow.trans (((Grow.refl _).alloc _).alloc _) hgb1 | exact Grow.trans ((((Grow.refl _).alloc _).alloc _).alloc _) hgb1 | exact Grow.trans (((((Grow.refl _).alloc _).alloc _).alloc _).alloc _) hgb1 | exact Grow.trans ((Grow.refl _).drewN _) hgb1
        have GCH2 := Lib.hid (GCH1.out.trans hgr2)
        have hbx_2 := hgr2.blk HBB0.out
        clear el0 el1 el2 el3 zl
        obtain ⟨el0, el1, el2, el3⟩ := box4 hbx_2
        have zl := lt_of_block hbx_2
        have HBX0_2 := Lib.hid hbx_2
        clear hbx_2
        clear hgb1 hgr2 GCH1 HBB0
        obtain ⟨em0, em1, em2, em3⟩ := box4 hbb1
        have zm := lt_of_block hbb1
        have HBB1 := Lib.hid hbb1
        clear hbb1
        clear hsz0 hsz1
        refine near_any l0 l1 l2 l3 l0 m1 m2 m3 _ _ ?_
        intro wz3 hg3 
        have hgr3 : Grow wb1 wz3 := by first | exact hg3 | exact Grow.trans ((Grow.refl _).alloc _) hg3 | exact Grow.trans (((Grow.refl _).alloc _).alloc _) hg3 | exact Grow.trans ((((Grow.refl _).alloc _).alloc _).alloc _) hg3 | exact Grow.trans (((((Grow.refl _).alloc _).alloc _).alloc _).alloc _) hg3 | exact Grow.trans ((Grow.refl _).drewN _) hg3
        have GCH3 := Lib.hid (GCH2.out.trans hgr3)
        have hbx_3 := hgr3.blk HBX0_2.out
        clear el0 el1 el2 el3 zl
        obtain ⟨el0, el1, el2, el3⟩ := box4 hbx_3
        have zl := lt_of_block hbx_3
        have HBX0_3 := Lib.hid hbx_3
        clear hbx_3
        have hbx_3 := hgr3.blk HBB1.out
        clear em0 em1 em2 em3 zm
        obtain ⟨em0, em1, em2, em3⟩ := box4 hbx_3
        have zm := lt_of_block hbx_3
        have HBX1_3 := Lib.hid hbx_3
        clear hbx_3
        clear hg3 hgr3 GCH2 HBX0_2 HBB1
        rw [HE1.out, HB1.out]
        go_wp2_with fail
        refine near_any l0 m1 m2 m3 l0 l1 l2 l3 _ _ ?_
        intro wz4 hg4 
        have hgr4 : Grow wz3 wz4 := by first | exact hg4 | exact Grow.trans ((Grow.refl _).alloc _) hg4 | exact Grow.trans (((Grow.refl _).alloc _).alloc _) hg4 | exact Grow.trans ((((Grow.refl _).alloc _).alloc _).alloc _) hg4 | exact Grow.trans (((((Grow.refl _).alloc _).alloc _).alloc _).alloc _) hg4 | exact Grow.trans ((Grow.refl _).drewN _) hg4
        have GCH4 := Lib.hid (GCH3.out.trans hgr4)
        have hbx_4 := hgr4.blk HBX0_3.out
        clear el0 el1 el2 el3 zl
        obtain ⟨el0, el1, el2, el3⟩ := box4 hbx_4
        have zl := lt_of_block hbx_4
        have HBX0_4 := Lib.hid hbx_4
        clear hbx_4
        have hbx_4 := hgr4.blk HBX1_3.out
        clear em0 em1 em2 em3 zm
        obtain ⟨em0, em1, em2, em3⟩ := box4 hbx_4
        have zm := lt_of_block hbx_4
        have HBX1_4 := Lib.hid hbx_4
        clear hbx_4
        clear hg4 hgr4 GCH3 HBX0_3 HBX1_3
        rw [HE2.out, HB2.out]
        go_wp2_with fail
        refine ssame_any _ _ ?_
        intro wz5 hg5 
        have hgr5 : Grow wz4 wz5 := by first | exact hg5 | exact Grow.trans ((Grow.refl _).alloc _) hg5 | exact Grow.trans (((Grow.refl _).alloc _).alloc _) hg5 | exact Grow.trans ((((Grow.refl _).alloc _).alloc _).alloc _) hg5 | exact Grow.trans (((((Grow.refl _).alloc _).alloc _).alloc _).alloc _) hg5 | exact Grow.trans ((Grow.refl _).drewN _) hg5
        have GCH5 := Lib.hid (GCH4.out.trans hgr5)
        have hbx_5 := hgr5.blk HBX0_4.out
        clear el0 el1 el2 el3 zl
        obtain ⟨el0, el1, el2, el3⟩ := box4 hbx_5
        have zl := lt_of_block hbx_5
        have HBX0_5 := Lib.hid hbx_5
        clear hbx_5
        have hbx_5 := hgr5.blk HBX1_4.out
        clear em0 em1 em2 em3 zm
        obtain ⟨em0, em1, em2, em3⟩ := box4 hbx_5
        have zm := lt_of_block hbx_5
        have HBX1_5 := Lib.hid hbx_5
        clear hbx_5
        clear hg5 hgr5 GCH4 HBX0_4 HBX1_4
        go_wp2_with fail
        first | exact HR.out _ (GCH5.out) | exact HR.out _ (Grow.trans GCH5.out ((Grow.refl _).alloc _)) | exact HR.out _ (Grow.trans GCH5.out (((Grow.refl _).alloc _).alloc _)) | exact HR.out _ (Grow.trans GCH5.out ((((Grow.refl _).alloc _).alloc _).alloc _)) | exact HR.out _ (Grow.trans GCH5.out (((((Grow.refl _).alloc _).alloc _).alloc _).alloc _)) | exact HR.out _ (Grow.trans GCH5.out ((Grow.refl _).drewN _))
      subst gq1
      by_cases gq2 : l2 = m2
      rotate_left
      · have tq1 : (l2 == m2) = false := by simpa using gq2
        have tq2 : (l2 != m2) = true := by simpa using gq2
        go_enter Try.func3, Try.ntmps3
        go_wp2_with fail
        obtain ⟨wb0, hwb0⟩ : ∃ W, w.alloc (.cells #[.int .i64 l0, .int .i64 l1, .int .i64 l2, .int .i64 l3] 23) = W := ⟨_, rfl⟩
        rw [hwb0]
        have hgb0 : Grow w wb0 := hwb0 ▸ (Grow.refl w).alloc _
        have hsz0 : wb0.heap.size = w.heap.size + 1 := by rw [← hwb0, World.size_alloc]
        have hbb0 : wb0.heap[w.heap.size]? = some (.cells #[.int .i64 l0, .int .i64 l1, .int .i64 l2, .int .i64 l3] 23 (0, 0)) := by have h := heap_alloc_new w (.cells #[.int .i64 l0, .int .i64 l1, .int .i64 l2, .int .i64 l3] 23); rw [hwb0] at h; exact h
        clear hwb0
        have hgr1 : Grow w wb0 := by first | exact hgb0 | exact Grow.trans ((Grow.refl _).alloc _) hgb0 | exact Grow.trans (((Grow.refl _).alloc _).alloc _) hgb0 | exact Grow.trans ((((Grow.refl _).alloc _).alloc _).alloc _) hgb0 | exact Grow.trans (((((Grow.refl _).alloc _).alloc _).alloc _).alloc _) hgb0 | exact Grow.trans ((Grow.refl _).drewN _) hgb0
        have GCH1 := Lib.hid hgr1
        clear hgb0 hgr1
        obtain ⟨el0, el1, el2, el3⟩ := box4 hbb0
        have zl := lt_of_block hbb0
        have HBB0 := Lib.hid hbb0
        clear hbb0
        obtain ⟨wb1, hwb1⟩ : ∃ W, wb0.alloc (.cells #[.int .i64 l0, .int .i64 l1, .int .i64 m2, .int .i64 m3] 23) = W := ⟨_, rfl⟩
        rw [hwb1]
        have hgb1 : Grow wb0 wb1 := hwb1 ▸ (Grow.refl wb0).alloc _
        have hsz1 : wb1.heap.size = w.heap.size + 2 := by rw [← hwb1, World.size_alloc]; rw [hsz0]
        have hbb1 : wb1.heap[w.heap.size + 1]? = some (.cells #[.int .i64 l0, .int .i64 l1, .int .i64 m2, .int .i64 m3] 23 (0, 0)) := by have h := heap_alloc_new wb0 (.cells #[.int .i64 l0, .int .i64 l1, .int .i64 m2, .int .i64 m3] 23); rw [hsz0] at h; rw [hwb1] at h; exact h
        clear hwb1
        have hgr2 : Grow wb0 wb1 := by first | exact hgb1 | exact Grow.trans ((Grow.refl _).alloc _) hgb1 | exact Grow.trans (((Grow.refl _).alloc _).alloc _) hgb1 | exact Grow.trans ((((Grow.refl _).alloc _).alloc _).alloc _) hgb1 | exact Grow.trans (((((Grow.refl _).alloc _).alloc _).alloc _).alloc _) hgb1 | exact Grow.trans ((Grow.refl _).drewN _) hgb1
        have GCH2 := Lib.hid (GCH1.out.trans hgr2)
        have hbx_2 := hgr2.blk HBB0.out
        clear el0 el1 el2 el3 zl
        obtain ⟨el0, el1, el2, el3⟩ := box4 hbx_2
        have zl := lt_of_block hbx_2
        have HBX0_2 := Lib.hid hbx_2
        clear hbx_2
        clear hgb1 hgr2 GCH1 HBB0
        obtain ⟨em0, em1, em2, em3⟩ := box4 hbb1
        have zm := lt_of_block hbb1
        have HBB1 := Lib.hid hbb1
        clear hbb1
        clear hsz0 hsz1
        refine near_any l0 l1 l2 l3 l0 l1 m2 m3 _ _ ?_
        intro wz3 hg3 
        have hgr3 : Grow wb1 wz3 := by first | exact hg3 | exact Grow.trans ((Grow.refl _).alloc _) hg3 | exact Grow.trans (((Grow.refl _).alloc _).alloc _) hg3 | exact Grow.trans ((((Grow.refl _).alloc _).alloc _).alloc _) hg3 | exact Grow.trans (((((Grow.refl _).alloc _).alloc _).alloc _).alloc _) hg3 | exact Grow.trans ((Grow.refl _).drewN _) hg3
        have GCH3 := Lib.hid (GCH2.out.trans hgr3)
        have hbx_3 := hgr3.blk HBX0_2.out
        clear el0 el1 el2 el3 zl
        obtain ⟨el0, el1, el2, el3⟩ := box4 hbx_3
        have zl := lt_of_block hbx_3
        have HBX0_3 := Lib.hid hbx_3
        clear hbx_3
        have hbx_3 := hgr3.blk HBB1.out
        clear em0 em1 em2 em3 zm
        obtain ⟨em0, em1, em2, em3⟩ := box4 hbx_3
        have zm := lt_of_block hbx_3
        have HBX1_3 := Lib.hid hbx_3
        clear hbx_3
        clear hg3 hgr3 GCH2 HBX0_2 HBB1
        rw [HE1.out, HB1.out]
        go_wp2_with fail
        refine near_any l0 l1 m2 m3 l0 l1 l2 l3 _ _ ?_
        intro wz4 hg4 
        have hgr4 : Grow wz3 wz4 := by first | exact hg4 | exact Grow.trans ((Grow.refl _).alloc _) hg4 | exact Grow.trans (((Grow.refl _).alloc _).alloc _) hg4 | exact Grow.trans ((((Grow.refl _).alloc _).alloc _).alloc _) hg4 | exact Grow.trans (((((Grow.refl _).alloc _).alloc _).alloc _).alloc _) hg4 | exact Grow.trans ((Grow.refl _).drewN _) hg4
        have GCH4 := Lib.hid (GCH3.out.trans hgr4)
        have hbx_4 := hgr4.blk HBX0_3.out
        clear el0 el1 el2 el3 zl
        obtain ⟨el0, el1, el2, el3⟩ := box4 hbx_4
        have zl := lt_of_block hbx_4
        have HBX0_4 := Lib.hid hbx_4
        clear hbx_4
        have hbx_4 := hgr4.blk HBX1_3.out
        clear em0 em1 em2 em3 zm
        obtain ⟨em0, em1, em2, em3⟩ := box4 hbx_4
        have zm := lt_of_block hbx_4
        have HBX1_4 := Lib.hid hbx_4
        clear hbx_4
        clear hg4 hgr4 GCH3 HBX0_3 HBX1_3
        rw [HE2.out, HB2.out]
        go_wp2_with fail
        refine ssame_any _ _ ?_
        intro wz5 hg5 
        have hgr5 : Grow wz4 wz5 := by first | exact hg5 | exact Grow.trans ((Grow.refl _).alloc _) hg5 | exact Grow.trans (((Grow.refl _).alloc _).alloc _) hg5 | exact Grow.trans ((((Grow.refl _).alloc _).alloc _).alloc _) hg5 | exact Grow.trans (((((Grow.refl _).alloc _).alloc _).alloc _).alloc _) hg5 | exact Grow.trans ((Grow.refl _).drewN _) hg5
        have GCH5 := Lib.hid (GCH4.out.trans hgr5)
        have hbx_5 := hgr5.blk HBX0_4.out
        clear el0 el1 el2 el3 zl
        obtain ⟨el0, el1, el2, el3⟩ := box4 hbx_5
        have zl := lt_of_block hbx_5
        have HBX0_5 := Lib.hid hbx_5
        clear hbx_5
        have hbx_5 := hgr5.blk HBX1_4.out
        clear em0 em1 em2 em3 zm
        obtain ⟨em0, em1, em2, em3⟩ := box4 hbx_5
        have zm := lt_of_block hbx_5
        have HBX1_5 := Lib.hid hbx_5
        clear hbx_5
        clear hg5 hgr5 GCH4 HBX0_4 HBX1_4
        go_wp2_with fail
        first | exact HR.out _ (GCH5.out) | exact HR.out _ (Grow.trans GCH5.out ((Grow.refl _).alloc _)) | exact HR.out _ (Grow.trans GCH5.out (((Grow.refl _).alloc _).alloc _)) | exact HR.out _ (Grow.trans GCH5.out ((((Grow.refl _).alloc _).alloc _).alloc _)) | exact HR.out _ (Grow.trans GCH5.out (((((Grow.refl _).alloc _).alloc _).alloc _).alloc _)) | exact HR.out _ (Grow.trans GCH5.out ((Grow.refl _).drewN _))
      subst gq2
      by_cases gq3 : l3 = m3
      rotate_left
      · have tq1 : (l3 == m3) = false := by simpa using gq3
        have tq2 : (l3 != m3) = true := by simpa using gq3
        go_enter Try.func3, Try.ntmps3
        go_wp2_with fail
        obtain ⟨wb0, hwb0⟩ : ∃ W, w.alloc (.cells #[.int .i64 l0, .int .i64 l1, .int .i64 l2, .int .i64 l3] 23) = W := ⟨_, rfl⟩
        rw [hwb0]
        have hgb0 : Grow w wb0 := hwb0 ▸ (Grow.refl w).alloc _
        have hsz0 : wb0.heap.size = w.heap.size + 1 := by rw [← hwb0, World.size_alloc]
        have hbb0 : wb0.heap[w.heap.size]? = some (.cells #[.int .i64 l0, .int .i64 l1, .int .i64 l2, .int .i64 l3] 23 (0, 0)) := by have h := heap_alloc_new w (.cells #[.int .i64 l0, .int .i64 l1, .int .i64 l2, .int .i64 l3] 23); rw [hwb0] at h; exact h
        clear hwb0
        have hgr1 : Grow w wb0 := by first | exact hgb0 | exact Grow.trans ((Grow.refl _).alloc _) hgb0 | exact Grow.trans (((Grow.refl _).alloc _).alloc _) hgb0 | exact Grow.trans ((((Grow.refl _).alloc _).alloc _).alloc _) hgb0 | exact Grow.trans (((((Grow.refl _).alloc _).alloc _).alloc _).alloc _) hgb0 | exact Grow.trans ((Grow.refl _).drewN _) hgb0
        have GCH1 := Lib.hid hgr1
        clear hgb0 hgr1
        obtain ⟨el0, el1, el2, el3⟩ := box4 hbb0
        have zl := lt_of_block hbb0
        have HBB0 := Lib.hid hbb0
        clear hbb0
        obtain ⟨wb1, hwb1⟩ : ∃ W, wb0.alloc (.cells #[.int .i64 l0, .int .i64 l1, .int .i64 l2, .int .i64 m3] 23) = W := ⟨_, rfl⟩
        rw [hwb1]
        have hgb1 : Grow wb0 wb1 := hwb1 ▸ (Grow.refl wb0).alloc _
        have hsz1 : wb1.heap.size = w.heap.size + 2 := by rw [← hwb1, World.size_alloc]; rw [hsz0]
        have hbb1 : wb1.heap[w.heap.size + 1]? = some (.cells #[.int .i64 l0, .int .i64 l1, .int .i64 l2, .int .i64 m3] 23 (0, 0)) := by have h := heap_alloc_new wb0 (.cells #[.int .i64 l0, .int .i64 l1, .int .i64 l2, .int .i64 m3] 23); rw [hsz0] at h; rw [hwb1] at h; exact h
        clear hwb1
        have hgr2 : Grow wb0 wb1 := by first | exact hgb1 | exact Grow.trans ((Grow.refl _).alloc _) hgb1 | exact Grow.trans (((Grow.refl _).alloc _).alloc _) hgb1 | exact Grow.trans ((((Grow.refl _).alloc _).alloc _).alloc _) hgb1 | exact Grow.trans (((((Grow.refl _).alloc _).alloc _).alloc _).alloc _) hgb1 | exact Grow.trans ((Grow.refl _).drewN _) hgb1
        have GCH2 := Lib.hid (GCH1.out.trans hgr2)
        have hbx_2 := hgr2.blk HBB0.out
        clear el0 el1 el2 el3 zl
        obtain ⟨el0, el1, el2, el3⟩ := box4 hbx_2
        have zl := lt_of_block hbx_2
        have HBX0_2 := Lib.hid hbx_2
        clear hbx_2
        clear hgb1 hgr2 GCH1 HBB0
        obtain ⟨em0, em1, em2, em3⟩ := box4 hbb1
        have zm := lt_of_block hbb1
        have HBB1 := Lib.hid hbb1
        clear hbb1
        clear hsz0 hsz1
        refine near_any l0 l1 l2 l3 l0 l1 l2 m3 _ _ ?_
        intro wz3 hg3 
        have hgr3 : Grow wb1 wz3 := by first | exact hg3 | exact Grow.trans ((Grow.refl _).alloc _) hg3 | exact Grow.trans (((Grow.refl _).alloc _).alloc _) hg3 | exact Grow.trans ((((Grow.refl _).alloc _).alloc _).alloc _) hg3 | exact Grow.trans (((((Grow.refl _).alloc _).alloc _).alloc _).alloc _) hg3 | exact Grow.trans ((Grow.refl _).drewN _) hg3
        have GCH3 := Lib.hid (GCH2.out.trans hgr3)
        have hbx_3 := hgr3.blk HBX0_2.out
        clear el0 el1 el2 el3 zl
        obtain ⟨el0, el1, el2, el3⟩ := box4 hbx_3
        have zl := lt_of_block hbx_3
        have HBX0_3 := Lib.hid hbx_3
        clear hbx_3
        have hbx_3 := hgr3.blk HBB1.out
        clear em0 em1 em2 em3 zm
        obtain ⟨em0, em1, em2, em3⟩ := box4 hbx_3
        have zm := lt_of_block hbx_3
        have HBX1_3 := Lib.hid hbx_3
        clear hbx_3
        clear hg3 hgr3 GCH2 HBX0_2 HBB1
        rw [HE1.out, HB1.out]
        go_wp2_with fail
        refine near_any l0 l1 l2 m3 l0 l1 l2 l3 _ _ ?_
        intro wz4 hg4 
        have hgr4 : Grow wz3 wz4 := by first | exact hg4 | exact Grow.trans ((Grow.refl _).alloc _) hg4 | exact Grow.trans (((Grow.refl _).alloc _).alloc _) hg4 | exact Grow.trans ((((Grow.refl _).alloc _).alloc _).alloc _) hg4 | exact Grow.trans (((((Grow.refl _).alloc _).alloc _).alloc _).alloc _) hg4 | exact Grow.trans ((Grow.refl _).drewN _) hg4
        have GCH4 := Lib.hid (GCH3.out.trans hgr4)
        have hbx_4 := hgr4.blk HBX0_3.out
        clear el0 el1 el2 el3 zl
        obtain ⟨el0, el1, el2, el3⟩ := box4 hbx_4
        have zl := lt_of_block hbx_4
        have HBX0_4 := Lib.hid hbx_4
        clear hbx_4
        have hbx_4 := hgr4.blk HBX1_3.out
        clear em0 em1 em2 em3 zm
        obtain ⟨em0, em1, em2, em3⟩ := box4 hbx_4
        have zm := lt_of_block hbx_4
        have HBX1_4 := Lib.hid hbx_4
        clear hbx_4
        clear hg4 hgr4 GCH3 HBX0_3 HBX1_3
        rw [HE2.out, HB2.out]
        go_wp2_with fail
        refine ssame_any _ _ ?_
        intro wz5 hg5 
        have hgr5 : Grow wz4 wz5 := by first | exact hg5 | exact Grow.trans ((Grow.refl _).alloc _) hg5 | exact Grow.trans (((Grow.refl _).alloc _).alloc _) hg5 | exact Grow.trans ((((Grow.refl _).alloc _).alloc _).alloc _) hg5 | exact Grow.trans (((((Grow.refl _).alloc _).alloc _).alloc _).alloc _) hg5 | exact Grow.trans ((Grow.refl _).drewN _) hg5
        have GCH5 := Lib.hid (GCH4.out.trans hgr5)
        have hbx_5 := hgr5.blk HBX0_4.out
        clear el0 el1 el2 el3 zl
        obtain ⟨el0, el1, el2, el3⟩ := box4 hbx_5
        have zl := lt_of_block hbx_5
        have HBX0_5 := Lib.hid hbx_5
        clear hbx_5
        have hbx_5 := hgr5.blk HBX1_4.out
        clear em0 em1 em2 em3 zm
        obtain ⟨em0, em1, em2, em3⟩ := box4 hbx_5
        have zm := lt_of_block hbx_5
        have HBX1_5 := Lib.hid hbx_5
        clear hbx_5
        clear hg5 hgr5 GCH4 HBX0_4 HBX1_4
        go_wp2_with fail
        first | exact HR.out _ (GCH5.out) | exact HR.out _ (Grow.trans GCH5.out ((Grow.refl _).alloc _)) | exact HR.out _ (Grow.trans GCH5.out (((Grow.refl _).alloc _).alloc _)) | exact HR.out _ (Grow.trans GCH5.out ((((Grow.refl _).alloc _).alloc _).alloc _)) | exact HR.out _ (Grow.trans GCH5.out (((((Grow.refl _).alloc _).alloc _).alloc _).alloc _)) | exact HR.out _ (Grow.trans GCH5.out ((Grow.refl _).drewN _))
      subst gq3
      exact absurd rfl HNE.out
end Go.Proofs.Ytbccbokjecdaaaa
