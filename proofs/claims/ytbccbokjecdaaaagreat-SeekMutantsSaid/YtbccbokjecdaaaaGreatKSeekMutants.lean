/-
The statement SeekMutants: the mutants of a program, and which tests kill one of them, are what the document says, for all programs, tests and edits. No condition.
-/
import Derived.Test.YtbccbokjecdaaaaGreatB22
import Derived.Test.YtbccbokjecdaaaaGreatB49
import Derived.Test.YtbccbokjecdaaaaGreatB45
import Derived.Test.YtbccbokjecdaaaaGreatB50
import Derived.Test.YtbccbokjecdaaaaGreatB37
import Derived.ProofKit
import Derived.Lib.SmallJoins
import Derived.Test.YtbccbokjecdaaaaGreatB51
namespace Go.Proofs.YtbccbokjecdaaaaGreat
open Go.RowKit

theorem brkO_kilO {p : List Ln} {ts : List Tst} {m : Ed} (h : kilE p ts m = 0) : brkO p [m] ts = kilO p ts m := by
  rw [(brkO_kil h).2]
  unfold kilO
  rw [h, ifOK_ok]

set_option maxRecDepth 100000 in
set_option maxHeartbeats 16000000 in
theorem seekMutants_any (p : List Ln) (l : List Tst) (m0 m1 m2 m3 m4 : Int) (w : World) (vp vl : Value) (hp : LinesAt w vp p) (hl : TestsAt w vl l) (R : Ending → World → Prop) (hR : ∀ w', Grow w w' → R (.returned (.bool true)) w') :
    Calls Tryz.prog 3 #[vp, vl, .agg #[.int .i64 m0, .int .i64 m1, .int .i64 m2, .int .i64 m3, .int .i64 m4]] w R := by
  have HR := Lib.hid hR
  have HP_ := Lib.hid hp
  obtain ⟨adp, cpp, rfl, qp1, qp2, _⟩ := hp
  have HL_ := Lib.hid hl
  obtain ⟨⟨adl, cpl, rfl, ql1, ql2, _⟩, _⟩ := hl
  clear hR
  by_cases gd0 : 100 < p.length
  · have hd0 : decide (100 < p.length) = true := decide_eq_true gd0
    have HD0 := Lib.hid hd0
    clear hd0 gd0
    go_enter Tryz.func3, Tryz.ntmps3
    go_wp2_with fail
    obtain ⟨wb0, hwb0⟩ : ∃ W, w.alloc (.cells #[.int .i64 m0, .int .i64 m1, .int .i64 m2, .int .i64 m3, .int .i64 m4] 27) = W := ⟨_, rfl⟩
    rw [hwb0]
    have hgb0 : Grow w wb0 := hwb0 ▸ (Grow.refl w).alloc _
    have hsz0 : wb0.heap.size = w.heap.size + 1 := by rw [← hwb0, World.size_alloc]
    have hbb0 : wb0.heap[w.heap.size]? = some (.cells #[.int .i64 m0, .int .i64 m1, .int .i64 m2, .int .i64 m3, .int .i64 m4] 27 (0, 0)) := by have h := heap_alloc_new w (.cells #[.int .i64 m0, .int .i64 m1, .int .i64 m2, .int .i64 m3, .int .i64 m4] 27); rw [hwb0] at h; exact h
    clear hwb0
    have hgr1 : Grow w wb0 := by first | exact hgb0 | exact Grow.trans ((Grow.refl _).alloc _) hgb0 | exact Grow.trans (((Grow.refl _).alloc _).alloc _) hgb0 | exact Grow.trans ((((Grow.refl _).alloc _).alloc _).alloc _) hgb0 | exact Grow.trans (((((Grow.refl _).alloc _).alloc _).alloc _).alloc _) hgb0 | exact Grow.trans ((Grow.refl _).drewN _) hgb0
    have HP_1 := Lib.hid (HP_.out.grow hgr1)
    have HL_1 := Lib.hid (HL_.out.grow hgr1)
    have GCH1 := Lib.hid hgr1
    clear hgb0 hgr1 HP_ HL_
    obtain ⟨em0, em1, em2, em3, em4⟩ := box5 hbb0
    have zm := lt_of_block hbb0
    have HBB0 := Lib.hid hbb0
    clear hbb0
    clear hsz0
    refine long4_any p _ _ (by first | exact HP_1.out | exact HP_1.out.grow ((Grow.refl _).alloc _) | exact HP_1.out.grow (((Grow.refl _).alloc _).alloc _) | exact HP_1.out.grow ((((Grow.refl _).alloc _).alloc _).alloc _) | exact HP_1.out.grow (((((Grow.refl _).alloc _).alloc _).alloc _).alloc _) | exact HP_1.out.grow ((Grow.refl _).drewN _)) _ ?_
    rw [HD0.out]
    go_wp2_with fail
    refine ssame_any _ _ ?_
    intro wz2 hg2 
    have hgr2 : Grow wb0 wz2 := by first | exact hg2 | exact Grow.trans ((Grow.refl _).alloc _) hg2 | exact Grow.trans (((Grow.refl _).alloc _).alloc _) hg2 | exact Grow.trans ((((Grow.refl _).alloc _).alloc _).alloc _) hg2 | exact Grow.trans (((((Grow.refl _).alloc _).alloc _).alloc _).alloc _) hg2 | exact Grow.trans ((Grow.refl _).drewN _) hg2
    have HP_2 := Lib.hid (HP_1.out.grow hgr2)
    have HL_2 := Lib.hid (HL_1.out.grow hgr2)
    have GCH2 := Lib.hid (GCH1.out.trans hgr2)
    have hbx_2 := hgr2.blk HBB0.out
    clear em0 em1 em2 em3 em4 zm
    obtain ⟨em0, em1, em2, em3, em4⟩ := box5 hbx_2
    have zm := lt_of_block hbx_2
    have HBX0_2 := Lib.hid hbx_2
    clear hbx_2
    clear hg2 hgr2 HP_1 HL_1 GCH1 HBB0
    go_wp2_with fail
    first | exact HR.out _ (GCH2.out) | exact HR.out _ (Grow.trans GCH2.out ((Grow.refl _).alloc _)) | exact HR.out _ (Grow.trans GCH2.out (((Grow.refl _).alloc _).alloc _)) | exact HR.out _ (Grow.trans GCH2.out ((((Grow.refl _).alloc _).alloc _).alloc _)) | exact HR.out _ (Grow.trans GCH2.out (((((Grow.refl _).alloc _).alloc _).alloc _).alloc _)) | exact HR.out _ (Grow.trans GCH2.out ((Grow.refl _).drewN _))
  · have hd0 : decide (100 < p.length) = false := decide_eq_false gd0
    have HD0 := Lib.hid hd0
    clear hd0
    obtain ⟨mb, hmb⟩ : ∃ z, manyB l = z := ⟨_, rfl⟩
    have HMB := Lib.hid hmb
    clear hmb
    cases mb with
    | true =>
      go_enter Tryz.func3, Tryz.ntmps3
      go_wp2_with fail
      obtain ⟨wb0, hwb0⟩ : ∃ W, w.alloc (.cells #[.int .i64 m0, .int .i64 m1, .int .i64 m2, .int .i64 m3, .int .i64 m4] 27) = W := ⟨_, rfl⟩
      rw [hwb0]
      have hgb0 : Grow w wb0 := hwb0 ▸ (Grow.refl w).alloc _
      have hsz0 : wb0.heap.size = w.heap.size + 1 := by rw [← hwb0, World.size_alloc]
      have hbb0 : wb0.heap[w.heap.size]? = some (.cells #[.int .i64 m0, .int .i64 m1, .int .i64 m2, .int .i64 m3, .int .i64 m4] 27 (0, 0)) := by have h := heap_alloc_new w (.cells #[.int .i64 m0, .int .i64 m1, .int .i64 m2, .int .i64 m3, .int .i64 m4] 27); rw [hwb0] at h; exact h
      clear hwb0
      have hgr1 : Grow w wb0 := by first | exact hgb0 | exact Grow.trans ((Grow.refl _).alloc _) hgb0 | exact Grow.trans (((Grow.refl _).alloc _).alloc _) hgb0 | exact Grow.trans ((((Grow.refl _).alloc _).alloc _).alloc _) hgb0 | exact Grow.trans (((((Grow.refl _).alloc _).alloc _).alloc _).alloc _) hgb0 | exact Grow.trans ((Grow.refl _).drewN _) hgb0
      have HP_1 := Lib.hid (HP_.out.grow hgr1)
      have HL_1 := Lib.hid (HL_.out.grow hgr1)
      have GCH1 := Lib.hid hgr1
      clear hgb0 hgr1 HP_ HL_
      obtain ⟨em0, em1, em2, em3, em4⟩ := box5 hbb0
      have zm := lt_of_block hbb0
      have HBB0 := Lib.hid hbb0
      clear hbb0
      clear hsz0
      refine long4_any p _ _ (by first | exact HP_1.out | exact HP_1.out.grow ((Grow.refl _).alloc _) | exact HP_1.out.grow (((Grow.refl _).alloc _).alloc _) | exact HP_1.out.grow ((((Grow.refl _).alloc _).alloc _).alloc _) | exact HP_1.out.grow (((((Grow.refl _).alloc _).alloc _).alloc _).alloc _) | exact HP_1.out.grow ((Grow.refl _).drewN _)) _ ?_
      rw [HD0.out]
      go_wp2_with fail
      refine many_any l _ _ (by first | exact HL_1.out | exact HL_1.out.grow ((Grow.refl _).alloc _) | exact HL_1.out.grow (((Grow.refl _).alloc _).alloc _) | exact HL_1.out.grow ((((Grow.refl _).alloc _).alloc _).alloc _) | exact HL_1.out.grow (((((Grow.refl _).alloc _).alloc _).alloc _).alloc _) | exact HL_1.out.grow ((Grow.refl _).drewN _)) _ ?_
      intro wz2 hg2 
      have hgr2 : Grow wb0 wz2 := by first | exact hg2 | exact Grow.trans ((Grow.refl _).alloc _) hg2 | exact Grow.trans (((Grow.refl _).alloc _).alloc _) hg2 | exact Grow.trans ((((Grow.refl _).alloc _).alloc _).alloc _) hg2 | exact Grow.trans (((((Grow.refl _).alloc _).alloc _).alloc _).alloc _) hg2 | exact Grow.trans ((Grow.refl _).drewN _) hg2
      have HP_2 := Lib.hid (HP_1.out.grow hgr2)
      have HL_2 := Lib.hid (HL_1.out.grow hgr2)
      have GCH2 := Lib.hid (GCH1.out.trans hgr2)
      have hbx_2 := hgr2.blk HBB0.out
      clear em0 em1 em2 em3 em4 zm
      obtain ⟨em0, em1, em2, em3, em4⟩ := box5 hbx_2
      have zm := lt_of_block hbx_2
      have HBX0_2 := Lib.hid hbx_2
      clear hbx_2
      clear hg2 hgr2 HP_1 HL_1 GCH1 HBB0
      rw [HMB.out]
      go_wp2_with fail
      refine ssame_any _ _ ?_
      intro wz3 hg3 
      have hgr3 : Grow wz2 wz3 := by first | exact hg3 | exact Grow.trans ((Grow.refl _).alloc _) hg3 | exact Grow.trans (((Grow.refl _).alloc _).alloc _) hg3 | exact Grow.trans ((((Grow.refl _).alloc _).alloc _).alloc _) hg3 | exact Grow.trans (((((Grow.refl _).alloc _).alloc _).alloc _).alloc _) hg3 | exact Grow.trans ((Grow.refl _).drewN _) hg3
      have HP_3 := Lib.hid (HP_2.out.grow hgr3)
      have HL_3 := Lib.hid (HL_2.out.grow hgr3)
      have GCH3 := Lib.hid (GCH2.out.trans hgr3)
      have hbx_3 := hgr3.blk HBX0_2.out
      clear em0 em1 em2 em3 em4 zm
      obtain ⟨em0, em1, em2, em3, em4⟩ := box5 hbx_3
      have zm := lt_of_block hbx_3
      have HBX0_3 := Lib.hid hbx_3
      clear hbx_3
      clear hg3 hgr3 HP_2 HL_2 GCH2 HBX0_2
      go_wp2_with fail
      first | exact HR.out _ (GCH3.out) | exact HR.out _ (Grow.trans GCH3.out ((Grow.refl _).alloc _)) | exact HR.out _ (Grow.trans GCH3.out (((Grow.refl _).alloc _).alloc _)) | exact HR.out _ (Grow.trans GCH3.out ((((Grow.refl _).alloc _).alloc _).alloc _)) | exact HR.out _ (Grow.trans GCH3.out (((((Grow.refl _).alloc _).alloc _).alloc _).alloc _)) | exact HR.out _ (Grow.trans GCH3.out ((Grow.refl _).drewN _))
    | false =>
      have hbk := fun h => brkO_kilO (p := p) (ts := l) (m := ⟨m0, ⟨m1, m2, m3, m4⟩⟩) h
      have hcx := fun h => (brkO_kil (p := p) (ts := l) (m := ⟨m0, ⟨m1, m2, m3, m4⟩⟩) h).1
      obtain ⟨e, hHE⟩ : ∃ z, valP p = z := ⟨_, rfl⟩
      have HE := Lib.hid hHE
      obtain ⟨A, hHAA⟩ : ∃ z, mutO p = z := ⟨_, rfl⟩
      have HAA := Lib.hid hHAA
      obtain ⟨ke, hHKE⟩ : ∃ z, kilE p l ⟨m0, ⟨m1, m2, m3, m4⟩⟩ = z := ⟨_, rfl⟩
      have HKE := Lib.hid hHKE
      obtain ⟨K, hHKK⟩ : ∃ z, kilO p l ⟨m0, ⟨m1, m2, m3, m4⟩⟩ = z := ⟨_, rfl⟩
      have HKK := Lib.hid hHKK
      rw [hHKE] at hbk hcx
      rw [hHKK] at hbk
      clear hHE hHAA hHKE hHKK
      have t2 : (e != e) = false := by simp
      have t3 : (ke != ke) = false := by simp
      by_cases h0 : ke = 0
      rotate_left
      · have t1 : (ke != 0) = true := by simpa using h0
        clear h0 hbk hcx
        go_enter Tryz.func3, Tryz.ntmps3
        go_wp2_with fail
        obtain ⟨wb0, hwb0⟩ : ∃ W, w.alloc (.cells #[.int .i64 m0, .int .i64 m1, .int .i64 m2, .int .i64 m3, .int .i64 m4] 27) = W := ⟨_, rfl⟩
        rw [hwb0]
        have hgb0 : Grow w wb0 := hwb0 ▸ (Grow.refl w).alloc _
        have hsz0 : wb0.heap.size = w.heap.size + 1 := by rw [← hwb0, World.size_alloc]
        have hbb0 : wb0.heap[w.heap.size]? = some (.cells #[.int .i64 m0, .int .i64 m1, .int .i64 m2, .int .i64 m3, .int .i64 m4] 27 (0, 0)) := by have h := heap_alloc_new w (.cells #[.int .i64 m0, .int .i64 m1, .int .i64 m2, .int .i64 m3, .int .i64 m4] 27); rw [hwb0] at h; exact h
        clear hwb0
        have hgr1 : Grow w wb0 := by first | exact hgb0 | exact Grow.trans ((Grow.refl _).alloc _) hgb0 | exact Grow.trans (((Grow.refl _).alloc _).alloc _) hgb0 | exact Grow.trans ((((Grow.refl _).alloc _).alloc _).alloc _) hgb0 | exact Grow.trans (((((Grow.refl _).alloc _).alloc _).alloc _).alloc _) hgb0 | exact Grow.trans ((Grow.refl _).drewN _) hgb0
        have HP_1 := Lib.hid (HP_.out.grow hgr1)
        have HL_1 := Lib.hid (HL_.out.grow hgr1)
        have GCH1 := Lib.hid hgr1
        clear hgb0 hgr1 HP_ HL_
        obtain ⟨em0, em1, em2, em3, em4⟩ := box5 hbb0
        have zm := lt_of_block hbb0
        have HBB0 := Lib.hid hbb0
        clear hbb0
        clear hsz0
        refine long4_any p _ _ (by first | exact HP_1.out | exact HP_1.out.grow ((Grow.refl _).alloc _) | exact HP_1.out.grow (((Grow.refl _).alloc _).alloc _) | exact HP_1.out.grow ((((Grow.refl _).alloc _).alloc _).alloc _) | exact HP_1.out.grow (((((Grow.refl _).alloc _).alloc _).alloc _).alloc _) | exact HP_1.out.grow ((Grow.refl _).drewN _)) _ ?_
        rw [HD0.out]
        go_wp2_with fail
        refine many_any l _ _ (by first | exact HL_1.out | exact HL_1.out.grow ((Grow.refl _).alloc _) | exact HL_1.out.grow (((Grow.refl _).alloc _).alloc _) | exact HL_1.out.grow ((((Grow.refl _).alloc _).alloc _).alloc _) | exact HL_1.out.grow (((((Grow.refl _).alloc _).alloc _).alloc _).alloc _) | exact HL_1.out.grow ((Grow.refl _).drewN _)) _ ?_
        intro wz2 hg2 
        have hgr2 : Grow wb0 wz2 := by first | exact hg2 | exact Grow.trans ((Grow.refl _).alloc _) hg2 | exact Grow.trans (((Grow.refl _).alloc _).alloc _) hg2 | exact Grow.trans ((((Grow.refl _).alloc _).alloc _).alloc _) hg2 | exact Grow.trans (((((Grow.refl _).alloc _).alloc _).alloc _).alloc _) hg2 | exact Grow.trans ((Grow.refl _).drewN _) hg2
        have HP_2 := Lib.hid (HP_1.out.grow hgr2)
        have HL_2 := Lib.hid (HL_1.out.grow hgr2)
        have GCH2 := Lib.hid (GCH1.out.trans hgr2)
        have hbx_2 := hgr2.blk HBB0.out
        clear em0 em1 em2 em3 em4 zm
        obtain ⟨em0, em1, em2, em3, em4⟩ := box5 hbx_2
        have zm := lt_of_block hbx_2
        have HBX0_2 := Lib.hid hbx_2
        clear hbx_2
        clear hg2 hgr2 HP_1 HL_1 GCH1 HBB0
        rw [HMB.out]
        go_wp2_with fail
        refine Mutants_any p _ _ (by first | exact HP_2.out | exact HP_2.out.grow ((Grow.refl _).alloc _) | exact HP_2.out.grow (((Grow.refl _).alloc _).alloc _) | exact HP_2.out.grow ((((Grow.refl _).alloc _).alloc _).alloc _) | exact HP_2.out.grow (((((Grow.refl _).alloc _).alloc _).alloc _).alloc _) | exact HP_2.out.grow ((Grow.refl _).drewN _)) _ ?_
        intro wz3 x3_0 hg3 hx3_0
        have hgr3 : Grow wz2 wz3 := by first | exact hg3 | exact Grow.trans ((Grow.refl _).alloc _) hg3 | exact Grow.trans (((Grow.refl _).alloc _).alloc _) hg3 | exact Grow.trans ((((Grow.refl _).alloc _).alloc _).alloc _) hg3 | exact Grow.trans (((((Grow.refl _).alloc _).alloc _).alloc _).alloc _) hg3 | exact Grow.trans ((Grow.refl _).drewN _) hg3
        have HP_3 := Lib.hid (HP_2.out.grow hgr3)
        have HL_3 := Lib.hid (HL_2.out.grow hgr3)
        have GCH3 := Lib.hid (GCH2.out.trans hgr3)
        have hbx_3 := hgr3.blk HBX0_2.out
        clear em0 em1 em2 em3 em4 zm
        obtain ⟨em0, em1, em2, em3, em4⟩ := box5 hbx_3
        have zm := lt_of_block hbx_3
        have HBX0_3 := Lib.hid hbx_3
        clear hbx_3
        clear hg3 hgr3 HP_2 HL_2 GCH2 HBX0_2
        rw [HAA.out] at hx3_0
        have hyHXA_3 := hx3_0
        have HXA_3 := Lib.hid hyHXA_3
        obtain ⟨aHXA_3, cHXA_3, rfl, qHXA_31, qHXA_32, _⟩ := hyHXA_3
        clear hx3_0
        rw [HE.out]
        go_wp2_with fail
        refine r5Mutants_any p _ _ (by first | exact HP_3.out | exact HP_3.out.grow ((Grow.refl _).alloc _) | exact HP_3.out.grow (((Grow.refl _).alloc _).alloc _) | exact HP_3.out.grow ((((Grow.refl _).alloc _).alloc _).alloc _) | exact HP_3.out.grow (((((Grow.refl _).alloc _).alloc _).alloc _).alloc _) | exact HP_3.out.grow ((Grow.refl _).drewN _)) _ ?_
        intro wz4 x4_0 hg4 hx4_0
        have hgr4 : Grow wz3 wz4 := by first | exact hg4 | exact Grow.trans ((Grow.refl _).alloc _) hg4 | exact Grow.trans (((Grow.refl _).alloc _).alloc _) hg4 | exact Grow.trans ((((Grow.refl _).alloc _).alloc _).alloc _) hg4 | exact Grow.trans (((((Grow.refl _).alloc _).alloc _).alloc _).alloc _) hg4 | exact Grow.trans ((Grow.refl _).drewN _) hg4
        have HP_4 := Lib.hid (HP_3.out.grow hgr4)
        have HL_4 := Lib.hid (HL_3.out.grow hgr4)
        have HXA_4 := Lib.hid (HXA_3.out.grow hgr4)
        have GCH4 := Lib.hid (GCH3.out.trans hgr4)
        have hbx_4 := hgr4.blk HBX0_3.out
        clear em0 em1 em2 em3 em4 zm
        obtain ⟨em0, em1, em2, em3, em4⟩ := box5 hbx_4
        have zm := lt_of_block hbx_4
        have HBX0_4 := Lib.hid hbx_4
        clear hbx_4
        clear hg4 hgr4 HP_3 HL_3 HXA_3 GCH3 HBX0_3
        rw [HAA.out] at hx4_0
        have hyHXB_4 := hx4_0
        have HXB_4 := Lib.hid hyHXB_4
        obtain ⟨aHXB_4, cHXB_4, rfl, qHXB_41, qHXB_42, _⟩ := hyHXB_4
        clear hx4_0
        rw [HE.out]
        go_wp2_with fail
        refine Kills_any p l m0 m1 m2 m3 m4 _ _ _ (by first | exact HP_4.out | exact HP_4.out.grow ((Grow.refl _).alloc _) | exact HP_4.out.grow (((Grow.refl _).alloc _).alloc _) | exact HP_4.out.grow ((((Grow.refl _).alloc _).alloc _).alloc _) | exact HP_4.out.grow (((((Grow.refl _).alloc _).alloc _).alloc _).alloc _) | exact HP_4.out.grow ((Grow.refl _).drewN _)) (by first | exact HL_4.out | exact HL_4.out.grow ((Grow.refl _).alloc _) | exact HL_4.out.grow (((Grow.refl _).alloc _).alloc _) | exact HL_4.out.grow ((((Grow.refl _).alloc _).alloc _).alloc _) | exact HL_4.out.grow (((((Grow.refl _).alloc _).alloc _).alloc _).alloc _) | exact HL_4.out.grow ((Grow.refl _).drewN _)) _ ?_
        intro wz5 x5_0 hg5 hx5_0
        have hgr5 : Grow wz4 wz5 := by first | exact hg5 | exact Grow.trans ((Grow.refl _).alloc _) hg5 | exact Grow.trans (((Grow.refl _).alloc _).alloc _) hg5 | exact Grow.trans ((((Grow.refl _).alloc _).alloc _).alloc _) hg5 | exact Grow.trans (((((Grow.refl _).alloc _).alloc _).alloc _).alloc _) hg5 | exact Grow.trans ((Grow.refl _).drewN _) hg5
        have HP_5 := Lib.hid (HP_4.out.grow hgr5)
        have HL_5 := Lib.hid (HL_4.out.grow hgr5)
        have HXA_5 := Lib.hid (HXA_4.out.grow hgr5)
        have HXB_5 := Lib.hid (HXB_4.out.grow hgr5)
        have GCH5 := Lib.hid (GCH4.out.trans hgr5)
        have hbx_5 := hgr5.blk HBX0_4.out
        clear em0 em1 em2 em3 em4 zm
        obtain ⟨em0, em1, em2, em3, em4⟩ := box5 hbx_5
        have zm := lt_of_block hbx_5
        have HBX0_5 := Lib.hid hbx_5
        clear hbx_5
        clear hg5 hgr5 HP_4 HL_4 HXA_4 HXB_4 GCH4 HBX0_4
        rw [HKK.out] at hx5_0
        have hyHXC_5 := hx5_0
        have HXC_5 := Lib.hid hyHXC_5
        obtain ⟨aHXC_5, cHXC_5, rfl, qHXC_51, qHXC_52, _⟩ := hyHXC_5
        clear hx5_0
        rw [HKE.out]
        go_wp2_with fail
        refine r5Kills_any p l m0 m1 m2 m3 m4 _ _ _ (by first | exact HP_5.out | exact HP_5.out.grow ((Grow.refl _).alloc _) | exact HP_5.out.grow (((Grow.refl _).alloc _).alloc _) | exact HP_5.out.grow ((((Grow.refl _).alloc _).alloc _).alloc _) | exact HP_5.out.grow (((((Grow.refl _).alloc _).alloc _).alloc _).alloc _) | exact HP_5.out.grow ((Grow.refl _).drewN _)) (by first | exact HL_5.out | exact HL_5.out.grow ((Grow.refl _).alloc _) | exact HL_5.out.grow (((Grow.refl _).alloc _).alloc _) | exact HL_5.out.grow ((((Grow.refl _).alloc _).alloc _).alloc _) | exact HL_5.out.grow (((((Grow.refl _).alloc _).alloc _).alloc _).alloc _) | exact HL_5.out.grow ((Grow.refl _).drewN _)) _ ?_
        intro wz6 x6_0 hg6 hx6_0
        have hgr6 : Grow wz5 wz6 := by first | exact hg6 | exact Grow.trans ((Grow.refl _).alloc _) hg6 | exact Grow.trans (((Grow.refl _).alloc _).alloc _) hg6 | exact Grow.trans ((((Grow.refl _).alloc _).alloc _).alloc _) hg6 | exact Grow.trans (((((Grow.refl _).alloc _).alloc _).alloc _).alloc _) hg6 | exact Grow.trans ((Grow.refl _).drewN _) hg6
        have HP_6 := Lib.hid (HP_5.out.grow hgr6)
        have HL_6 := Lib.hid (HL_5.out.grow hgr6)
        have HXA_6 := Lib.hid (HXA_5.out.grow hgr6)
        have HXB_6 := Lib.hid (HXB_5.out.grow hgr6)
        have HXC_6 := Lib.hid (HXC_5.out.grow hgr6)
        have GCH6 := Lib.hid (GCH5.out.trans hgr6)
        have hbx_6 := hgr6.blk HBX0_5.out
        clear em0 em1 em2 em3 em4 zm
        obtain ⟨em0, em1, em2, em3, em4⟩ := box5 hbx_6
        have zm := lt_of_block hbx_6
        have HBX0_6 := Lib.hid hbx_6
        clear hbx_6
        clear hg6 hgr6 HP_5 HL_5 HXA_5 HXB_5 HXC_5 GCH5 HBX0_5
        rw [HKK.out] at hx6_0
        have hyHXD_6 := hx6_0
        have HXD_6 := Lib.hid hyHXD_6
        obtain ⟨aHXD_6, cHXD_6, rfl, qHXD_61, qHXD_62, _⟩ := hyHXD_6
        clear hx6_0
        rw [HKE.out]
        go_wp2_with fail
        refine rsameE_any A A _ _ _ (by first | exact HXA_6.out | exact HXA_6.out.grow ((Grow.refl _).alloc _) | exact HXA_6.out.grow (((Grow.refl _).alloc _).alloc _) | exact HXA_6.out.grow ((((Grow.refl _).alloc _).alloc _).alloc _) | exact HXA_6.out.grow (((((Grow.refl _).alloc _).alloc _).alloc _).alloc _) | exact HXA_6.out.grow ((Grow.refl _).drewN _)) (by first | exact HXB_6.out | exact HXB_6.out.grow ((Grow.refl _).alloc _) | exact HXB_6.out.grow (((Grow.refl _).alloc _).alloc _) | exact HXB_6.out.grow ((((Grow.refl _).alloc _).alloc _).alloc _) | exact HXB_6.out.grow (((((Grow.refl _).alloc _).alloc _).alloc _).alloc _) | exact HXB_6.out.grow ((Grow.refl _).drewN _)) _ ?_
        intro wz7 hg7 
        have hgr7 : Grow wz6 wz7 := by first | exact hg7 | exact Grow.trans ((Grow.refl _).alloc _) hg7 | exact Grow.trans (((Grow.refl _).alloc _).alloc _) hg7 | exact Grow.trans ((((Grow.refl _).alloc _).alloc _).alloc _) hg7 | exact Grow.trans (((((Grow.refl _).alloc _).alloc _).alloc _).alloc _) hg7 | exact Grow.trans ((Grow.refl _).drewN _) hg7
        have HP_7 := Lib.hid (HP_6.out.grow hgr7)
        have HL_7 := Lib.hid (HL_6.out.grow hgr7)
        have HXA_7 := Lib.hid (HXA_6.out.grow hgr7)
        have HXB_7 := Lib.hid (HXB_6.out.grow hgr7)
        have HXC_7 := Lib.hid (HXC_6.out.grow hgr7)
        have HXD_7 := Lib.hid (HXD_6.out.grow hgr7)
        have GCH7 := Lib.hid (GCH6.out.trans hgr7)
        have hbx_7 := hgr7.blk HBX0_6.out
        clear em0 em1 em2 em3 em4 zm
        obtain ⟨em0, em1, em2, em3, em4⟩ := box5 hbx_7
        have zm := lt_of_block hbx_7
        have HBX0_7 := Lib.hid hbx_7
        clear hbx_7
        clear hg7 hgr7 HP_6 HL_6 HXA_6 HXB_6 HXC_6 HXD_6 GCH6 HBX0_6
        rw [show decide (A = A) = true from decide_eq_true rfl]
        go_wp2_with fail
        refine rsameI4_any K K _ _ _ (by first | exact HXC_7.out | exact HXC_7.out.grow ((Grow.refl _).alloc _) | exact HXC_7.out.grow (((Grow.refl _).alloc _).alloc _) | exact HXC_7.out.grow ((((Grow.refl _).alloc _).alloc _).alloc _) | exact HXC_7.out.grow (((((Grow.refl _).alloc _).alloc _).alloc _).alloc _) | exact HXC_7.out.grow ((Grow.refl _).drewN _)) (by first | exact HXD_7.out | exact HXD_7.out.grow ((Grow.refl _).alloc _) | exact HXD_7.out.grow (((Grow.refl _).alloc _).alloc _) | exact HXD_7.out.grow ((((Grow.refl _).alloc _).alloc _).alloc _) | exact HXD_7.out.grow (((((Grow.refl _).alloc _).alloc _).alloc _).alloc _) | exact HXD_7.out.grow ((Grow.refl _).drewN _)) _ ?_
        intro wz8 hg8 
        have hgr8 : Grow wz7 wz8 := by first | exact hg8 | exact Grow.trans ((Grow.refl _).alloc _) hg8 | exact Grow.trans (((Grow.refl _).alloc _).alloc _) hg8 | exact Grow.trans ((((Grow.refl _).alloc _).alloc _).alloc _) hg8 | exact Grow.trans (((((Grow.refl _).alloc _).alloc _).alloc _).alloc _) hg8 | exact Grow.trans ((Grow.refl _).drewN _) hg8
        have HP_8 := Lib.hid (HP_7.out.grow hgr8)
        have HL_8 := Lib.hid (HL_7.out.grow hgr8)
        have HXA_8 := Lib.hid (HXA_7.out.grow hgr8)
        have HXB_8 := Lib.hid (HXB_7.out.grow hgr8)
        have HXC_8 := Lib.hid (HXC_7.out.grow hgr8)
        have HXD_8 := Lib.hid (HXD_7.out.grow hgr8)
        have GCH8 := Lib.hid (GCH7.out.trans hgr8)
        have hbx_8 := hgr8.blk HBX0_7.out
        clear em0 em1 em2 em3 em4 zm
        obtain ⟨em0, em1, em2, em3, em4⟩ := box5 hbx_8
        have zm := lt_of_block hbx_8
        have HBX0_8 := Lib.hid hbx_8
        clear hbx_8
        clear hg8 hgr8 HP_7 HL_7 HXA_7 HXB_7 HXC_7 HXD_7 GCH7 HBX0_7
        rw [show decide (K = K) = true from decide_eq_true rfl]
        go_wp2_with fail
        refine ssame_any _ _ ?_
        intro wz9 hg9 
        have hgr9 : Grow wz8 wz9 := by first | exact hg9 | exact Grow.trans ((Grow.refl _).alloc _) hg9 | exact Grow.trans (((Grow.refl _).alloc _).alloc _) hg9 | exact Grow.trans ((((Grow.refl _).alloc _).alloc _).alloc _) hg9 | exact Grow.trans (((((Grow.refl _).alloc _).alloc _).alloc _).alloc _) hg9 | exact Grow.trans ((Grow.refl _).drewN _) hg9
        have HP_9 := Lib.hid (HP_8.out.grow hgr9)
        have HL_9 := Lib.hid (HL_8.out.grow hgr9)
        have HXA_9 := Lib.hid (HXA_8.out.grow hgr9)
        have HXB_9 := Lib.hid (HXB_8.out.grow hgr9)
        have HXC_9 := Lib.hid (HXC_8.out.grow hgr9)
        have HXD_9 := Lib.hid (HXD_8.out.grow hgr9)
        have GCH9 := Lib.hid (GCH8.out.trans hgr9)
        have hbx_9 := hgr9.blk HBX0_8.out
        clear em0 em1 em2 em3 em4 zm
        obtain ⟨em0, em1, em2, em3, em4⟩ := box5 hbx_9
        have zm := lt_of_block hbx_9
        have HBX0_9 := Lib.hid hbx_9
        clear hbx_9
        clear hg9 hgr9 HP_8 HL_8 HXA_8 HXB_8 HXC_8 HXD_8 GCH8 HBX0_8
        go_wp2_with fail
        first | exact HR.out _ (GCH9.out) | exact HR.out _ (Grow.trans GCH9.out ((Grow.refl _).alloc _)) | exact HR.out _ (Grow.trans GCH9.out (((Grow.refl _).alloc _).alloc _)) | exact HR.out _ (Grow.trans GCH9.out ((((Grow.refl _).alloc _).alloc _).alloc _)) | exact HR.out _ (Grow.trans GCH9.out (((((Grow.refl _).alloc _).alloc _).alloc _).alloc _)) | exact HR.out _ (Grow.trans GCH9.out ((Grow.refl _).drewN _))
      have HBK := Lib.hid (hbk h0)
      have HCX := Lib.hid (hcx h0)
      subst h0
      clear hbk hcx
      go_enter Tryz.func3, Tryz.ntmps3
      go_wp2_with fail
      obtain ⟨wb0, hwb0⟩ : ∃ W, w.alloc (.cells #[.int .i64 m0, .int .i64 m1, .int .i64 m2, .int .i64 m3, .int .i64 m4] 27) = W := ⟨_, rfl⟩
      rw [hwb0]
      have hgb0 : Grow w wb0 := hwb0 ▸ (Grow.refl w).alloc _
      have hsz0 : wb0.heap.size = w.heap.size + 1 := by rw [← hwb0, World.size_alloc]
      have hbb0 : wb0.heap[w.heap.size]? = some (.cells #[.int .i64 m0, .int .i64 m1, .int .i64 m2, .int .i64 m3, .int .i64 m4] 27 (0, 0)) := by have h := heap_alloc_new w (.cells #[.int .i64 m0, .int .i64 m1, .int .i64 m2, .int .i64 m3, .int .i64 m4] 27); rw [hwb0] at h; exact h
      clear hwb0
      have hgr1 : Grow w wb0 := by first | exact hgb0 | exact Grow.trans ((Grow.refl _).alloc _) hgb0 | exact Grow.trans (((Grow.refl _).alloc _).alloc _) hgb0 | exact Grow.trans ((((Grow.refl _).alloc _).alloc _).alloc _) hgb0 | exact Grow.trans (((((Grow.refl _).alloc _).alloc _).alloc _).alloc _) hgb0 | exact Grow.trans ((Grow.refl _).drewN _) hgb0
      have HP_1 := Lib.hid (HP_.out.grow hgr1)
      have HL_1 := Lib.hid (HL_.out.grow hgr1)
      have GCH1 := Lib.hid hgr1
      clear hgb0 hgr1 HP_ HL_
      obtain ⟨em0, em1, em2, em3, em4⟩ := box5 hbb0
      have zm := lt_of_block hbb0
      have HBB0 := Lib.hid hbb0
      clear hbb0
      clear hsz0
      refine long4_any p _ _ (by first | exact HP_1.out | exact HP_1.out.grow ((Grow.refl _).alloc _) | exact HP_1.out.grow (((Grow.refl _).alloc _).alloc _) | exact HP_1.out.grow ((((Grow.refl _).alloc _).alloc _).alloc _) | exact HP_1.out.grow (((((Grow.refl _).alloc _).alloc _).alloc _).alloc _) | exact HP_1.out.grow ((Grow.refl _).drewN _)) _ ?_
      rw [HD0.out]
      go_wp2_with fail
      refine many_any l _ _ (by first | exact HL_1.out | exact HL_1.out.grow ((Grow.refl _).alloc _) | exact HL_1.out.grow (((Grow.refl _).alloc _).alloc _) | exact HL_1.out.grow ((((Grow.refl _).alloc _).alloc _).alloc _) | exact HL_1.out.grow (((((Grow.refl _).alloc _).alloc _).alloc _).alloc _) | exact HL_1.out.grow ((Grow.refl _).drewN _)) _ ?_
      intro wz2 hg2 
      have hgr2 : Grow wb0 wz2 := by first | exact hg2 | exact Grow.trans ((Grow.refl _).alloc _) hg2 | exact Grow.trans (((Grow.refl _).alloc _).alloc _) hg2 | exact Grow.trans ((((Grow.refl _).alloc _).alloc _).alloc _) hg2 | exact Grow.trans (((((Grow.refl _).alloc _).alloc _).alloc _).alloc _) hg2 | exact Grow.trans ((Grow.refl _).drewN _) hg2
      have HP_2 := Lib.hid (HP_1.out.grow hgr2)
      have HL_2 := Lib.hid (HL_1.out.grow hgr2)
      have GCH2 := Lib.hid (GCH1.out.trans hgr2)
      have hbx_2 := hgr2.blk HBB0.out
      clear em0 em1 em2 em3 em4 zm
      obtain ⟨em0, em1, em2, em3, em4⟩ := box5 hbx_2
      have zm := lt_of_block hbx_2
      have HBX0_2 := Lib.hid hbx_2
      clear hbx_2
      clear hg2 hgr2 HP_1 HL_1 GCH1 HBB0
      rw [HMB.out]
      go_wp2_with fail
      refine Mutants_any p _ _ (by first | exact HP_2.out | exact HP_2.out.grow ((Grow.refl _).alloc _) | exact HP_2.out.grow (((Grow.refl _).alloc _).alloc _) | exact HP_2.out.grow ((((Grow.refl _).alloc _).alloc _).alloc _) | exact HP_2.out.grow (((((Grow.refl _).alloc _).alloc _).alloc _).alloc _) | exact HP_2.out.grow ((Grow.refl _).drewN _)) _ ?_
      intro wz3 x3_0 hg3 hx3_0
      have hgr3 : Grow wz2 wz3 := by first | exact hg3 | exact Grow.trans ((Grow.refl _).alloc _) hg3 | exact Grow.trans (((Grow.refl _).alloc _).alloc _) hg3 | exact Grow.trans ((((Grow.refl _).alloc _).alloc _).alloc _) hg3 | exact Grow.trans (((((Grow.refl _).alloc _).alloc _).alloc _).alloc _) hg3 | exact Grow.trans ((Grow.refl _).drewN _) hg3
      have HP_3 := Lib.hid (HP_2.out.grow hgr3)
      have HL_3 := Lib.hid (HL_2.out.grow hgr3)
      have GCH3 := Lib.hid (GCH2.out.trans hgr3)
      have hbx_3 := hgr3.blk HBX0_2.out
      clear em0 em1 em2 em3 em4 zm
      obtain ⟨em0, em1, em2, em3, em4⟩ := box5 hbx_3
      have zm := lt_of_block hbx_3
      have HBX0_3 := Lib.hid hbx_3
      clear hbx_3
      clear hg3 hgr3 HP_2 HL_2 GCH2 HBX0_2
      rw [HAA.out] at hx3_0
      have hyHXA_3 := hx3_0
      have HXA_3 := Lib.hid hyHXA_3
      obtain ⟨aHXA_3, cHXA_3, rfl, qHXA_31, qHXA_32, _⟩ := hyHXA_3
      clear hx3_0
      rw [HE.out]
      go_wp2_with fail
      refine r5Mutants_any p _ _ (by first | exact HP_3.out | exact HP_3.out.grow ((Grow.refl _).alloc _) | exact HP_3.out.grow (((Grow.refl _).alloc _).alloc _) | exact HP_3.out.grow ((((Grow.refl _).alloc _).alloc _).alloc _) | exact HP_3.out.grow (((((Grow.refl _).alloc _).alloc _).alloc _).alloc _) | exact HP_3.out.grow ((Grow.refl _).drewN _)) _ ?_
      intro wz4 x4_0 hg4 hx4_0
      have hgr4 : Grow wz3 wz4 := by first | exact hg4 | exact Grow.trans ((Grow.refl _).alloc _) hg4 | exact Grow.trans (((Grow.refl _).alloc _).alloc _) hg4 | exact Grow.trans ((((Grow.refl _).alloc _).alloc _).alloc _) hg4 | exact Grow.trans (((((Grow.refl _).alloc _).alloc _).alloc _).alloc _) hg4 | exact Grow.trans ((Grow.refl _).drewN _) hg4
      have HP_4 := Lib.hid (HP_3.out.grow hgr4)
      have HL_4 := Lib.hid (HL_3.out.grow hgr4)
      have HXA_4 := Lib.hid (HXA_3.out.grow hgr4)
      have GCH4 := Lib.hid (GCH3.out.trans hgr4)
      have hbx_4 := hgr4.blk HBX0_3.out
      clear em0 em1 em2 em3 em4 zm
      obtain ⟨em0, em1, em2, em3, em4⟩ := box5 hbx_4
      have zm := lt_of_block hbx_4
      have HBX0_4 := Lib.hid hbx_4
      clear hbx_4
      clear hg4 hgr4 HP_3 HL_3 HXA_3 GCH3 HBX0_3
      rw [HAA.out] at hx4_0
      have hyHXB_4 := hx4_0
      have HXB_4 := Lib.hid hyHXB_4
      obtain ⟨aHXB_4, cHXB_4, rfl, qHXB_41, qHXB_42, _⟩ := hyHXB_4
      clear hx4_0
      rw [HE.out]
      go_wp2_with fail
      refine Kills_any p l m0 m1 m2 m3 m4 _ _ _ (by first | exact HP_4.out | exact HP_4.out.grow ((Grow.refl _).alloc _) | exact HP_4.out.grow (((Grow.refl _).alloc _).alloc _) | exact HP_4.out.grow ((((Grow.refl _).alloc _).alloc _).alloc _) | exact HP_4.out.grow (((((Grow.refl _).alloc _).alloc _).alloc _).alloc _) | exact HP_4.out.grow ((Grow.refl _).drewN _)) (by first | exact HL_4.out | exact HL_4.out.grow ((Grow.refl _).alloc _) | exact HL_4.out.grow (((Grow.refl _).alloc _).alloc _) | exact HL_4.out.grow ((((Grow.refl _).alloc _).alloc _).alloc _) | exact HL_4.out.grow (((((Grow.refl _).alloc _).alloc _).alloc _).alloc _) | exact HL_4.out.grow ((Grow.refl _).drewN _)) _ ?_
      intro wz5 x5_0 hg5 hx5_0
      have hgr5 : Grow wz4 wz5 := by first | exact hg5 | exact Grow.trans ((Grow.refl _).alloc _) hg5 | exact Grow.trans (((Grow.refl _).alloc _).alloc _) hg5 | exact Grow.trans ((((Grow.refl _).alloc _).alloc _).alloc _) hg5 | exact Grow.trans (((((Grow.refl _).alloc _).alloc _).alloc _).alloc _) hg5 | exact Grow.trans ((Grow.refl _).drewN _) hg5
      have HP_5 := Lib.hid (HP_4.out.grow hgr5)
      have HL_5 := Lib.hid (HL_4.out.grow hgr5)
      have HXA_5 := Lib.hid (HXA_4.out.grow hgr5)
      have HXB_5 := Lib.hid (HXB_4.out.grow hgr5)
      have GCH5 := Lib.hid (GCH4.out.trans hgr5)
      have hbx_5 := hgr5.blk HBX0_4.out
      clear em0 em1 em2 em3 em4 zm
      obtain ⟨em0, em1, em2, em3, em4⟩ := box5 hbx_5
      have zm := lt_of_block hbx_5
      have HBX0_5 := Lib.hid hbx_5
      clear hbx_5
      clear hg5 hgr5 HP_4 HL_4 HXA_4 HXB_4 GCH4 HBX0_4
      rw [HKK.out] at hx5_0
      have hyHXC_5 := hx5_0
      have HXC_5 := Lib.hid hyHXC_5
      obtain ⟨aHXC_5, cHXC_5, rfl, qHXC_51, qHXC_52, _⟩ := hyHXC_5
      clear hx5_0
      rw [HKE.out]
      go_wp2_with fail
      refine r5Kills_any p l m0 m1 m2 m3 m4 _ _ _ (by first | exact HP_5.out | exact HP_5.out.grow ((Grow.refl _).alloc _) | exact HP_5.out.grow (((Grow.refl _).alloc _).alloc _) | exact HP_5.out.grow ((((Grow.refl _).alloc _).alloc _).alloc _) | exact HP_5.out.grow (((((Grow.refl _).alloc _).alloc _).alloc _).alloc _) | exact HP_5.out.grow ((Grow.refl _).drewN _)) (by first | exact HL_5.out | exact HL_5.out.grow ((Grow.refl _).alloc _) | exact HL_5.out.grow (((Grow.refl _).alloc _).alloc _) | exact HL_5.out.grow ((((Grow.refl _).alloc _).alloc _).alloc _) | exact HL_5.out.grow (((((Grow.refl _).alloc _).alloc _).alloc _).alloc _) | exact HL_5.out.grow ((Grow.refl _).drewN _)) _ ?_
      intro wz6 x6_0 hg6 hx6_0
      have hgr6 : Grow wz5 wz6 := by first | exact hg6 | exact Grow.trans ((Grow.refl _).alloc _) hg6 | exact Grow.trans (((Grow.refl _).alloc _).alloc _) hg6 | exact Grow.trans ((((Grow.refl _).alloc _).alloc _).alloc _) hg6 | exact Grow.trans (((((Grow.refl _).alloc _).alloc _).alloc _).alloc _) hg6 | exact Grow.trans ((Grow.refl _).drewN _) hg6
      have HP_6 := Lib.hid (HP_5.out.grow hgr6)
      have HL_6 := Lib.hid (HL_5.out.grow hgr6)
      have HXA_6 := Lib.hid (HXA_5.out.grow hgr6)
      have HXB_6 := Lib.hid (HXB_5.out.grow hgr6)
      have HXC_6 := Lib.hid (HXC_5.out.grow hgr6)
      have GCH6 := Lib.hid (GCH5.out.trans hgr6)
      have hbx_6 := hgr6.blk HBX0_5.out
      clear em0 em1 em2 em3 em4 zm
      obtain ⟨em0, em1, em2, em3, em4⟩ := box5 hbx_6
      have zm := lt_of_block hbx_6
      have HBX0_6 := Lib.hid hbx_6
      clear hbx_6
      clear hg6 hgr6 HP_5 HL_5 HXA_5 HXB_5 HXC_5 GCH5 HBX0_5
      rw [HKK.out] at hx6_0
      have hyHXD_6 := hx6_0
      have HXD_6 := Lib.hid hyHXD_6
      obtain ⟨aHXD_6, cHXD_6, rfl, qHXD_61, qHXD_62, _⟩ := hyHXD_6
      clear hx6_0
      rw [HKE.out]
      go_wp2_with fail
      refine rsameE_any A A _ _ _ (by first | exact HXA_6.out | exact HXA_6.out.grow ((Grow.refl _).alloc _) | exact HXA_6.out.grow (((Grow.refl _).alloc _).alloc _) | exact HXA_6.out.grow ((((Grow.refl _).alloc _).alloc _).alloc _) | exact HXA_6.out.grow (((((Grow.refl _).alloc _).alloc _).alloc _).alloc _) | exact HXA_6.out.grow ((Grow.refl _).drewN _)) (by first | exact HXB_6.out | exact HXB_6.out.grow ((Grow.refl _).alloc _) | exact HXB_6.out.grow (((Grow.refl _).alloc _).alloc _) | exact HXB_6.out.grow ((((Grow.refl _).alloc _).alloc _).alloc _) | exact HXB_6.out.grow (((((Grow.refl _).alloc _).alloc _).alloc _).alloc _) | exact HXB_6.out.grow ((Grow.refl _).drewN _)) _ ?_
      intro wz7 hg7 
      have hgr7 : Grow wz6 wz7 := by first | exact hg7 | exact Grow.trans ((Grow.refl _).alloc _) hg7 | exact Grow.trans (((Grow.refl _).alloc _).alloc _) hg7 | exact Grow.trans ((((Grow.refl _).alloc _).alloc _).alloc _) hg7 | exact Grow.trans (((((Grow.refl _).alloc _).alloc _).alloc _).alloc _) hg7 | exact Grow.trans ((Grow.refl _).drewN _) hg7
      have HP_7 := Lib.hid (HP_6.out.grow hgr7)
      have HL_7 := Lib.hid (HL_6.out.grow hgr7)
      have HXA_7 := Lib.hid (HXA_6.out.grow hgr7)
      have HXB_7 := Lib.hid (HXB_6.out.grow hgr7)
      have HXC_7 := Lib.hid (HXC_6.out.grow hgr7)
      have HXD_7 := Lib.hid (HXD_6.out.grow hgr7)
      have GCH7 := Lib.hid (GCH6.out.trans hgr7)
      have hbx_7 := hgr7.blk HBX0_6.out
      clear em0 em1 em2 em3 em4 zm
      obtain ⟨em0, em1, em2, em3, em4⟩ := box5 hbx_7
      have zm := lt_of_block hbx_7
      have HBX0_7 := Lib.hid hbx_7
      clear hbx_7
      clear hg7 hgr7 HP_6 HL_6 HXA_6 HXB_6 HXC_6 HXD_6 GCH6 HBX0_6
      rw [show decide (A = A) = true from decide_eq_true rfl]
      go_wp2_with fail
      refine rsameI4_any K K _ _ _ (by first | exact HXC_7.out | exact HXC_7.out.grow ((Grow.refl _).alloc _) | exact HXC_7.out.grow (((Grow.refl _).alloc _).alloc _) | exact HXC_7.out.grow ((((Grow.refl _).alloc _).alloc _).alloc _) | exact HXC_7.out.grow (((((Grow.refl _).alloc _).alloc _).alloc _).alloc _) | exact HXC_7.out.grow ((Grow.refl _).drewN _)) (by first | exact HXD_7.out | exact HXD_7.out.grow ((Grow.refl _).alloc _) | exact HXD_7.out.grow (((Grow.refl _).alloc _).alloc _) | exact HXD_7.out.grow ((((Grow.refl _).alloc _).alloc _).alloc _) | exact HXD_7.out.grow (((((Grow.refl _).alloc _).alloc _).alloc _).alloc _) | exact HXD_7.out.grow ((Grow.refl _).drewN _)) _ ?_
      intro wz8 hg8 
      have hgr8 : Grow wz7 wz8 := by first | exact hg8 | exact Grow.trans ((Grow.refl _).alloc _) hg8 | exact Grow.trans (((Grow.refl _).alloc _).alloc _) hg8 | exact Grow.trans ((((Grow.refl _).alloc _).alloc _).alloc _) hg8 | exact Grow.trans (((((Grow.refl _).alloc _).alloc _).alloc _).alloc _) hg8 | exact Grow.trans ((Grow.refl _).drewN _) hg8
      have HP_8 := Lib.hid (HP_7.out.grow hgr8)
      have HL_8 := Lib.hid (HL_7.out.grow hgr8)
      have HXA_8 := Lib.hid (HXA_7.out.grow hgr8)
      have HXB_8 := Lib.hid (HXB_7.out.grow hgr8)
      have HXC_8 := Lib.hid (HXC_7.out.grow hgr8)
      have HXD_8 := Lib.hid (HXD_7.out.grow hgr8)
      have GCH8 := Lib.hid (GCH7.out.trans hgr8)
      have hbx_8 := hgr8.blk HBX0_7.out
      clear em0 em1 em2 em3 em4 zm
      obtain ⟨em0, em1, em2, em3, em4⟩ := box5 hbx_8
      have zm := lt_of_block hbx_8
      have HBX0_8 := Lib.hid hbx_8
      clear hbx_8
      clear hg8 hgr8 HP_7 HL_7 HXA_7 HXB_7 HXC_7 HXD_7 GCH7 HBX0_7
      rw [show decide (K = K) = true from decide_eq_true rfl]
      go_wp2_with fail
      refine Breaks_any p [⟨m0, ⟨m1, m2, m3, m4⟩⟩] l _ _ _ _ (by first | exact HP_8.out | exact HP_8.out.grow ((Grow.refl _).alloc _) | exact HP_8.out.grow (((Grow.refl _).alloc _).alloc _) | exact HP_8.out.grow ((((Grow.refl _).alloc _).alloc _).alloc _) | exact HP_8.out.grow (((((Grow.refl _).alloc _).alloc _).alloc _).alloc _) | exact HP_8.out.grow ((Grow.refl _).drewN _)) (edits_lit _ _ _ _ _ _ _) (by first | exact HL_8.out | exact HL_8.out.grow ((Grow.refl _).alloc _) | exact HL_8.out.grow (((Grow.refl _).alloc _).alloc _) | exact HL_8.out.grow ((((Grow.refl _).alloc _).alloc _).alloc _) | exact HL_8.out.grow (((((Grow.refl _).alloc _).alloc _).alloc _).alloc _) | exact HL_8.out.grow ((Grow.refl _).drewN _)) _ ?_
      intro wz9 x9_0 hg9 hx9_0
      have hgr9 : Grow wz8 wz9 := by first | exact hg9 | exact Grow.trans ((Grow.refl _).alloc _) hg9 | exact Grow.trans (((Grow.refl _).alloc _).alloc _) hg9 | exact Grow.trans ((((Grow.refl _).alloc _).alloc _).alloc _) hg9 | exact Grow.trans (((((Grow.refl _).alloc _).alloc _).alloc _).alloc _) hg9 | exact Grow.trans ((Grow.refl _).drewN _) hg9
      have HP_9 := Lib.hid (HP_8.out.grow hgr9)
      have HL_9 := Lib.hid (HL_8.out.grow hgr9)
      have HXA_9 := Lib.hid (HXA_8.out.grow hgr9)
      have HXB_9 := Lib.hid (HXB_8.out.grow hgr9)
      have HXC_9 := Lib.hid (HXC_8.out.grow hgr9)
      have HXD_9 := Lib.hid (HXD_8.out.grow hgr9)
      have GCH9 := Lib.hid (GCH8.out.trans hgr9)
      have hbx_9 := hgr9.blk HBX0_8.out
      clear em0 em1 em2 em3 em4 zm
      obtain ⟨em0, em1, em2, em3, em4⟩ := box5 hbx_9
      have zm := lt_of_block hbx_9
      have HBX0_9 := Lib.hid hbx_9
      clear hbx_9
      clear hg9 hgr9 HP_8 HL_8 HXA_8 HXB_8 HXC_8 HXD_8 GCH8 HBX0_8
      rw [HBK.out] at hx9_0
      have hyHXE_9 := hx9_0
      have HXE_9 := Lib.hid hyHXE_9
      obtain ⟨aHXE_9, cHXE_9, rfl, qHXE_91, qHXE_92, _⟩ := hyHXE_9
      clear hx9_0
      rw [HCX.out]
      go_wp2_with fail
      refine rsameI4_any K K _ _ _ (by first | exact HXE_9.out | exact HXE_9.out.grow ((Grow.refl _).alloc _) | exact HXE_9.out.grow (((Grow.refl _).alloc _).alloc _) | exact HXE_9.out.grow ((((Grow.refl _).alloc _).alloc _).alloc _) | exact HXE_9.out.grow (((((Grow.refl _).alloc _).alloc _).alloc _).alloc _) | exact HXE_9.out.grow ((Grow.refl _).drewN _)) (by first | exact HXC_9.out | exact HXC_9.out.grow ((Grow.refl _).alloc _) | exact HXC_9.out.grow (((Grow.refl _).alloc _).alloc _) | exact HXC_9.out.grow ((((Grow.refl _).alloc _).alloc _).alloc _) | exact HXC_9.out.grow (((((Grow.refl _).alloc _).alloc _).alloc _).alloc _) | exact HXC_9.out.grow ((Grow.refl _).drewN _)) _ ?_
      intro wz10 hg10 
      have hgr10 : Grow wz9 wz10 := by first | exact hg10 | exact Grow.trans ((Grow.refl _).alloc _) hg10 | exact Grow.trans (((Grow.refl _).alloc _).alloc _) hg10 | exact Grow.trans ((((Grow.refl _).alloc _).alloc _).alloc _) hg10 | exact Grow.trans (((((Grow.refl _).alloc _).alloc _).alloc _).alloc _) hg10 | exact Grow.trans ((Grow.refl _).drewN _) hg10
      have HP_10 := Lib.hid (HP_9.out.grow hgr10)
      have HL_10 := Lib.hid (HL_9.out.grow hgr10)
      have HXA_10 := Lib.hid (HXA_9.out.grow hgr10)
      have HXB_10 := Lib.hid (HXB_9.out.grow hgr10)
      have HXC_10 := Lib.hid (HXC_9.out.grow hgr10)
      have HXD_10 := Lib.hid (HXD_9.out.grow hgr10)
      have HXE_10 := Lib.hid (HXE_9.out.grow hgr10)
      have GCH10 := Lib.hid (GCH9.out.trans hgr10)
      have hbx_10 := hgr10.blk HBX0_9.out
      clear em0 em1 em2 em3 em4 zm
      obtain ⟨em0, em1, em2, em3, em4⟩ := box5 hbx_10
      have zm := lt_of_block hbx_10
      have HBX0_10 := Lib.hid hbx_10
      clear hbx_10
      clear hg10 hgr10 HP_9 HL_9 HXA_9 HXB_9 HXC_9 HXD_9 HXE_9 GCH9 HBX0_9
      rw [show decide (K = K) = true from decide_eq_true rfl]
      go_wp2_with fail
      refine ssame_any _ _ ?_
      intro wz11 hg11 
      have hgr11 : Grow wz10 wz11 := by first | exact hg11 | exact Grow.trans ((Grow.refl _).alloc _) hg11 | exact Grow.trans (((Grow.refl _).alloc _).alloc _) hg11 | exact Grow.trans ((((Grow.refl _).alloc _).alloc _).alloc _) hg11 | exact Grow.trans (((((Grow.refl _).alloc _).alloc _).alloc _).alloc _) hg11 | exact Grow.trans ((Grow.refl _).drewN _) hg11
      have HP_11 := Lib.hid (HP_10.out.grow hgr11)
      have HL_11 := Lib.hid (HL_10.out.grow hgr11)
      have HXA_11 := Lib.hid (HXA_10.out.grow hgr11)
      have HXB_11 := Lib.hid (HXB_10.out.grow hgr11)
      have HXC_11 := Lib.hid (HXC_10.out.grow hgr11)
      have HXD_11 := Lib.hid (HXD_10.out.grow hgr11)
      have HXE_11 := Lib.hid (HXE_10.out.grow hgr11)
      have GCH11 := Lib.hid (GCH10.out.trans hgr11)
      have hbx_11 := hgr11.blk HBX0_10.out
      clear em0 em1 em2 em3 em4 zm
      obtain ⟨em0, em1, em2, em3, em4⟩ := box5 hbx_11
      have zm := lt_of_block hbx_11
      have HBX0_11 := Lib.hid hbx_11
      clear hbx_11
      clear hg11 hgr11 HP_10 HL_10 HXA_10 HXB_10 HXC_10 HXD_10 HXE_10 GCH10 HBX0_10
      go_wp2_with fail
      first | exact HR.out _ (GCH11.out) | exact HR.out _ (Grow.trans GCH11.out ((Grow.refl _).alloc _)) | exact HR.out _ (Grow.trans GCH11.out (((Grow.refl _).alloc _).alloc _)) | exact HR.out _ (Grow.trans GCH11.out ((((Grow.refl _).alloc _).alloc _).alloc _)) | exact HR.out _ (Grow.trans GCH11.out (((((Grow.refl _).alloc _).alloc _).alloc _).alloc _)) | exact HR.out _ (Grow.trans GCH11.out ((Grow.refl _).drewN _))
end Go.Proofs.YtbccbokjecdaaaaGreat

namespace Go.Proofs.YtbccbokjecdaaaaGreat
open Go.ChangeShapes Go.WideShapes Go.ChangeAt Go.RowKit

theorem Tryz.own : ownKnob Tryz.prog.godebug = none := by kernel_rfl
theorem Tryz.laidOut : laidOutB Tryz.prog = true := by kernel_rfl

set_option maxRecDepth 100000 in
set_option maxHeartbeats 4000000 in
theorem seekMutants_lifted (os : Os) (started : os.Started) (H : Type) (enc : TypeId × Value → H) :
    ReturnsInHanded {} Tryz.checked os 3 .any (Rows.seekMutantsSpec.pre6 enc Tryz.prog Tryz.f3 Rows.seekMutantsRow.domain false) (Rows.seekMutantsSpec.post enc Tryz.prog Tryz.f3 false true false false) := by
  refine returnsInHanded_of_change (C := Tryz.checked) Tryz.own started (by kernel_rfl) Tryz.func3
    (ChangeSpec.witness6 (enc := enc) (C := Tryz.checked) false ⟨#[], #[.slice none 0 0, .slice none 0 0, .agg #[.int .i64 0, .int .i64 0, .int .i64 0, .int .i64 0, .int .i64 0]], []⟩ 8 (by kernel_rfl) (by kernel_rfl) (by kernel_rfl) (by kernel_rfl)) ?_
  intro W base args ds gs before hval0 hW hcnd _
  have hval : ∀ (j : Nat) t v, Tryz.f3.params[j]? = some t → args[j]? = some v → Value.okWide Tryz.prog W .any base t v := hval0
  have hW' := hW
  obtain ⟨p, q, hA0, hV, rfl, hfz, hnd⟩ := hW
  have hA : DataW.TrodAll enc Tryz.prog W 0 (fun _ => true) true Tryz.f3.params.toList args.toList ds p := hA0
  rw [Tryz.params3] at hA hval
  obtain ⟨v0, v1, v2, d0, d1, d2, p0, p1, p2, rfl, rfl, rfl, h0, h1, h2⟩ := trodAll_three hA
  obtain ⟨rfl, rfl⟩ := trodVars_none hV
  have hk0 := h0
  have hk1 := h1
  have hk2 := h2
  obtain ⟨x0, hx0⟩ := arg_lines (hval 0 22 v0 rfl rfl) h0
  obtain ⟨x1, hx1⟩ := arg_tests (hval 1 23 v1 rfl rfl) h1
  obtain ⟨x20, x21, x22, x23, x24, rfl⟩ := arg_edit (hval 2 27 v2 rfl rfl) h2
  clear hA0 hval0
  refine Calls.mono (seekMutants_any x0 x1 x20 x21 x22 x23 x24 W v0 v1 hx0 hx1 (fun e W' => e = .returned (.bool true) ∧ Grow W W') (fun W' hg => ⟨rfl, hg⟩)) fun e W' ⟨he, hB⟩ => ?_
  subst he
  have hlt0 : ∀ x ∈ p0, x.block < W.heap.size := fun x hx => hW'.lt x (List.mem_append_left _ (List.mem_append_left _ (List.mem_append_left _ (hx))))
  have ht0 := Below.trod Tryz.laidOut (by kernel_rfl) (of_decide_eq_true (by kernel_rfl)) hk0 hB hlt0
  have hlt1 : ∀ x ∈ p1, x.block < W.heap.size := fun x hx => hW'.lt x (List.mem_append_left _ (List.mem_append_left _ (List.mem_append_right _ hx)))
  have ht1 := Below.trod Tryz.laidOut (by kernel_rfl) (of_decide_eq_true (by kernel_rfl)) hk1 hB hlt1
  have hlt2 : ∀ x ∈ p2, x.block < W.heap.size := fun x hx => hW'.lt x (List.mem_append_left _ (List.mem_append_right _ hx))
  have ht2 := Below.trod Tryz.laidOut (by kernel_rfl) (of_decide_eq_true (by kernel_rfl)) hk2 hB hlt2
  exact ⟨_, rfl, _, _, _, [], _, [], hW', trodAll_mk1 (shut_bool Tryz.underlying4 true), trodAll_mk3 ht0 ht1 ht2, rfl, hB.frame _, fun h => by cases h⟩

theorem seekMutants_holds : Rows.SeekMutantsSaid :=
  OpenClaim.holds_of_wide 3 Tryz.f3 rfl rfl rfl rfl rfl rfl rfl ⟨rfl, rfl, rfl, rfl, rfl⟩ rfl rfl rfl rfl rfl (by kernel_rfl) Tryz.func3 (by kernel_rfl)
    (of_decide_eq_true (by kernel_rfl)) (by unfold Func.isWrapper; first | (rw [if_pos (by decide +kernel)]; kernel_rfl) | (rw [if_neg (by decide +kernel)]; exact ⟨rfl, rfl⟩))
    (fun os started H enc _ => seekMutants_lifted os started H enc)

end Go.Proofs.YtbccbokjecdaaaaGreat
