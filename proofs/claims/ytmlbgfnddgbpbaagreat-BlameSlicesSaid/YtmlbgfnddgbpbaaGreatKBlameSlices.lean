/-
The statement BlameSlices: the slices of failing tests, and the smallest sets of lines that hit them, are what the document says, for all programs and tests. No condition.
-/
import Derived.Test.YtmlbgfnddgbpbaaGreatD19
import Derived.Test.YtmlbgfnddgbpbaaGreatD30
import Derived.Test.YtmlbgfnddgbpbaaGreatD28
import Derived.ProofKit
import Derived.Lib.SmallJoins
import Derived.Test.YtmlbgfnddgbpbaaGreatD23
namespace Go.Proofs.YtmlbgfnddgbpbaaGreat
open Go.RowKit
open Mk Bm

set_option maxRecDepth 100000 in
set_option maxHeartbeats 16000000 in
theorem blameSlices_any (p : List Ln) (l : List Tst) (w : World) (vp vl : Value) (hp : LinesAt w vp p) (hl : TestsAt w vl l) (R : Ending → World → Prop) (hR : ∀ w', Grow w w' → R (.returned (.bool true)) w') :
    Calls Tryz.prog 15 #[vp, vl] w R := by
  have HR := Lib.hid hR
  have HP_ := Lib.hid hp
  obtain ⟨adp, cpp, rfl, qp1, qp2, _⟩ := hp
  have HL_ := Lib.hid hl
  obtain ⟨⟨adl, cpl, rfl, ql1, ql2, _⟩, _⟩ := hl
  clear hR
  obtain ⟨gq0, hgq0⟩ : ∃ z, decide (100 < p.length) = z := ⟨_, rfl⟩
  have HGD0 := Lib.hid hgq0
  clear hgq0
  cases gq0 with
  | true =>
    go_enter Tryz.func15, Tryz.ntmps15
    go_wp2_with fail
    refine long1_any p _ _ (by first | exact HP_.out | exact HP_.out.grow ((Grow.refl _).alloc _) | exact HP_.out.grow (((Grow.refl _).alloc _).alloc _) | exact HP_.out.grow ((((Grow.refl _).alloc _).alloc _).alloc _) | exact HP_.out.grow (((((Grow.refl _).alloc _).alloc _).alloc _).alloc _) | exact HP_.out.grow ((Grow.refl _).drewN _)) _ ?_
    rw [HGD0.out]
    go_wp2_with fail
    refine known3_any _ _ ?_
    intro wz1 hg1 
    have hgr1 : Grow w wz1 := by first | exact hg1 | exact Grow.trans ((Grow.refl _).alloc _) hg1 | exact Grow.trans (((Grow.refl _).alloc _).alloc _) hg1 | exact Grow.trans ((((Grow.refl _).alloc _).alloc _).alloc _) hg1 | exact Grow.trans (((((Grow.refl _).alloc _).alloc _).alloc _).alloc _) hg1 | exact Grow.trans ((Grow.refl _).drewN _) hg1
    have HP_1 := Lib.hid (HP_.out.grow hgr1)
    have HL_1 := Lib.hid (HL_.out.grow hgr1)
    have GCH1 := Lib.hid hgr1
    clear hg1 hgr1 HP_ HL_
    go_wp2_with fail
    first | exact HR.out _ (GCH1.out) | exact HR.out _ (Grow.trans GCH1.out ((Grow.refl _).alloc _)) | exact HR.out _ (Grow.trans GCH1.out (((Grow.refl _).alloc _).alloc _)) | exact HR.out _ (Grow.trans GCH1.out ((((Grow.refl _).alloc _).alloc _).alloc _)) | exact HR.out _ (Grow.trans GCH1.out (((((Grow.refl _).alloc _).alloc _).alloc _).alloc _)) | exact HR.out _ (Grow.trans GCH1.out ((Grow.refl _).drewN _))
  | false =>
    obtain ⟨gq1, hgq1⟩ : ∃ z, manyT l = z := ⟨_, rfl⟩
    have HGD1 := Lib.hid hgq1
    clear hgq1
    cases gq1 with
    | true =>
      go_enter Tryz.func15, Tryz.ntmps15
      go_wp2_with fail
      refine long1_any p _ _ (by first | exact HP_.out | exact HP_.out.grow ((Grow.refl _).alloc _) | exact HP_.out.grow (((Grow.refl _).alloc _).alloc _) | exact HP_.out.grow ((((Grow.refl _).alloc _).alloc _).alloc _) | exact HP_.out.grow (((((Grow.refl _).alloc _).alloc _).alloc _).alloc _) | exact HP_.out.grow ((Grow.refl _).drewN _)) _ ?_
      rw [HGD0.out]
      go_wp2_with fail
      refine manyT_any l _ _ (by first | exact HL_.out | exact HL_.out.grow ((Grow.refl _).alloc _) | exact HL_.out.grow (((Grow.refl _).alloc _).alloc _) | exact HL_.out.grow ((((Grow.refl _).alloc _).alloc _).alloc _) | exact HL_.out.grow (((((Grow.refl _).alloc _).alloc _).alloc _).alloc _) | exact HL_.out.grow ((Grow.refl _).drewN _)) _ ?_
      intro wz1 hg1 
      have hgr1 : Grow w wz1 := by first | exact hg1 | exact Grow.trans ((Grow.refl _).alloc _) hg1 | exact Grow.trans (((Grow.refl _).alloc _).alloc _) hg1 | exact Grow.trans ((((Grow.refl _).alloc _).alloc _).alloc _) hg1 | exact Grow.trans (((((Grow.refl _).alloc _).alloc _).alloc _).alloc _) hg1 | exact Grow.trans ((Grow.refl _).drewN _) hg1
      have HP_1 := Lib.hid (HP_.out.grow hgr1)
      have HL_1 := Lib.hid (HL_.out.grow hgr1)
      have GCH1 := Lib.hid hgr1
      clear hg1 hgr1 HP_ HL_
      rw [HGD1.out]
      go_wp2_with fail
      refine known3_any _ _ ?_
      intro wz2 hg2 
      have hgr2 : Grow wz1 wz2 := by first | exact hg2 | exact Grow.trans ((Grow.refl _).alloc _) hg2 | exact Grow.trans (((Grow.refl _).alloc _).alloc _) hg2 | exact Grow.trans ((((Grow.refl _).alloc _).alloc _).alloc _) hg2 | exact Grow.trans (((((Grow.refl _).alloc _).alloc _).alloc _).alloc _) hg2 | exact Grow.trans ((Grow.refl _).drewN _) hg2
      have HP_2 := Lib.hid (HP_1.out.grow hgr2)
      have HL_2 := Lib.hid (HL_1.out.grow hgr2)
      have GCH2 := Lib.hid (GCH1.out.trans hgr2)
      clear hg2 hgr2 HP_1 HL_1 GCH1
      go_wp2_with fail
      first | exact HR.out _ (GCH2.out) | exact HR.out _ (Grow.trans GCH2.out ((Grow.refl _).alloc _)) | exact HR.out _ (Grow.trans GCH2.out (((Grow.refl _).alloc _).alloc _)) | exact HR.out _ (Grow.trans GCH2.out ((((Grow.refl _).alloc _).alloc _).alloc _)) | exact HR.out _ (Grow.trans GCH2.out (((((Grow.refl _).alloc _).alloc _).alloc _).alloc _)) | exact HR.out _ (Grow.trans GCH2.out ((Grow.refl _).drewN _))
    | false =>
      obtain ⟨e, he⟩ : ∃ z, chkT p l = z := ⟨_, rfl⟩
      have HE := Lib.hid he
      obtain ⟨A, hA⟩ : ∃ z, slcO p l = z := ⟨_, rfl⟩
      have HA := Lib.hid hA
      obtain ⟨C, hC⟩ : ∃ z, dgO p l = z := ⟨_, rfl⟩
      have HC := Lib.hid hC
      have t2 : (e != e) = false := by simp
      by_cases h0 : e = 0
      rotate_left
      · have t1 : (e != 0) = true := by simpa using h0
        clear h0 he hA hC
        go_enter Tryz.func15, Tryz.ntmps15
        go_wp2_with fail
        refine long1_any p _ _ (by first | exact HP_.out | exact HP_.out.grow ((Grow.refl _).alloc _) | exact HP_.out.grow (((Grow.refl _).alloc _).alloc _) | exact HP_.out.grow ((((Grow.refl _).alloc _).alloc _).alloc _) | exact HP_.out.grow (((((Grow.refl _).alloc _).alloc _).alloc _).alloc _) | exact HP_.out.grow ((Grow.refl _).drewN _)) _ ?_
        rw [HGD0.out]
        go_wp2_with fail
        refine manyT_any l _ _ (by first | exact HL_.out | exact HL_.out.grow ((Grow.refl _).alloc _) | exact HL_.out.grow (((Grow.refl _).alloc _).alloc _) | exact HL_.out.grow ((((Grow.refl _).alloc _).alloc _).alloc _) | exact HL_.out.grow (((((Grow.refl _).alloc _).alloc _).alloc _).alloc _) | exact HL_.out.grow ((Grow.refl _).drewN _)) _ ?_
        intro wz1 hg1 
        have hgr1 : Grow w wz1 := by first | exact hg1 | exact Grow.trans ((Grow.refl _).alloc _) hg1 | exact Grow.trans (((Grow.refl _).alloc _).alloc _) hg1 | exact Grow.trans ((((Grow.refl _).alloc _).alloc _).alloc _) hg1 | exact Grow.trans (((((Grow.refl _).alloc _).alloc _).alloc _).alloc _) hg1 | exact Grow.trans ((Grow.refl _).drewN _) hg1
        have HP_1 := Lib.hid (HP_.out.grow hgr1)
        have HL_1 := Lib.hid (HL_.out.grow hgr1)
        have GCH1 := Lib.hid hgr1
        clear hg1 hgr1 HP_ HL_
        rw [HGD1.out]
        go_wp2_with fail
        refine Slices_any p l _ _ _ (by first | exact HP_1.out | exact HP_1.out.grow ((Grow.refl _).alloc _) | exact HP_1.out.grow (((Grow.refl _).alloc _).alloc _) | exact HP_1.out.grow ((((Grow.refl _).alloc _).alloc _).alloc _) | exact HP_1.out.grow (((((Grow.refl _).alloc _).alloc _).alloc _).alloc _) | exact HP_1.out.grow ((Grow.refl _).drewN _)) (by first | exact HL_1.out | exact HL_1.out.grow ((Grow.refl _).alloc _) | exact HL_1.out.grow (((Grow.refl _).alloc _).alloc _) | exact HL_1.out.grow ((((Grow.refl _).alloc _).alloc _).alloc _) | exact HL_1.out.grow (((((Grow.refl _).alloc _).alloc _).alloc _).alloc _) | exact HL_1.out.grow ((Grow.refl _).drewN _)) _ ?_
        intro wz2 x2_0 hg2 hx2_0
        have hgr2 : Grow wz1 wz2 := by first | exact hg2 | exact Grow.trans ((Grow.refl _).alloc _) hg2 | exact Grow.trans (((Grow.refl _).alloc _).alloc _) hg2 | exact Grow.trans ((((Grow.refl _).alloc _).alloc _).alloc _) hg2 | exact Grow.trans (((((Grow.refl _).alloc _).alloc _).alloc _).alloc _) hg2 | exact Grow.trans ((Grow.refl _).drewN _) hg2
        have HP_2 := Lib.hid (HP_1.out.grow hgr2)
        have HL_2 := Lib.hid (HL_1.out.grow hgr2)
        have GCH2 := Lib.hid (GCH1.out.trans hgr2)
        clear hg2 hgr2 HP_1 HL_1 GCH1
        rw [HA.out] at hx2_0
        have hyHFAMA_2 := hx2_0
        have HFAMA_2 := Lib.hid hyHFAMA_2
        obtain ⟨aHFAMA_2, cHFAMA_2, rfl, qHFAMA_21, qHFAMA_22⟩ := FamAt.out hyHFAMA_2
        clear hx2_0
        rw [HE.out]
        go_wp2_with fail
        refine r3Slices_any p l _ _ _ (by first | exact HP_2.out | exact HP_2.out.grow ((Grow.refl _).alloc _) | exact HP_2.out.grow (((Grow.refl _).alloc _).alloc _) | exact HP_2.out.grow ((((Grow.refl _).alloc _).alloc _).alloc _) | exact HP_2.out.grow (((((Grow.refl _).alloc _).alloc _).alloc _).alloc _) | exact HP_2.out.grow ((Grow.refl _).drewN _)) (by first | exact HL_2.out | exact HL_2.out.grow ((Grow.refl _).alloc _) | exact HL_2.out.grow (((Grow.refl _).alloc _).alloc _) | exact HL_2.out.grow ((((Grow.refl _).alloc _).alloc _).alloc _) | exact HL_2.out.grow (((((Grow.refl _).alloc _).alloc _).alloc _).alloc _) | exact HL_2.out.grow ((Grow.refl _).drewN _)) _ ?_
        intro wz3 x3_0 hg3 hx3_0
        have hgr3 : Grow wz2 wz3 := by first | exact hg3 | exact Grow.trans ((Grow.refl _).alloc _) hg3 | exact Grow.trans (((Grow.refl _).alloc _).alloc _) hg3 | exact Grow.trans ((((Grow.refl _).alloc _).alloc _).alloc _) hg3 | exact Grow.trans (((((Grow.refl _).alloc _).alloc _).alloc _).alloc _) hg3 | exact Grow.trans ((Grow.refl _).drewN _) hg3
        have HP_3 := Lib.hid (HP_2.out.grow hgr3)
        have HL_3 := Lib.hid (HL_2.out.grow hgr3)
        have HFAMA_3 := Lib.hid (HFAMA_2.out.grow hgr3)
        have GCH3 := Lib.hid (GCH2.out.trans hgr3)
        clear hg3 hgr3 HP_2 HL_2 HFAMA_2 GCH2
        rw [HA.out] at hx3_0
        have hyHFAMB_3 := hx3_0
        have HFAMB_3 := Lib.hid hyHFAMB_3
        obtain ⟨aHFAMB_3, cHFAMB_3, rfl, qHFAMB_31, qHFAMB_32⟩ := FamAt.out hyHFAMB_3
        clear hx3_0
        rw [HE.out]
        go_wp2_with fail
        refine Diagnoses_any p l _ _ _ (by first | exact HP_3.out | exact HP_3.out.grow ((Grow.refl _).alloc _) | exact HP_3.out.grow (((Grow.refl _).alloc _).alloc _) | exact HP_3.out.grow ((((Grow.refl _).alloc _).alloc _).alloc _) | exact HP_3.out.grow (((((Grow.refl _).alloc _).alloc _).alloc _).alloc _) | exact HP_3.out.grow ((Grow.refl _).drewN _)) (by first | exact HL_3.out | exact HL_3.out.grow ((Grow.refl _).alloc _) | exact HL_3.out.grow (((Grow.refl _).alloc _).alloc _) | exact HL_3.out.grow ((((Grow.refl _).alloc _).alloc _).alloc _) | exact HL_3.out.grow (((((Grow.refl _).alloc _).alloc _).alloc _).alloc _) | exact HL_3.out.grow ((Grow.refl _).drewN _)) _ ?_
        intro wz4 x4_0 hg4 hx4_0
        have hgr4 : Grow wz3 wz4 := by first | exact hg4 | exact Grow.trans ((Grow.refl _).alloc _) hg4 | exact Grow.trans (((Grow.refl _).alloc _).alloc _) hg4 | exact Grow.trans ((((Grow.refl _).alloc _).alloc _).alloc _) hg4 | exact Grow.trans (((((Grow.refl _).alloc _).alloc _).alloc _).alloc _) hg4 | exact Grow.trans ((Grow.refl _).drewN _) hg4
        have HP_4 := Lib.hid (HP_3.out.grow hgr4)
        have HL_4 := Lib.hid (HL_3.out.grow hgr4)
        have HFAMA_4 := Lib.hid (HFAMA_3.out.grow hgr4)
        have HFAMB_4 := Lib.hid (HFAMB_3.out.grow hgr4)
        have GCH4 := Lib.hid (GCH3.out.trans hgr4)
        clear hg4 hgr4 HP_3 HL_3 HFAMA_3 HFAMB_3 GCH3
        rw [HC.out] at hx4_0
        have hyHFAMC_4 := hx4_0
        have HFAMC_4 := Lib.hid hyHFAMC_4
        obtain ⟨aHFAMC_4, cHFAMC_4, rfl, qHFAMC_41, qHFAMC_42⟩ := FamAt.out hyHFAMC_4
        clear hx4_0
        rw [HE.out]
        go_wp2_with fail
        refine r3Diagnoses_any p l _ _ _ (by first | exact HP_4.out | exact HP_4.out.grow ((Grow.refl _).alloc _) | exact HP_4.out.grow (((Grow.refl _).alloc _).alloc _) | exact HP_4.out.grow ((((Grow.refl _).alloc _).alloc _).alloc _) | exact HP_4.out.grow (((((Grow.refl _).alloc _).alloc _).alloc _).alloc _) | exact HP_4.out.grow ((Grow.refl _).drewN _)) (by first | exact HL_4.out | exact HL_4.out.grow ((Grow.refl _).alloc _) | exact HL_4.out.grow (((Grow.refl _).alloc _).alloc _) | exact HL_4.out.grow ((((Grow.refl _).alloc _).alloc _).alloc _) | exact HL_4.out.grow (((((Grow.refl _).alloc _).alloc _).alloc _).alloc _) | exact HL_4.out.grow ((Grow.refl _).drewN _)) _ ?_
        intro wz5 x5_0 hg5 hx5_0
        have hgr5 : Grow wz4 wz5 := by first | exact hg5 | exact Grow.trans ((Grow.refl _).alloc _) hg5 | exact Grow.trans (((Grow.refl _).alloc _).alloc _) hg5 | exact Grow.trans ((((Grow.refl _).alloc _).alloc _).alloc _) hg5 | exact Grow.trans (((((Grow.refl _).alloc _).alloc _).alloc _).alloc _) hg5 | exact Grow.trans ((Grow.refl _).drewN _) hg5
        have HP_5 := Lib.hid (HP_4.out.grow hgr5)
        have HL_5 := Lib.hid (HL_4.out.grow hgr5)
        have HFAMA_5 := Lib.hid (HFAMA_4.out.grow hgr5)
        have HFAMB_5 := Lib.hid (HFAMB_4.out.grow hgr5)
        have HFAMC_5 := Lib.hid (HFAMC_4.out.grow hgr5)
        have GCH5 := Lib.hid (GCH4.out.trans hgr5)
        clear hg5 hgr5 HP_4 HL_4 HFAMA_4 HFAMB_4 HFAMC_4 GCH4
        rw [HC.out] at hx5_0
        have hyHFAMD_5 := hx5_0
        have HFAMD_5 := Lib.hid hyHFAMD_5
        obtain ⟨aHFAMD_5, cHFAMD_5, rfl, qHFAMD_51, qHFAMD_52⟩ := FamAt.out hyHFAMD_5
        clear hx5_0
        rw [HE.out]
        go_wp2_with fail
        refine sameF_any A A _ _ _ (by first | exact HFAMA_5.out | exact HFAMA_5.out.grow ((Grow.refl _).alloc _) | exact HFAMA_5.out.grow (((Grow.refl _).alloc _).alloc _) | exact HFAMA_5.out.grow ((((Grow.refl _).alloc _).alloc _).alloc _) | exact HFAMA_5.out.grow (((((Grow.refl _).alloc _).alloc _).alloc _).alloc _) | exact HFAMA_5.out.grow ((Grow.refl _).drewN _)) (by first | exact HFAMB_5.out | exact HFAMB_5.out.grow ((Grow.refl _).alloc _) | exact HFAMB_5.out.grow (((Grow.refl _).alloc _).alloc _) | exact HFAMB_5.out.grow ((((Grow.refl _).alloc _).alloc _).alloc _) | exact HFAMB_5.out.grow (((((Grow.refl _).alloc _).alloc _).alloc _).alloc _) | exact HFAMB_5.out.grow ((Grow.refl _).drewN _)) _ ?_
        intro wz6 hg6 
        have hgr6 : Grow wz5 wz6 := by first | exact hg6 | exact Grow.trans ((Grow.refl _).alloc _) hg6 | exact Grow.trans (((Grow.refl _).alloc _).alloc _) hg6 | exact Grow.trans ((((Grow.refl _).alloc _).alloc _).alloc _) hg6 | exact Grow.trans (((((Grow.refl _).alloc _).alloc _).alloc _).alloc _) hg6 | exact Grow.trans ((Grow.refl _).drewN _) hg6
        have HP_6 := Lib.hid (HP_5.out.grow hgr6)
        have HL_6 := Lib.hid (HL_5.out.grow hgr6)
        have HFAMA_6 := Lib.hid (HFAMA_5.out.grow hgr6)
        have HFAMB_6 := Lib.hid (HFAMB_5.out.grow hgr6)
        have HFAMC_6 := Lib.hid (HFAMC_5.out.grow hgr6)
        have HFAMD_6 := Lib.hid (HFAMD_5.out.grow hgr6)
        have GCH6 := Lib.hid (GCH5.out.trans hgr6)
        clear hg6 hgr6 HP_5 HL_5 HFAMA_5 HFAMB_5 HFAMC_5 HFAMD_5 GCH5
        rw [show decide (A = A) = true from decide_eq_true rfl]
        go_wp2_with fail
        refine sameF_any C C _ _ _ (by first | exact HFAMC_6.out | exact HFAMC_6.out.grow ((Grow.refl _).alloc _) | exact HFAMC_6.out.grow (((Grow.refl _).alloc _).alloc _) | exact HFAMC_6.out.grow ((((Grow.refl _).alloc _).alloc _).alloc _) | exact HFAMC_6.out.grow (((((Grow.refl _).alloc _).alloc _).alloc _).alloc _) | exact HFAMC_6.out.grow ((Grow.refl _).drewN _)) (by first | exact HFAMD_6.out | exact HFAMD_6.out.grow ((Grow.refl _).alloc _) | exact HFAMD_6.out.grow (((Grow.refl _).alloc _).alloc _) | exact HFAMD_6.out.grow ((((Grow.refl _).alloc _).alloc _).alloc _) | exact HFAMD_6.out.grow (((((Grow.refl _).alloc _).alloc _).alloc _).alloc _) | exact HFAMD_6.out.grow ((Grow.refl _).drewN _)) _ ?_
        intro wz7 hg7 
        have hgr7 : Grow wz6 wz7 := by first | exact hg7 | exact Grow.trans ((Grow.refl _).alloc _) hg7 | exact Grow.trans (((Grow.refl _).alloc _).alloc _) hg7 | exact Grow.trans ((((Grow.refl _).alloc _).alloc _).alloc _) hg7 | exact Grow.trans (((((Grow.refl _).alloc _).alloc _).alloc _).alloc _) hg7 | exact Grow.trans ((Grow.refl _).drewN _) hg7
        have HP_7 := Lib.hid (HP_6.out.grow hgr7)
        have HL_7 := Lib.hid (HL_6.out.grow hgr7)
        have HFAMA_7 := Lib.hid (HFAMA_6.out.grow hgr7)
        have HFAMB_7 := Lib.hid (HFAMB_6.out.grow hgr7)
        have HFAMC_7 := Lib.hid (HFAMC_6.out.grow hgr7)
        have HFAMD_7 := Lib.hid (HFAMD_6.out.grow hgr7)
        have GCH7 := Lib.hid (GCH6.out.trans hgr7)
        clear hg7 hgr7 HP_6 HL_6 HFAMA_6 HFAMB_6 HFAMC_6 HFAMD_6 GCH6
        rw [show decide (C = C) = true from decide_eq_true rfl]
        go_wp2_with fail
        refine known3_any _ _ ?_
        intro wz8 hg8 
        have hgr8 : Grow wz7 wz8 := by first | exact hg8 | exact Grow.trans ((Grow.refl _).alloc _) hg8 | exact Grow.trans (((Grow.refl _).alloc _).alloc _) hg8 | exact Grow.trans ((((Grow.refl _).alloc _).alloc _).alloc _) hg8 | exact Grow.trans (((((Grow.refl _).alloc _).alloc _).alloc _).alloc _) hg8 | exact Grow.trans ((Grow.refl _).drewN _) hg8
        have HP_8 := Lib.hid (HP_7.out.grow hgr8)
        have HL_8 := Lib.hid (HL_7.out.grow hgr8)
        have HFAMA_8 := Lib.hid (HFAMA_7.out.grow hgr8)
        have HFAMB_8 := Lib.hid (HFAMB_7.out.grow hgr8)
        have HFAMC_8 := Lib.hid (HFAMC_7.out.grow hgr8)
        have HFAMD_8 := Lib.hid (HFAMD_7.out.grow hgr8)
        have GCH8 := Lib.hid (GCH7.out.trans hgr8)
        clear hg8 hgr8 HP_7 HL_7 HFAMA_7 HFAMB_7 HFAMC_7 HFAMD_7 GCH7
        go_wp2_with fail
        first | exact HR.out _ (GCH8.out) | exact HR.out _ (Grow.trans GCH8.out ((Grow.refl _).alloc _)) | exact HR.out _ (Grow.trans GCH8.out (((Grow.refl _).alloc _).alloc _)) | exact HR.out _ (Grow.trans GCH8.out ((((Grow.refl _).alloc _).alloc _).alloc _)) | exact HR.out _ (Grow.trans GCH8.out (((((Grow.refl _).alloc _).alloc _).alloc _).alloc _)) | exact HR.out _ (Grow.trans GCH8.out ((Grow.refl _).drewN _))
      subst h0
      have hA2 : A = slcs p l := by rw [← hA]; unfold slcO; rw [he, ifOK_ok]
      have hC2 : C = bkM A := by rw [← hC, hA2]; unfold dgO; rw [he, ifOK_ok]
      have hv := slcs_val he
      have HCB := Lib.hid (show cbE A C = 0 by unfold cbE; rw [hA2] at hC2 ⊢; rw [if_pos hv, hC2, if_pos (bk_val _), decide_eq_true rfl]; rfl)
      clear hA2 hC2 hv he hA hC
      go_enter Tryz.func15, Tryz.ntmps15
      go_wp2_with fail
      refine long1_any p _ _ (by first | exact HP_.out | exact HP_.out.grow ((Grow.refl _).alloc _) | exact HP_.out.grow (((Grow.refl _).alloc _).alloc _) | exact HP_.out.grow ((((Grow.refl _).alloc _).alloc _).alloc _) | exact HP_.out.grow (((((Grow.refl _).alloc _).alloc _).alloc _).alloc _) | exact HP_.out.grow ((Grow.refl _).drewN _)) _ ?_
      rw [HGD0.out]
      go_wp2_with fail
      refine manyT_any l _ _ (by first | exact HL_.out | exact HL_.out.grow ((Grow.refl _).alloc _) | exact HL_.out.grow (((Grow.refl _).alloc _).alloc _) | exact HL_.out.grow ((((Grow.refl _).alloc _).alloc _).alloc _) | exact HL_.out.grow (((((Grow.refl _).alloc _).alloc _).alloc _).alloc _) | exact HL_.out.grow ((Grow.refl _).drewN _)) _ ?_
      intro wz1 hg1 
      have hgr1 : Grow w wz1 := by first | exact hg1 | exact Grow.trans ((Grow.refl _).alloc _) hg1 | exact Grow.trans (((Grow.refl _).alloc _).alloc _) hg1 | exact Grow.trans ((((Grow.refl _).alloc _).alloc _).alloc _) hg1 | exact Grow.trans (((((Grow.refl _).alloc _).alloc _).alloc _).alloc _) hg1 | exact Grow.trans ((Grow.refl _).drewN _) hg1
      have HP_1 := Lib.hid (HP_.out.grow hgr1)
      have HL_1 := Lib.hid (HL_.out.grow hgr1)
      have GCH1 := Lib.hid hgr1
      clear hg1 hgr1 HP_ HL_
      rw [HGD1.out]
      go_wp2_with fail
      refine Slices_any p l _ _ _ (by first | exact HP_1.out | exact HP_1.out.grow ((Grow.refl _).alloc _) | exact HP_1.out.grow (((Grow.refl _).alloc _).alloc _) | exact HP_1.out.grow ((((Grow.refl _).alloc _).alloc _).alloc _) | exact HP_1.out.grow (((((Grow.refl _).alloc _).alloc _).alloc _).alloc _) | exact HP_1.out.grow ((Grow.refl _).drewN _)) (by first | exact HL_1.out | exact HL_1.out.grow ((Grow.refl _).alloc _) | exact HL_1.out.grow (((Grow.refl _).alloc _).alloc _) | exact HL_1.out.grow ((((Grow.refl _).alloc _).alloc _).alloc _) | exact HL_1.out.grow (((((Grow.refl _).alloc _).alloc _).alloc _).alloc _) | exact HL_1.out.grow ((Grow.refl _).drewN _)) _ ?_
      intro wz2 x2_0 hg2 hx2_0
      have hgr2 : Grow wz1 wz2 := by first | exact hg2 | exact Grow.trans ((Grow.refl _).alloc _) hg2 | exact Grow.trans (((Grow.refl _).alloc _).alloc _) hg2 | exact Grow.trans ((((Grow.refl _).alloc _).alloc _).alloc _) hg2 | exact Grow.trans (((((Grow.refl _).alloc _).alloc _).alloc _).alloc _) hg2 | exact Grow.trans ((Grow.refl _).drewN _) hg2
      have HP_2 := Lib.hid (HP_1.out.grow hgr2)
      have HL_2 := Lib.hid (HL_1.out.grow hgr2)
      have GCH2 := Lib.hid (GCH1.out.trans hgr2)
      clear hg2 hgr2 HP_1 HL_1 GCH1
      rw [HA.out] at hx2_0
      have hyHFAMA_2 := hx2_0
      have HFAMA_2 := Lib.hid hyHFAMA_2
      obtain ⟨aHFAMA_2, cHFAMA_2, rfl, qHFAMA_21, qHFAMA_22⟩ := FamAt.out hyHFAMA_2
      clear hx2_0
      rw [HE.out]
      go_wp2_with fail
      refine r3Slices_any p l _ _ _ (by first | exact HP_2.out | exact HP_2.out.grow ((Grow.refl _).alloc _) | exact HP_2.out.grow (((Grow.refl _).alloc _).alloc _) | exact HP_2.out.grow ((((Grow.refl _).alloc _).alloc _).alloc _) | exact HP_2.out.grow (((((Grow.refl _).alloc _).alloc _).alloc _).alloc _) | exact HP_2.out.grow ((Grow.refl _).drewN _)) (by first | exact HL_2.out | exact HL_2.out.grow ((Grow.refl _).alloc _) | exact HL_2.out.grow (((Grow.refl _).alloc _).alloc _) | exact HL_2.out.grow ((((Grow.refl _).alloc _).alloc _).alloc _) | exact HL_2.out.grow (((((Grow.refl _).alloc _).alloc _).alloc _).alloc _) | exact HL_2.out.grow ((Grow.refl _).drewN _)) _ ?_
      intro wz3 x3_0 hg3 hx3_0
      have hgr3 : Grow wz2 wz3 := by first | exact hg3 | exact Grow.trans ((Grow.refl _).alloc _) hg3 | exact Grow.trans (((Grow.refl _).alloc _).alloc _) hg3 | exact Grow.trans ((((Grow.refl _).alloc _).alloc _).alloc _) hg3 | exact Grow.trans (((((Grow.refl _).alloc _).alloc _).alloc _).alloc _) hg3 | exact Grow.trans ((Grow.refl _).drewN _) hg3
      have HP_3 := Lib.hid (HP_2.out.grow hgr3)
      have HL_3 := Lib.hid (HL_2.out.grow hgr3)
      have HFAMA_3 := Lib.hid (HFAMA_2.out.grow hgr3)
      have GCH3 := Lib.hid (GCH2.out.trans hgr3)
      clear hg3 hgr3 HP_2 HL_2 HFAMA_2 GCH2
      rw [HA.out] at hx3_0
      have hyHFAMB_3 := hx3_0
      have HFAMB_3 := Lib.hid hyHFAMB_3
      obtain ⟨aHFAMB_3, cHFAMB_3, rfl, qHFAMB_31, qHFAMB_32⟩ := FamAt.out hyHFAMB_3
      clear hx3_0
      rw [HE.out]
      go_wp2_with fail
      refine Diagnoses_any p l _ _ _ (by first | exact HP_3.out | exact HP_3.out.grow ((Grow.refl _).alloc _) | exact HP_3.out.grow (((Grow.refl _).alloc _).alloc _) | exact HP_3.out.grow ((((Grow.refl _).alloc _).alloc _).alloc _) | exact HP_3.out.grow (((((Grow.refl _).alloc _).alloc _).alloc _).alloc _) | exact HP_3.out.grow ((Grow.refl _).drewN _)) (by first | exact HL_3.out | exact HL_3.out.grow ((Grow.refl _).alloc _) | exact HL_3.out.grow (((Grow.refl _).alloc _).alloc _) | exact HL_3.out.grow ((((Grow.refl _).alloc _).alloc _).alloc _) | exact HL_3.out.grow (((((Grow.refl _).alloc _).alloc _).alloc _).alloc _) | exact HL_3.out.grow ((Grow.refl _).drewN _)) _ ?_
      intro wz4 x4_0 hg4 hx4_0
      have hgr4 : Grow wz3 wz4 := by first | exact hg4 | exact Grow.trans ((Grow.refl _).alloc _) hg4 | exact Grow.trans (((Grow.refl _).alloc _).alloc _) hg4 | exact Grow.trans ((((Grow.refl _).alloc _).alloc _).alloc _) hg4 | exact Grow.trans (((((Grow.refl _).alloc _).alloc _).alloc _).alloc _) hg4 | exact Grow.trans ((Grow.refl _).drewN _) hg4
      have HP_4 := Lib.hid (HP_3.out.grow hgr4)
      have HL_4 := Lib.hid (HL_3.out.grow hgr4)
      have HFAMA_4 := Lib.hid (HFAMA_3.out.grow hgr4)
      have HFAMB_4 := Lib.hid (HFAMB_3.out.grow hgr4)
      have GCH4 := Lib.hid (GCH3.out.trans hgr4)
      clear hg4 hgr4 HP_3 HL_3 HFAMA_3 HFAMB_3 GCH3
      rw [HC.out] at hx4_0
      have hyHFAMC_4 := hx4_0
      have HFAMC_4 := Lib.hid hyHFAMC_4
      obtain ⟨aHFAMC_4, cHFAMC_4, rfl, qHFAMC_41, qHFAMC_42⟩ := FamAt.out hyHFAMC_4
      clear hx4_0
      rw [HE.out]
      go_wp2_with fail
      refine r3Diagnoses_any p l _ _ _ (by first | exact HP_4.out | exact HP_4.out.grow ((Grow.refl _).alloc _) | exact HP_4.out.grow (((Grow.refl _).alloc _).alloc _) | exact HP_4.out.grow ((((Grow.refl _).alloc _).alloc _).alloc _) | exact HP_4.out.grow (((((Grow.refl _).alloc _).alloc _).alloc _).alloc _) | exact HP_4.out.grow ((Grow.refl _).drewN _)) (by first | exact HL_4.out | exact HL_4.out.grow ((Grow.refl _).alloc _) | exact HL_4.out.grow (((Grow.refl _).alloc _).alloc _) | exact HL_4.out.grow ((((Grow.refl _).alloc _).alloc _).alloc _) | exact HL_4.out.grow (((((Grow.refl _).alloc _).alloc _).alloc _).alloc _) | exact HL_4.out.grow ((Grow.refl _).drewN _)) _ ?_
      intro wz5 x5_0 hg5 hx5_0
      have hgr5 : Grow wz4 wz5 := by first | exact hg5 | exact Grow.trans ((Grow.refl _).alloc _) hg5 | exact Grow.trans (((Grow.refl _).alloc _).alloc _) hg5 | exact Grow.trans ((((Grow.refl _).alloc _).alloc _).alloc _) hg5 | exact Grow.trans (((((Grow.refl _).alloc _).alloc _).alloc _).alloc _) hg5 | exact Grow.trans ((Grow.refl _).drewN _) hg5
      have HP_5 := Lib.hid (HP_4.out.grow hgr5)
      have HL_5 := Lib.hid (HL_4.out.grow hgr5)
      have HFAMA_5 := Lib.hid (HFAMA_4.out.grow hgr5)
      have HFAMB_5 := Lib.hid (HFAMB_4.out.grow hgr5)
      have HFAMC_5 := Lib.hid (HFAMC_4.out.grow hgr5)
      have GCH5 := Lib.hid (GCH4.out.trans hgr5)
      clear hg5 hgr5 HP_4 HL_4 HFAMA_4 HFAMB_4 HFAMC_4 GCH4
      rw [HC.out] at hx5_0
      have hyHFAMD_5 := hx5_0
      have HFAMD_5 := Lib.hid hyHFAMD_5
      obtain ⟨aHFAMD_5, cHFAMD_5, rfl, qHFAMD_51, qHFAMD_52⟩ := FamAt.out hyHFAMD_5
      clear hx5_0
      rw [HE.out]
      go_wp2_with fail
      refine sameF_any A A _ _ _ (by first | exact HFAMA_5.out | exact HFAMA_5.out.grow ((Grow.refl _).alloc _) | exact HFAMA_5.out.grow (((Grow.refl _).alloc _).alloc _) | exact HFAMA_5.out.grow ((((Grow.refl _).alloc _).alloc _).alloc _) | exact HFAMA_5.out.grow (((((Grow.refl _).alloc _).alloc _).alloc _).alloc _) | exact HFAMA_5.out.grow ((Grow.refl _).drewN _)) (by first | exact HFAMB_5.out | exact HFAMB_5.out.grow ((Grow.refl _).alloc _) | exact HFAMB_5.out.grow (((Grow.refl _).alloc _).alloc _) | exact HFAMB_5.out.grow ((((Grow.refl _).alloc _).alloc _).alloc _) | exact HFAMB_5.out.grow (((((Grow.refl _).alloc _).alloc _).alloc _).alloc _) | exact HFAMB_5.out.grow ((Grow.refl _).drewN _)) _ ?_
      intro wz6 hg6 
      have hgr6 : Grow wz5 wz6 := by first | exact hg6 | exact Grow.trans ((Grow.refl _).alloc _) hg6 | exact Grow.trans (((Grow.refl _).alloc _).alloc _) hg6 | exact Grow.trans ((((Grow.refl _).alloc _).alloc _).alloc _) hg6 | exact Grow.trans (((((Grow.refl _).alloc _).alloc _).alloc _).alloc _) hg6 | exact Grow.trans ((Grow.refl _).drewN _) hg6
      have HP_6 := Lib.hid (HP_5.out.grow hgr6)
      have HL_6 := Lib.hid (HL_5.out.grow hgr6)
      have HFAMA_6 := Lib.hid (HFAMA_5.out.grow hgr6)
      have HFAMB_6 := Lib.hid (HFAMB_5.out.grow hgr6)
      have HFAMC_6 := Lib.hid (HFAMC_5.out.grow hgr6)
      have HFAMD_6 := Lib.hid (HFAMD_5.out.grow hgr6)
      have GCH6 := Lib.hid (GCH5.out.trans hgr6)
      clear hg6 hgr6 HP_5 HL_5 HFAMA_5 HFAMB_5 HFAMC_5 HFAMD_5 GCH5
      rw [show decide (A = A) = true from decide_eq_true rfl]
      go_wp2_with fail
      refine sameF_any C C _ _ _ (by first | exact HFAMC_6.out | exact HFAMC_6.out.grow ((Grow.refl _).alloc _) | exact HFAMC_6.out.grow (((Grow.refl _).alloc _).alloc _) | exact HFAMC_6.out.grow ((((Grow.refl _).alloc _).alloc _).alloc _) | exact HFAMC_6.out.grow (((((Grow.refl _).alloc _).alloc _).alloc _).alloc _) | exact HFAMC_6.out.grow ((Grow.refl _).drewN _)) (by first | exact HFAMD_6.out | exact HFAMD_6.out.grow ((Grow.refl _).alloc _) | exact HFAMD_6.out.grow (((Grow.refl _).alloc _).alloc _) | exact HFAMD_6.out.grow ((((Grow.refl _).alloc _).alloc _).alloc _) | exact HFAMD_6.out.grow (((((Grow.refl _).alloc _).alloc _).alloc _).alloc _) | exact HFAMD_6.out.grow ((Grow.refl _).drewN _)) _ ?_
      intro wz7 hg7 
      have hgr7 : Grow wz6 wz7 := by first | exact hg7 | exact Grow.trans ((Grow.refl _).alloc _) hg7 | exact Grow.trans (((Grow.refl _).alloc _).alloc _) hg7 | exact Grow.trans ((((Grow.refl _).alloc _).alloc _).alloc _) hg7 | exact Grow.trans (((((Grow.refl _).alloc _).alloc _).alloc _).alloc _) hg7 | exact Grow.trans ((Grow.refl _).drewN _) hg7
      have HP_7 := Lib.hid (HP_6.out.grow hgr7)
      have HL_7 := Lib.hid (HL_6.out.grow hgr7)
      have HFAMA_7 := Lib.hid (HFAMA_6.out.grow hgr7)
      have HFAMB_7 := Lib.hid (HFAMB_6.out.grow hgr7)
      have HFAMC_7 := Lib.hid (HFAMC_6.out.grow hgr7)
      have HFAMD_7 := Lib.hid (HFAMD_6.out.grow hgr7)
      have GCH7 := Lib.hid (GCH6.out.trans hgr7)
      clear hg7 hgr7 HP_6 HL_6 HFAMA_6 HFAMB_6 HFAMC_6 HFAMD_6 GCH6
      rw [show decide (C = C) = true from decide_eq_true rfl]
      go_wp2_with fail
      refine CheckBlocker_any A C _ _ _ (by first | exact HFAMA_7.out | exact HFAMA_7.out.grow ((Grow.refl _).alloc _) | exact HFAMA_7.out.grow (((Grow.refl _).alloc _).alloc _) | exact HFAMA_7.out.grow ((((Grow.refl _).alloc _).alloc _).alloc _) | exact HFAMA_7.out.grow (((((Grow.refl _).alloc _).alloc _).alloc _).alloc _) | exact HFAMA_7.out.grow ((Grow.refl _).drewN _)) (by first | exact HFAMC_7.out | exact HFAMC_7.out.grow ((Grow.refl _).alloc _) | exact HFAMC_7.out.grow (((Grow.refl _).alloc _).alloc _) | exact HFAMC_7.out.grow ((((Grow.refl _).alloc _).alloc _).alloc _) | exact HFAMC_7.out.grow (((((Grow.refl _).alloc _).alloc _).alloc _).alloc _) | exact HFAMC_7.out.grow ((Grow.refl _).drewN _)) _ ?_
      intro wz8 hg8 
      have hgr8 : Grow wz7 wz8 := by first | exact hg8 | exact Grow.trans ((Grow.refl _).alloc _) hg8 | exact Grow.trans (((Grow.refl _).alloc _).alloc _) hg8 | exact Grow.trans ((((Grow.refl _).alloc _).alloc _).alloc _) hg8 | exact Grow.trans (((((Grow.refl _).alloc _).alloc _).alloc _).alloc _) hg8 | exact Grow.trans ((Grow.refl _).drewN _) hg8
      have HP_8 := Lib.hid (HP_7.out.grow hgr8)
      have HL_8 := Lib.hid (HL_7.out.grow hgr8)
      have HFAMA_8 := Lib.hid (HFAMA_7.out.grow hgr8)
      have HFAMB_8 := Lib.hid (HFAMB_7.out.grow hgr8)
      have HFAMC_8 := Lib.hid (HFAMC_7.out.grow hgr8)
      have HFAMD_8 := Lib.hid (HFAMD_7.out.grow hgr8)
      have GCH8 := Lib.hid (GCH7.out.trans hgr8)
      clear hg8 hgr8 HP_7 HL_7 HFAMA_7 HFAMB_7 HFAMC_7 HFAMD_7 GCH7
      rw [HCB.out]
      go_wp2_with fail
      refine known3_any _ _ ?_
      intro wz9 hg9 
      have hgr9 : Grow wz8 wz9 := by first | exact hg9 | exact Grow.trans ((Grow.refl _).alloc _) hg9 | exact Grow.trans (((Grow.refl _).alloc _).alloc _) hg9 | exact Grow.trans ((((Grow.refl _).alloc _).alloc _).alloc _) hg9 | exact Grow.trans (((((Grow.refl _).alloc _).alloc _).alloc _).alloc _) hg9 | exact Grow.trans ((Grow.refl _).drewN _) hg9
      have HP_9 := Lib.hid (HP_8.out.grow hgr9)
      have HL_9 := Lib.hid (HL_8.out.grow hgr9)
      have HFAMA_9 := Lib.hid (HFAMA_8.out.grow hgr9)
      have HFAMB_9 := Lib.hid (HFAMB_8.out.grow hgr9)
      have HFAMC_9 := Lib.hid (HFAMC_8.out.grow hgr9)
      have HFAMD_9 := Lib.hid (HFAMD_8.out.grow hgr9)
      have GCH9 := Lib.hid (GCH8.out.trans hgr9)
      clear hg9 hgr9 HP_8 HL_8 HFAMA_8 HFAMB_8 HFAMC_8 HFAMD_8 GCH8
      go_wp2_with fail
      first | exact HR.out _ (GCH9.out) | exact HR.out _ (Grow.trans GCH9.out ((Grow.refl _).alloc _)) | exact HR.out _ (Grow.trans GCH9.out (((Grow.refl _).alloc _).alloc _)) | exact HR.out _ (Grow.trans GCH9.out ((((Grow.refl _).alloc _).alloc _).alloc _)) | exact HR.out _ (Grow.trans GCH9.out (((((Grow.refl _).alloc _).alloc _).alloc _).alloc _)) | exact HR.out _ (Grow.trans GCH9.out ((Grow.refl _).drewN _))
end Go.Proofs.YtmlbgfnddgbpbaaGreat

namespace Go.Proofs.YtmlbgfnddgbpbaaGreat
open Go.ChangeShapes Go.WideShapes Go.ChangeAt Go.RowKit

theorem Tryz.own : ownKnob Tryz.prog.godebug = none := by kernel_rfl
theorem Tryz.laidOut : laidOutB Tryz.prog = true := by kernel_rfl

set_option maxRecDepth 100000 in
set_option maxHeartbeats 4000000 in
theorem blameSlices_lifted (os : Os) (started : os.Started) (H : Type) (enc : TypeId × Value → H) :
    ReturnsInHanded {} Tryz.checked os 15 .any (Rows.blameSlicesSpec.pre6 enc Tryz.prog Tryz.f15 Rows.blameSlicesRow.domain false) (Rows.blameSlicesSpec.post enc Tryz.prog Tryz.f15 false true false false) := by
  refine returnsInHanded_of_change (C := Tryz.checked) Tryz.own started (by kernel_rfl) Tryz.func15
    (ChangeSpec.witness6 (enc := enc) (C := Tryz.checked) false ⟨#[], #[.slice none 0 0, .slice none 0 0], []⟩ 8 (by kernel_rfl) (by kernel_rfl) (by kernel_rfl) (by kernel_rfl)) ?_
  intro W base args ds gs before hval0 hW hcnd _
  have hval : ∀ (j : Nat) t v, Tryz.f15.params[j]? = some t → args[j]? = some v → Value.okWide Tryz.prog W .any base t v := hval0
  have hW' := hW
  obtain ⟨p, q, hA0, hV, rfl, hfz, hnd⟩ := hW
  have hA : DataW.TrodAll enc Tryz.prog W 0 (fun _ => true) true Tryz.f15.params.toList args.toList ds p := hA0
  rw [Tryz.params15] at hA hval
  obtain ⟨v0, v1, d0, d1, p0, p1, rfl, rfl, rfl, h0, h1⟩ := trodAll_two hA
  obtain ⟨rfl, rfl⟩ := trodVars_none hV
  have hk0 := h0
  have hk1 := h1
  obtain ⟨x0, hx0⟩ := arg_lines (hval 0 35 v0 rfl rfl) h0
  obtain ⟨x1, hx1⟩ := arg_tests (hval 1 43 v1 rfl rfl) h1
  clear hA0 hval0
  refine Calls.mono (blameSlices_any x0 x1 W v0 v1 hx0 hx1 (fun e W' => e = .returned (.bool true) ∧ Grow W W') (fun W' hg => ⟨rfl, hg⟩)) fun e W' ⟨he, hB⟩ => ?_
  subst he
  have hlt0 : ∀ x ∈ p0, x.block < W.heap.size := fun x hx => hW'.lt x (List.mem_append_left _ (List.mem_append_left _ (hx)))
  have ht0 := Below.trod Tryz.laidOut (by kernel_rfl) (of_decide_eq_true (by kernel_rfl)) hk0 hB hlt0
  have hlt1 : ∀ x ∈ p1, x.block < W.heap.size := fun x hx => hW'.lt x (List.mem_append_left _ (List.mem_append_right _ hx))
  have ht1 := Below.trod Tryz.laidOut (by kernel_rfl) (of_decide_eq_true (by kernel_rfl)) hk1 hB hlt1
  exact ⟨_, rfl, _, _, _, [], _, [], hW', trodAll_mk1 (shut_bool Tryz.underlying4 true), trodAll_mk2 ht0 ht1, rfl, hB.frame _, fun h => by cases h⟩

theorem blameSlices_holds : Rows.BlameSlicesSaid :=
  OpenClaim.holds_of_wide 15 Tryz.f15 rfl rfl rfl rfl rfl rfl rfl ⟨rfl, rfl, rfl, rfl, rfl⟩ rfl rfl rfl rfl rfl (by kernel_rfl) Tryz.func15 (by kernel_rfl)
    (of_decide_eq_true (by kernel_rfl)) (by unfold Func.isWrapper; first | (rw [if_pos (by decide +kernel)]; kernel_rfl) | (rw [if_neg (by decide +kernel)]; exact ⟨rfl, rfl⟩))
    (fun os started H enc _ => blameSlices_lifted os started H enc)

end Go.Proofs.YtmlbgfnddgbpbaaGreat
