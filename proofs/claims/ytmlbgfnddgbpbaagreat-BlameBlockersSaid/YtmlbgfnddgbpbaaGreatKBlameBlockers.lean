/-
The statement BlameBlockers: the blocker of a family is what the document says, for all lists, and the blocker of the blocker is what is least. No condition.
-/
import Derived.Test.YtmlbgfnddgbpbaaGreatD19
import Derived.Test.YtmlbgfnddgbpbaaGreatD14
import Derived.ProofKit
import Derived.Lib.SmallJoins
import Derived.Test.YtmlbgfnddgbpbaaGreatD23
namespace Go.Proofs.YtmlbgfnddgbpbaaGreat
open Go.RowKit
open Mk Bm

set_option maxRecDepth 100000 in
set_option maxHeartbeats 8000000 in
theorem blameBlockers_any (f : List (List Int)) (w : World) (vf : Value) (hf : FamAt w vf f) (R : Ending → World → Prop) (hR : ∀ w', Grow w w' → R (.returned (.bool true)) w') :
    Calls Tryz.prog 3 #[vf] w R := by
  have HR := Lib.hid hR
  have HF_ := Lib.hid hf
  obtain ⟨adf, cpf, rfl, qf1, qf2⟩ := FamAt.out hf
  clear hR
  obtain ⟨gq0, hgq0⟩ : ∃ z, longF f = z := ⟨_, rfl⟩
  have HGD0 := Lib.hid hgq0
  clear hgq0
  cases gq0 with
  | true =>
    go_enter Tryz.func3, Tryz.ntmps3
    go_wp2_with fail
    refine longF_any f _ _ (by first | exact HF_.out | exact HF_.out.grow ((Grow.refl _).alloc _) | exact HF_.out.grow (((Grow.refl _).alloc _).alloc _) | exact HF_.out.grow ((((Grow.refl _).alloc _).alloc _).alloc _) | exact HF_.out.grow (((((Grow.refl _).alloc _).alloc _).alloc _).alloc _) | exact HF_.out.grow ((Grow.refl _).drewN _)) _ ?_
    intro wz1 hg1 
    have hgr1 : Grow w wz1 := by first | exact hg1 | exact Grow.trans ((Grow.refl _).alloc _) hg1 | exact Grow.trans (((Grow.refl _).alloc _).alloc _) hg1 | exact Grow.trans ((((Grow.refl _).alloc _).alloc _).alloc _) hg1 | exact Grow.trans (((((Grow.refl _).alloc _).alloc _).alloc _).alloc _) hg1 | exact Grow.trans ((Grow.refl _).drewN _) hg1
    have HF_1 := Lib.hid (HF_.out.grow hgr1)
    have GCH1 := Lib.hid hgr1
    clear hg1 hgr1 HF_
    rw [HGD0.out]
    go_wp2_with fail
    refine known3_any _ _ ?_
    intro wz2 hg2 
    have hgr2 : Grow wz1 wz2 := by first | exact hg2 | exact Grow.trans ((Grow.refl _).alloc _) hg2 | exact Grow.trans (((Grow.refl _).alloc _).alloc _) hg2 | exact Grow.trans ((((Grow.refl _).alloc _).alloc _).alloc _) hg2 | exact Grow.trans (((((Grow.refl _).alloc _).alloc _).alloc _).alloc _) hg2 | exact Grow.trans ((Grow.refl _).drewN _) hg2
    have HF_2 := Lib.hid (HF_1.out.grow hgr2)
    have GCH2 := Lib.hid (GCH1.out.trans hgr2)
    clear hg2 hgr2 HF_1 GCH1
    go_wp2_with fail
    first | exact HR.out _ (GCH2.out) | exact HR.out _ (Grow.trans GCH2.out ((Grow.refl _).alloc _)) | exact HR.out _ (Grow.trans GCH2.out (((Grow.refl _).alloc _).alloc _)) | exact HR.out _ (Grow.trans GCH2.out ((((Grow.refl _).alloc _).alloc _).alloc _)) | exact HR.out _ (Grow.trans GCH2.out (((((Grow.refl _).alloc _).alloc _).alloc _).alloc _)) | exact HR.out _ (Grow.trans GCH2.out ((Grow.refl _).drewN _))
  | false =>
    obtain ⟨e, he⟩ : ∃ z, valF f = z := ⟨_, rfl⟩
    have HE := Lib.hid he
    obtain ⟨A, hA⟩ : ∃ z, bkO f = z := ⟨_, rfl⟩
    have HA := Lib.hid hA
    obtain ⟨B, hB⟩ : ∃ z, leO f = z := ⟨_, rfl⟩
    have HB := Lib.hid hB
    have t2 : (e != e) = false := by simp
    by_cases h0 : e = 0
    rotate_left
    · have t1 : (e != 0) = true := by simpa using h0
      have hA2 : A = [] := by rw [← hA]; unfold bkO; rw [he, ifOK_err h0]
      have HVA := Lib.hid (show valF A = 0 by rw [hA2]; decide)
      obtain ⟨C, hC⟩ : ∃ z, bkO A = z := ⟨_, rfl⟩
      have HC := Lib.hid hC
      clear h0 hA2 hC hA hB he
      go_enter Tryz.func3, Tryz.ntmps3
      go_wp2_with fail
      refine longF_any f _ _ (by first | exact HF_.out | exact HF_.out.grow ((Grow.refl _).alloc _) | exact HF_.out.grow (((Grow.refl _).alloc _).alloc _) | exact HF_.out.grow ((((Grow.refl _).alloc _).alloc _).alloc _) | exact HF_.out.grow (((((Grow.refl _).alloc _).alloc _).alloc _).alloc _) | exact HF_.out.grow ((Grow.refl _).drewN _)) _ ?_
      intro wz1 hg1 
      have hgr1 : Grow w wz1 := by first | exact hg1 | exact Grow.trans ((Grow.refl _).alloc _) hg1 | exact Grow.trans (((Grow.refl _).alloc _).alloc _) hg1 | exact Grow.trans ((((Grow.refl _).alloc _).alloc _).alloc _) hg1 | exact Grow.trans (((((Grow.refl _).alloc _).alloc _).alloc _).alloc _) hg1 | exact Grow.trans ((Grow.refl _).drewN _) hg1
      have HF_1 := Lib.hid (HF_.out.grow hgr1)
      have GCH1 := Lib.hid hgr1
      clear hg1 hgr1 HF_
      rw [HGD0.out]
      go_wp2_with fail
      refine Blocker_any f _ _ (by first | exact HF_1.out | exact HF_1.out.grow ((Grow.refl _).alloc _) | exact HF_1.out.grow (((Grow.refl _).alloc _).alloc _) | exact HF_1.out.grow ((((Grow.refl _).alloc _).alloc _).alloc _) | exact HF_1.out.grow (((((Grow.refl _).alloc _).alloc _).alloc _).alloc _) | exact HF_1.out.grow ((Grow.refl _).drewN _)) _ ?_
      intro wz2 x2_0 hg2 hx2_0
      have hgr2 : Grow wz1 wz2 := by first | exact hg2 | exact Grow.trans ((Grow.refl _).alloc _) hg2 | exact Grow.trans (((Grow.refl _).alloc _).alloc _) hg2 | exact Grow.trans ((((Grow.refl _).alloc _).alloc _).alloc _) hg2 | exact Grow.trans (((((Grow.refl _).alloc _).alloc _).alloc _).alloc _) hg2 | exact Grow.trans ((Grow.refl _).drewN _) hg2
      have HF_2 := Lib.hid (HF_1.out.grow hgr2)
      have GCH2 := Lib.hid (GCH1.out.trans hgr2)
      clear hg2 hgr2 HF_1 GCH1
      rw [HA.out] at hx2_0
      have hyHFAMA_2 := hx2_0.fam
      have HFAMA_2 := Lib.hid hyHFAMA_2
      obtain ⟨aHFAMA_2, cHFAMA_2, rfl, qHFAMA_21, qHFAMA_22⟩ := FamAt.out hyHFAMA_2
      clear hx2_0
      rw [HE.out]
      go_wp2_with fail
      refine r3Blocker_any f _ _ (by first | exact HF_2.out | exact HF_2.out.grow ((Grow.refl _).alloc _) | exact HF_2.out.grow (((Grow.refl _).alloc _).alloc _) | exact HF_2.out.grow ((((Grow.refl _).alloc _).alloc _).alloc _) | exact HF_2.out.grow (((((Grow.refl _).alloc _).alloc _).alloc _).alloc _) | exact HF_2.out.grow ((Grow.refl _).drewN _)) _ ?_
      intro wz3 x3_0 hg3 hx3_0
      have hgr3 : Grow wz2 wz3 := by first | exact hg3 | exact Grow.trans ((Grow.refl _).alloc _) hg3 | exact Grow.trans (((Grow.refl _).alloc _).alloc _) hg3 | exact Grow.trans ((((Grow.refl _).alloc _).alloc _).alloc _) hg3 | exact Grow.trans (((((Grow.refl _).alloc _).alloc _).alloc _).alloc _) hg3 | exact Grow.trans ((Grow.refl _).drewN _) hg3
      have HF_3 := Lib.hid (HF_2.out.grow hgr3)
      have HFAMA_3 := Lib.hid (HFAMA_2.out.grow hgr3)
      have GCH3 := Lib.hid (GCH2.out.trans hgr3)
      clear hg3 hgr3 HF_2 HFAMA_2 GCH2
      rw [HA.out] at hx3_0
      have hyHFAMD_3 := hx3_0
      have HFAMD_3 := Lib.hid hyHFAMD_3
      obtain ⟨aHFAMD_3, cHFAMD_3, rfl, qHFAMD_31, qHFAMD_32⟩ := FamAt.out hyHFAMD_3
      clear hx3_0
      rw [HE.out]
      go_wp2_with fail
      refine sameF_any A A _ _ _ (by first | exact HFAMA_3.out | exact HFAMA_3.out.grow ((Grow.refl _).alloc _) | exact HFAMA_3.out.grow (((Grow.refl _).alloc _).alloc _) | exact HFAMA_3.out.grow ((((Grow.refl _).alloc _).alloc _).alloc _) | exact HFAMA_3.out.grow (((((Grow.refl _).alloc _).alloc _).alloc _).alloc _) | exact HFAMA_3.out.grow ((Grow.refl _).drewN _)) (by first | exact HFAMD_3.out | exact HFAMD_3.out.grow ((Grow.refl _).alloc _) | exact HFAMD_3.out.grow (((Grow.refl _).alloc _).alloc _) | exact HFAMD_3.out.grow ((((Grow.refl _).alloc _).alloc _).alloc _) | exact HFAMD_3.out.grow (((((Grow.refl _).alloc _).alloc _).alloc _).alloc _) | exact HFAMD_3.out.grow ((Grow.refl _).drewN _)) _ ?_
      intro wz4 hg4 
      have hgr4 : Grow wz3 wz4 := by first | exact hg4 | exact Grow.trans ((Grow.refl _).alloc _) hg4 | exact Grow.trans (((Grow.refl _).alloc _).alloc _) hg4 | exact Grow.trans ((((Grow.refl _).alloc _).alloc _).alloc _) hg4 | exact Grow.trans (((((Grow.refl _).alloc _).alloc _).alloc _).alloc _) hg4 | exact Grow.trans ((Grow.refl _).drewN _) hg4
      have HF_4 := Lib.hid (HF_3.out.grow hgr4)
      have HFAMA_4 := Lib.hid (HFAMA_3.out.grow hgr4)
      have HFAMD_4 := Lib.hid (HFAMD_3.out.grow hgr4)
      have GCH4 := Lib.hid (GCH3.out.trans hgr4)
      clear hg4 hgr4 HF_3 HFAMA_3 HFAMD_3 GCH3
      rw [show decide (A = A) = true from decide_eq_true rfl]
      go_wp2_with fail
      refine Blocker_any A _ _ (by first | exact HFAMA_4.out | exact HFAMA_4.out.grow ((Grow.refl _).alloc _) | exact HFAMA_4.out.grow (((Grow.refl _).alloc _).alloc _) | exact HFAMA_4.out.grow ((((Grow.refl _).alloc _).alloc _).alloc _) | exact HFAMA_4.out.grow (((((Grow.refl _).alloc _).alloc _).alloc _).alloc _) | exact HFAMA_4.out.grow ((Grow.refl _).drewN _)) _ ?_
      intro wz5 x5_0 hg5 hx5_0
      have hgr5 : Grow wz4 wz5 := by first | exact hg5 | exact Grow.trans ((Grow.refl _).alloc _) hg5 | exact Grow.trans (((Grow.refl _).alloc _).alloc _) hg5 | exact Grow.trans ((((Grow.refl _).alloc _).alloc _).alloc _) hg5 | exact Grow.trans (((((Grow.refl _).alloc _).alloc _).alloc _).alloc _) hg5 | exact Grow.trans ((Grow.refl _).drewN _) hg5
      have HF_5 := Lib.hid (HF_4.out.grow hgr5)
      have HFAMA_5 := Lib.hid (HFAMA_4.out.grow hgr5)
      have HFAMD_5 := Lib.hid (HFAMD_4.out.grow hgr5)
      have GCH5 := Lib.hid (GCH4.out.trans hgr5)
      clear hg5 hgr5 HF_4 HFAMA_4 HFAMD_4 GCH4
      rw [HC.out] at hx5_0
      have hyHFAMC_5 := hx5_0.fam
      have HFAMC_5 := Lib.hid hyHFAMC_5
      obtain ⟨aHFAMC_5, cHFAMC_5, rfl, qHFAMC_51, qHFAMC_52⟩ := FamAt.out hyHFAMC_5
      clear hx5_0
      rw [HVA.out]
      go_wp2_with fail
      refine Least_any f _ _ (by first | exact HF_5.out | exact HF_5.out.grow ((Grow.refl _).alloc _) | exact HF_5.out.grow (((Grow.refl _).alloc _).alloc _) | exact HF_5.out.grow ((((Grow.refl _).alloc _).alloc _).alloc _) | exact HF_5.out.grow (((((Grow.refl _).alloc _).alloc _).alloc _).alloc _) | exact HF_5.out.grow ((Grow.refl _).drewN _)) _ ?_
      intro wz6 x6_0 hg6 hx6_0
      have hgr6 : Grow wz5 wz6 := by first | exact hg6 | exact Grow.trans ((Grow.refl _).alloc _) hg6 | exact Grow.trans (((Grow.refl _).alloc _).alloc _) hg6 | exact Grow.trans ((((Grow.refl _).alloc _).alloc _).alloc _) hg6 | exact Grow.trans (((((Grow.refl _).alloc _).alloc _).alloc _).alloc _) hg6 | exact Grow.trans ((Grow.refl _).drewN _) hg6
      have HF_6 := Lib.hid (HF_5.out.grow hgr6)
      have HFAMA_6 := Lib.hid (HFAMA_5.out.grow hgr6)
      have HFAMD_6 := Lib.hid (HFAMD_5.out.grow hgr6)
      have HFAMC_6 := Lib.hid (HFAMC_5.out.grow hgr6)
      have GCH6 := Lib.hid (GCH5.out.trans hgr6)
      clear hg6 hgr6 HF_5 HFAMA_5 HFAMD_5 HFAMC_5 GCH5
      rw [HB.out] at hx6_0
      have hyHFAMB_6 := hx6_0.fam
      have HFAMB_6 := Lib.hid hyHFAMB_6
      obtain ⟨aHFAMB_6, cHFAMB_6, rfl, qHFAMB_61, qHFAMB_62⟩ := FamAt.out hyHFAMB_6
      clear hx6_0
      rw [HE.out]
      go_wp2_with fail
      refine known3_any _ _ ?_
      intro wz7 hg7 
      have hgr7 : Grow wz6 wz7 := by first | exact hg7 | exact Grow.trans ((Grow.refl _).alloc _) hg7 | exact Grow.trans (((Grow.refl _).alloc _).alloc _) hg7 | exact Grow.trans ((((Grow.refl _).alloc _).alloc _).alloc _) hg7 | exact Grow.trans (((((Grow.refl _).alloc _).alloc _).alloc _).alloc _) hg7 | exact Grow.trans ((Grow.refl _).drewN _) hg7
      have HF_7 := Lib.hid (HF_6.out.grow hgr7)
      have HFAMA_7 := Lib.hid (HFAMA_6.out.grow hgr7)
      have HFAMD_7 := Lib.hid (HFAMD_6.out.grow hgr7)
      have HFAMC_7 := Lib.hid (HFAMC_6.out.grow hgr7)
      have HFAMB_7 := Lib.hid (HFAMB_6.out.grow hgr7)
      have GCH7 := Lib.hid (GCH6.out.trans hgr7)
      clear hg7 hgr7 HF_6 HFAMA_6 HFAMD_6 HFAMC_6 HFAMB_6 GCH6
      go_wp2_with fail
      first | exact HR.out _ (GCH7.out) | exact HR.out _ (Grow.trans GCH7.out ((Grow.refl _).alloc _)) | exact HR.out _ (Grow.trans GCH7.out (((Grow.refl _).alloc _).alloc _)) | exact HR.out _ (Grow.trans GCH7.out ((((Grow.refl _).alloc _).alloc _).alloc _)) | exact HR.out _ (Grow.trans GCH7.out (((((Grow.refl _).alloc _).alloc _).alloc _).alloc _)) | exact HR.out _ (Grow.trans GCH7.out ((Grow.refl _).drewN _))
    subst h0
    have hA2 : A = bkM f := by rw [← hA]; unfold bkO; rw [he, ifOK_ok]
    have hB2 : B = Ls.ord (lsP (f.map mask)) := by rw [← hB]; unfold leO; rw [he, ifOK_ok]
    have HVA := Lib.hid (show valF A = 0 by rw [hA2]; exact bk_val f)
    have HC := Lib.hid (show bkO A = B by unfold bkO; rw [HVA.out, ifOK_ok, hA2, bk_bk he, hB2])
    clear hA2 hB2 hA hB he
    go_enter Tryz.func3, Tryz.ntmps3
    go_wp2_with fail
    refine longF_any f _ _ (by first | exact HF_.out | exact HF_.out.grow ((Grow.refl _).alloc _) | exact HF_.out.grow (((Grow.refl _).alloc _).alloc _) | exact HF_.out.grow ((((Grow.refl _).alloc _).alloc _).alloc _) | exact HF_.out.grow (((((Grow.refl _).alloc _).alloc _).alloc _).alloc _) | exact HF_.out.grow ((Grow.refl _).drewN _)) _ ?_
    intro wz1 hg1 
    have hgr1 : Grow w wz1 := by first | exact hg1 | exact Grow.trans ((Grow.refl _).alloc _) hg1 | exact Grow.trans (((Grow.refl _).alloc _).alloc _) hg1 | exact Grow.trans ((((Grow.refl _).alloc _).alloc _).alloc _) hg1 | exact Grow.trans (((((Grow.refl _).alloc _).alloc _).alloc _).alloc _) hg1 | exact Grow.trans ((Grow.refl _).drewN _) hg1
    have HF_1 := Lib.hid (HF_.out.grow hgr1)
    have GCH1 := Lib.hid hgr1
    clear hg1 hgr1 HF_
    rw [HGD0.out]
    go_wp2_with fail
    refine Blocker_any f _ _ (by first | exact HF_1.out | exact HF_1.out.grow ((Grow.refl _).alloc _) | exact HF_1.out.grow (((Grow.refl _).alloc _).alloc _) | exact HF_1.out.grow ((((Grow.refl _).alloc _).alloc _).alloc _) | exact HF_1.out.grow (((((Grow.refl _).alloc _).alloc _).alloc _).alloc _) | exact HF_1.out.grow ((Grow.refl _).drewN _)) _ ?_
    intro wz2 x2_0 hg2 hx2_0
    have hgr2 : Grow wz1 wz2 := by first | exact hg2 | exact Grow.trans ((Grow.refl _).alloc _) hg2 | exact Grow.trans (((Grow.refl _).alloc _).alloc _) hg2 | exact Grow.trans ((((Grow.refl _).alloc _).alloc _).alloc _) hg2 | exact Grow.trans (((((Grow.refl _).alloc _).alloc _).alloc _).alloc _) hg2 | exact Grow.trans ((Grow.refl _).drewN _) hg2
    have HF_2 := Lib.hid (HF_1.out.grow hgr2)
    have GCH2 := Lib.hid (GCH1.out.trans hgr2)
    clear hg2 hgr2 HF_1 GCH1
    rw [HA.out] at hx2_0
    have hyHFAMA_2 := hx2_0.fam
    have HFAMA_2 := Lib.hid hyHFAMA_2
    obtain ⟨aHFAMA_2, cHFAMA_2, rfl, qHFAMA_21, qHFAMA_22⟩ := FamAt.out hyHFAMA_2
    clear hx2_0
    rw [HE.out]
    go_wp2_with fail
    refine r3Blocker_any f _ _ (by first | exact HF_2.out | exact HF_2.out.grow ((Grow.refl _).alloc _) | exact HF_2.out.grow (((Grow.refl _).alloc _).alloc _) | exact HF_2.out.grow ((((Grow.refl _).alloc _).alloc _).alloc _) | exact HF_2.out.grow (((((Grow.refl _).alloc _).alloc _).alloc _).alloc _) | exact HF_2.out.grow ((Grow.refl _).drewN _)) _ ?_
    intro wz3 x3_0 hg3 hx3_0
    have hgr3 : Grow wz2 wz3 := by first | exact hg3 | exact Grow.trans ((Grow.refl _).alloc _) hg3 | exact Grow.trans (((Grow.refl _).alloc _).alloc _) hg3 | exact Grow.trans ((((Grow.refl _).alloc _).alloc _).alloc _) hg3 | exact Grow.trans (((((Grow.refl _).alloc _).alloc _).alloc _).alloc _) hg3 | exact Grow.trans ((Grow.refl _).drewN _) hg3
    have HF_3 := Lib.hid (HF_2.out.grow hgr3)
    have HFAMA_3 := Lib.hid (HFAMA_2.out.grow hgr3)
    have GCH3 := Lib.hid (GCH2.out.trans hgr3)
    clear hg3 hgr3 HF_2 HFAMA_2 GCH2
    rw [HA.out] at hx3_0
    have hyHFAMD_3 := hx3_0
    have HFAMD_3 := Lib.hid hyHFAMD_3
    obtain ⟨aHFAMD_3, cHFAMD_3, rfl, qHFAMD_31, qHFAMD_32⟩ := FamAt.out hyHFAMD_3
    clear hx3_0
    rw [HE.out]
    go_wp2_with fail
    refine sameF_any A A _ _ _ (by first | exact HFAMA_3.out | exact HFAMA_3.out.grow ((Grow.refl _).alloc _) | exact HFAMA_3.out.grow (((Grow.refl _).alloc _).alloc _) | exact HFAMA_3.out.grow ((((Grow.refl _).alloc _).alloc _).alloc _) | exact HFAMA_3.out.grow (((((Grow.refl _).alloc _).alloc _).alloc _).alloc _) | exact HFAMA_3.out.grow ((Grow.refl _).drewN _)) (by first | exact HFAMD_3.out | exact HFAMD_3.out.grow ((Grow.refl _).alloc _) | exact HFAMD_3.out.grow (((Grow.refl _).alloc _).alloc _) | exact HFAMD_3.out.grow ((((Grow.refl _).alloc _).alloc _).alloc _) | exact HFAMD_3.out.grow (((((Grow.refl _).alloc _).alloc _).alloc _).alloc _) | exact HFAMD_3.out.grow ((Grow.refl _).drewN _)) _ ?_
    intro wz4 hg4 
    have hgr4 : Grow wz3 wz4 := by first | exact hg4 | exact Grow.trans ((Grow.refl _).alloc _) hg4 | exact Grow.trans (((Grow.refl _).alloc _).alloc _) hg4 | exact Grow.trans ((((Grow.refl _).alloc _).alloc _).alloc _) hg4 | exact Grow.trans (((((Grow.refl _).alloc _).alloc _).alloc _).alloc _) hg4 | exact Grow.trans ((Grow.refl _).drewN _) hg4
    have HF_4 := Lib.hid (HF_3.out.grow hgr4)
    have HFAMA_4 := Lib.hid (HFAMA_3.out.grow hgr4)
    have HFAMD_4 := Lib.hid (HFAMD_3.out.grow hgr4)
    have GCH4 := Lib.hid (GCH3.out.trans hgr4)
    clear hg4 hgr4 HF_3 HFAMA_3 HFAMD_3 GCH3
    rw [show decide (A = A) = true from decide_eq_true rfl]
    go_wp2_with fail
    refine Blocker_any A _ _ (by first | exact HFAMA_4.out | exact HFAMA_4.out.grow ((Grow.refl _).alloc _) | exact HFAMA_4.out.grow (((Grow.refl _).alloc _).alloc _) | exact HFAMA_4.out.grow ((((Grow.refl _).alloc _).alloc _).alloc _) | exact HFAMA_4.out.grow (((((Grow.refl _).alloc _).alloc _).alloc _).alloc _) | exact HFAMA_4.out.grow ((Grow.refl _).drewN _)) _ ?_
    intro wz5 x5_0 hg5 hx5_0
    have hgr5 : Grow wz4 wz5 := by first | exact hg5 | exact Grow.trans ((Grow.refl _).alloc _) hg5 | exact Grow.trans (((Grow.refl _).alloc _).alloc _) hg5 | exact Grow.trans ((((Grow.refl _).alloc _).alloc _).alloc _) hg5 | exact Grow.trans (((((Grow.refl _).alloc _).alloc _).alloc _).alloc _) hg5 | exact Grow.trans ((Grow.refl _).drewN _) hg5
    have HF_5 := Lib.hid (HF_4.out.grow hgr5)
    have HFAMA_5 := Lib.hid (HFAMA_4.out.grow hgr5)
    have HFAMD_5 := Lib.hid (HFAMD_4.out.grow hgr5)
    have GCH5 := Lib.hid (GCH4.out.trans hgr5)
    clear hg5 hgr5 HF_4 HFAMA_4 HFAMD_4 GCH4
    rw [HC.out] at hx5_0
    have hyHFAMC_5 := hx5_0.fam
    have HFAMC_5 := Lib.hid hyHFAMC_5
    obtain ⟨aHFAMC_5, cHFAMC_5, rfl, qHFAMC_51, qHFAMC_52⟩ := FamAt.out hyHFAMC_5
    clear hx5_0
    rw [HVA.out]
    go_wp2_with fail
    refine Least_any f _ _ (by first | exact HF_5.out | exact HF_5.out.grow ((Grow.refl _).alloc _) | exact HF_5.out.grow (((Grow.refl _).alloc _).alloc _) | exact HF_5.out.grow ((((Grow.refl _).alloc _).alloc _).alloc _) | exact HF_5.out.grow (((((Grow.refl _).alloc _).alloc _).alloc _).alloc _) | exact HF_5.out.grow ((Grow.refl _).drewN _)) _ ?_
    intro wz6 x6_0 hg6 hx6_0
    have hgr6 : Grow wz5 wz6 := by first | exact hg6 | exact Grow.trans ((Grow.refl _).alloc _) hg6 | exact Grow.trans (((Grow.refl _).alloc _).alloc _) hg6 | exact Grow.trans ((((Grow.refl _).alloc _).alloc _).alloc _) hg6 | exact Grow.trans (((((Grow.refl _).alloc _).alloc _).alloc _).alloc _) hg6 | exact Grow.trans ((Grow.refl _).drewN _) hg6
    have HF_6 := Lib.hid (HF_5.out.grow hgr6)
    have HFAMA_6 := Lib.hid (HFAMA_5.out.grow hgr6)
    have HFAMD_6 := Lib.hid (HFAMD_5.out.grow hgr6)
    have HFAMC_6 := Lib.hid (HFAMC_5.out.grow hgr6)
    have GCH6 := Lib.hid (GCH5.out.trans hgr6)
    clear hg6 hgr6 HF_5 HFAMA_5 HFAMD_5 HFAMC_5 GCH5
    rw [HB.out] at hx6_0
    have hyHFAMB_6 := hx6_0.fam
    have HFAMB_6 := Lib.hid hyHFAMB_6
    obtain ⟨aHFAMB_6, cHFAMB_6, rfl, qHFAMB_61, qHFAMB_62⟩ := FamAt.out hyHFAMB_6
    clear hx6_0
    rw [HE.out]
    go_wp2_with fail
    refine sameF_any B B _ _ _ (by first | exact HFAMC_6.out | exact HFAMC_6.out.grow ((Grow.refl _).alloc _) | exact HFAMC_6.out.grow (((Grow.refl _).alloc _).alloc _) | exact HFAMC_6.out.grow ((((Grow.refl _).alloc _).alloc _).alloc _) | exact HFAMC_6.out.grow (((((Grow.refl _).alloc _).alloc _).alloc _).alloc _) | exact HFAMC_6.out.grow ((Grow.refl _).drewN _)) (by first | exact HFAMB_6.out | exact HFAMB_6.out.grow ((Grow.refl _).alloc _) | exact HFAMB_6.out.grow (((Grow.refl _).alloc _).alloc _) | exact HFAMB_6.out.grow ((((Grow.refl _).alloc _).alloc _).alloc _) | exact HFAMB_6.out.grow (((((Grow.refl _).alloc _).alloc _).alloc _).alloc _) | exact HFAMB_6.out.grow ((Grow.refl _).drewN _)) _ ?_
    intro wz7 hg7 
    have hgr7 : Grow wz6 wz7 := by first | exact hg7 | exact Grow.trans ((Grow.refl _).alloc _) hg7 | exact Grow.trans (((Grow.refl _).alloc _).alloc _) hg7 | exact Grow.trans ((((Grow.refl _).alloc _).alloc _).alloc _) hg7 | exact Grow.trans (((((Grow.refl _).alloc _).alloc _).alloc _).alloc _) hg7 | exact Grow.trans ((Grow.refl _).drewN _) hg7
    have HF_7 := Lib.hid (HF_6.out.grow hgr7)
    have HFAMA_7 := Lib.hid (HFAMA_6.out.grow hgr7)
    have HFAMD_7 := Lib.hid (HFAMD_6.out.grow hgr7)
    have HFAMC_7 := Lib.hid (HFAMC_6.out.grow hgr7)
    have HFAMB_7 := Lib.hid (HFAMB_6.out.grow hgr7)
    have GCH7 := Lib.hid (GCH6.out.trans hgr7)
    clear hg7 hgr7 HF_6 HFAMA_6 HFAMD_6 HFAMC_6 HFAMB_6 GCH6
    rw [show decide (B = B) = true from decide_eq_true rfl]
    go_wp2_with fail
    refine known3_any _ _ ?_
    intro wz8 hg8 
    have hgr8 : Grow wz7 wz8 := by first | exact hg8 | exact Grow.trans ((Grow.refl _).alloc _) hg8 | exact Grow.trans (((Grow.refl _).alloc _).alloc _) hg8 | exact Grow.trans ((((Grow.refl _).alloc _).alloc _).alloc _) hg8 | exact Grow.trans (((((Grow.refl _).alloc _).alloc _).alloc _).alloc _) hg8 | exact Grow.trans ((Grow.refl _).drewN _) hg8
    have HF_8 := Lib.hid (HF_7.out.grow hgr8)
    have HFAMA_8 := Lib.hid (HFAMA_7.out.grow hgr8)
    have HFAMD_8 := Lib.hid (HFAMD_7.out.grow hgr8)
    have HFAMC_8 := Lib.hid (HFAMC_7.out.grow hgr8)
    have HFAMB_8 := Lib.hid (HFAMB_7.out.grow hgr8)
    have GCH8 := Lib.hid (GCH7.out.trans hgr8)
    clear hg8 hgr8 HF_7 HFAMA_7 HFAMD_7 HFAMC_7 HFAMB_7 GCH7
    go_wp2_with fail
    first | exact HR.out _ (GCH8.out) | exact HR.out _ (Grow.trans GCH8.out ((Grow.refl _).alloc _)) | exact HR.out _ (Grow.trans GCH8.out (((Grow.refl _).alloc _).alloc _)) | exact HR.out _ (Grow.trans GCH8.out ((((Grow.refl _).alloc _).alloc _).alloc _)) | exact HR.out _ (Grow.trans GCH8.out (((((Grow.refl _).alloc _).alloc _).alloc _).alloc _)) | exact HR.out _ (Grow.trans GCH8.out ((Grow.refl _).drewN _))
end Go.Proofs.YtmlbgfnddgbpbaaGreat

namespace Go.Proofs.YtmlbgfnddgbpbaaGreat
open Go.ChangeShapes Go.WideShapes Go.ChangeAt Go.RowKit

theorem Tryz.own : ownKnob Tryz.prog.godebug = none := by kernel_rfl
theorem Tryz.laidOut : laidOutB Tryz.prog = true := by kernel_rfl

set_option maxRecDepth 100000 in
set_option maxHeartbeats 4000000 in
theorem blameBlockers_lifted (os : Os) (started : os.Started) (H : Type) (enc : TypeId × Value → H) :
    ReturnsInHanded {} Tryz.checked os 3 .any (Rows.blameBlockersSpec.pre6 enc Tryz.prog Tryz.f3 Rows.blameBlockersRow.domain false) (Rows.blameBlockersSpec.post enc Tryz.prog Tryz.f3 false true false false) := by
  refine returnsInHanded_of_change (C := Tryz.checked) Tryz.own started (by kernel_rfl) Tryz.func3
    (ChangeSpec.witness6 (enc := enc) (C := Tryz.checked) false ⟨#[], #[.slice none 0 0], []⟩ 8 (by kernel_rfl) (by kernel_rfl) (by kernel_rfl) (by kernel_rfl)) ?_
  intro W base args ds gs before hval0 hW hcnd _
  have hval : ∀ (j : Nat) t v, Tryz.f3.params[j]? = some t → args[j]? = some v → Value.okWide Tryz.prog W .any base t v := hval0
  have hW' := hW
  obtain ⟨p, q, hA0, hV, rfl, hfz, hnd⟩ := hW
  have hA : DataW.TrodAll enc Tryz.prog W 0 (fun _ => true) true Tryz.f3.params.toList args.toList ds p := hA0
  rw [Tryz.params3] at hA hval
  obtain ⟨v0, d0, rfl, rfl, h0⟩ := trodAll_one hA
  obtain ⟨rfl, rfl⟩ := trodVars_none hV
  have hk0 := h0
  obtain ⟨x0, hx0⟩ := arg_fam (hval 0 22 v0 rfl rfl) h0
  clear hA0 hval0
  refine Calls.mono (blameBlockers_any x0 W v0 hx0 (fun e W' => e = .returned (.bool true) ∧ Grow W W') (fun W' hg => ⟨rfl, hg⟩)) fun e W' ⟨he, hB⟩ => ?_
  subst he
  have hlt0 : ∀ x ∈ p, x.block < W.heap.size := fun x hx => hW'.lt x (List.mem_append_left _ hx)
  have ht0 := Below.trod Tryz.laidOut (by kernel_rfl) (of_decide_eq_true (by kernel_rfl)) hk0 hB hlt0
  exact ⟨_, rfl, _, _, _, [], p, [], hW', trodAll_mk1 (shut_bool Tryz.underlying4 true), trodAll_mk1 ht0, rfl, hB.frame _, fun h => by cases h⟩

theorem blameBlockers_holds : Rows.BlameBlockersSaid :=
  OpenClaim.holds_of_wide 3 Tryz.f3 rfl rfl rfl rfl rfl rfl rfl ⟨rfl, rfl, rfl, rfl, rfl⟩ rfl rfl rfl rfl rfl (by kernel_rfl) Tryz.func3 (by kernel_rfl)
    (of_decide_eq_true (by kernel_rfl)) (by unfold Func.isWrapper; first | (rw [if_pos (by decide +kernel)]; kernel_rfl) | (rw [if_neg (by decide +kernel)]; exact ⟨rfl, rfl⟩))
    (fun os started H enc _ => blameBlockers_lifted os started H enc)

end Go.Proofs.YtmlbgfnddgbpbaaGreat
