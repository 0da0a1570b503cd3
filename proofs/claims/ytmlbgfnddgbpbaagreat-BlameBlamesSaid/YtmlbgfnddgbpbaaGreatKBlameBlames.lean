/-
The statement BlameBlames: which sets of lines are to blame is what the document says, for all programs, tests and lists, and each of them hits the slices. No condition.
-/
import Derived.Test.YtmlbgfnddgbpbaaGreatD19
import Derived.Test.YtmlbgfnddgbpbaaGreatD28
import Derived.ProofKit
import Derived.Lib.SmallJoins
import Derived.Test.YtmlbgfnddgbpbaaGreatD23
namespace Go.Proofs.YtmlbgfnddgbpbaaGreat
open Go.RowKit
open Mk Bm

set_option maxRecDepth 100000 in
set_option maxHeartbeats 16000000 in
theorem blameBlames_any (p : List Ln) (l : List Tst) (lines : List Int) (w : World) (vp vl vlines : Value) (hp : LinesAt w vp p) (hl : TestsAt w vl l) (hlines : IntsAt w vlines lines) (R : Ending → World → Prop) (hR : ∀ w', Grow w w' → R (.returned (.bool true)) w') :
    Calls Tryz.prog 14 #[vp, vl, vlines] w R := by
  have HR := Lib.hid hR
  have HP_ := Lib.hid hp
  obtain ⟨adp, cpp, rfl, qp1, qp2, _⟩ := hp
  have HL_ := Lib.hid hl
  obtain ⟨⟨adl, cpl, rfl, ql1, ql2, _⟩, _⟩ := hl
  have HLINES_ := Lib.hid hlines
  obtain ⟨adlines, cplines, rfl, qlines1, qlines2, _⟩ := hlines
  clear hR
  obtain ⟨gq0, hgq0⟩ : ∃ z, decide (100 < p.length) = z := ⟨_, rfl⟩
  have HGD0 := Lib.hid hgq0
  clear hgq0
  cases gq0 with
  | true =>
    go_enter Tryz.func14, Tryz.ntmps14
    go_wp2_with fail
    refine long1_any p _ _ (by first | exact HP_.out | exact HP_.out.grow ((Grow.refl _).alloc _) | exact HP_.out.grow (((Grow.refl _).alloc _).alloc _) | exact HP_.out.grow ((((Grow.refl _).alloc _).alloc _).alloc _) | exact HP_.out.grow (((((Grow.refl _).alloc _).alloc _).alloc _).alloc _) | exact HP_.out.grow ((Grow.refl _).drewN _)) _ ?_
    rw [HGD0.out]
    go_wp2_with fail
    refine known3_any _ _ ?_
    intro wz1 hg1 
    have hgr1 : Grow w wz1 := by first | exact hg1 | exact Grow.trans ((Grow.refl _).alloc _) hg1 | exact Grow.trans (((Grow.refl _).alloc _).alloc _) hg1 | exact Grow.trans ((((Grow.refl _).alloc _).alloc _).alloc _) hg1 | exact Grow.trans (((((Grow.refl _).alloc _).alloc _).alloc _).alloc _) hg1 | exact Grow.trans ((Grow.refl _).drewN _) hg1
    have HP_1 := Lib.hid (HP_.out.grow hgr1)
    have HL_1 := Lib.hid (HL_.out.grow hgr1)
    have HLINES_1 := Lib.hid (HLINES_.out.grow hgr1)
    have GCH1 := Lib.hid hgr1
    clear hg1 hgr1 HP_ HL_ HLINES_
    go_wp2_with fail
    first | exact HR.out _ (GCH1.out) | exact HR.out _ (Grow.trans GCH1.out ((Grow.refl _).alloc _)) | exact HR.out _ (Grow.trans GCH1.out (((Grow.refl _).alloc _).alloc _)) | exact HR.out _ (Grow.trans GCH1.out ((((Grow.refl _).alloc _).alloc _).alloc _)) | exact HR.out _ (Grow.trans GCH1.out (((((Grow.refl _).alloc _).alloc _).alloc _).alloc _)) | exact HR.out _ (Grow.trans GCH1.out ((Grow.refl _).drewN _))
  | false =>
    obtain ⟨gq1, hgq1⟩ : ∃ z, manyT l = z := ⟨_, rfl⟩
    have HGD1 := Lib.hid hgq1
    clear hgq1
    cases gq1 with
    | true =>
      go_enter Tryz.func14, Tryz.ntmps14
      go_wp2_with fail
      refine long1_any p _ _ (by first | exact HP_.out | exact HP_.out.grow ((Grow.refl _).alloc _) | exact HP_.out.grow (((Grow.refl _).alloc _).alloc _) | exact HP_.out.grow ((((Grow.refl _).alloc _).alloc _).alloc _) | exact HP_.out.grow (((((Grow.refl _).alloc _).alloc _).alloc _).alloc _) | exact HP_.out.grow ((Grow.refl _).drewN _)) _ ?_
      rw [HGD0.out]
      go_wp2_with fail
      refine manyT_any l _ _ (by first | exact HL_.out | exact HL_.out.grow ((Grow.refl _).alloc _) | exact HL_.out.grow (((Grow.refl _).alloc _).alloc _) | exact HL_.out.grow ((((Grow.refl _).alloc _).alloc _).alloc _) | exact HL_.out.grow (((((Grow.refl _).alloc _).alloc _).alloc _).alloc _) | exact HL_.out.grow ((Grow.refl _).drewN _)) _ ?_
      intro wz1 hg1 
      have hgr1 : Grow w wz1 := by first | exact hg1 | exact Grow.trans ((Grow.refl _).alloc _) hg1 | exact Grow.trans (((Grow.refl _).alloc _).alloc _) hg1 | exact Grow.trans ((((Grow.refl _).alloc _).alloc _).alloc _) hg1 | exact Grow.trans (((((Grow.refl _).alloc _).alloc _).alloc _).alloc _) hg1 | exact Grow.trans ((Grow.refl _).drewN _) hg1
      have HP_1 := Lib.hid (HP_.out.grow hgr1)
      have HL_1 := Lib.hid (HL_.out.grow hgr1)
      have HLINES_1 := Lib.hid (HLINES_.out.grow hgr1)
      have GCH1 := Lib.hid hgr1
      clear hg1 hgr1 HP_ HL_ HLINES_
      rw [HGD1.out]
      go_wp2_with fail
      refine known3_any _ _ ?_
      intro wz2 hg2 
      have hgr2 : Grow wz1 wz2 := by first | exact hg2 | exact Grow.trans ((Grow.refl _).alloc _) hg2 | exact Grow.trans (((Grow.refl _).alloc _).alloc _) hg2 | exact Grow.trans ((((Grow.refl _).alloc _).alloc _).alloc _) hg2 | exact Grow.trans (((((Grow.refl _).alloc _).alloc _).alloc _).alloc _) hg2 | exact Grow.trans ((Grow.refl _).drewN _) hg2
      have HP_2 := Lib.hid (HP_1.out.grow hgr2)
      have HL_2 := Lib.hid (HL_1.out.grow hgr2)
      have HLINES_2 := Lib.hid (HLINES_1.out.grow hgr2)
      have GCH2 := Lib.hid (GCH1.out.trans hgr2)
      clear hg2 hgr2 HP_1 HL_1 HLINES_1 GCH1
      go_wp2_with fail
      first | exact HR.out _ (GCH2.out) | exact HR.out _ (Grow.trans GCH2.out ((Grow.refl _).alloc _)) | exact HR.out _ (Grow.trans GCH2.out (((Grow.refl _).alloc _).alloc _)) | exact HR.out _ (Grow.trans GCH2.out ((((Grow.refl _).alloc _).alloc _).alloc _)) | exact HR.out _ (Grow.trans GCH2.out (((((Grow.refl _).alloc _).alloc _).alloc _).alloc _)) | exact HR.out _ (Grow.trans GCH2.out ((Grow.refl _).drewN _))
    | false =>
      obtain ⟨gq2, hgq2⟩ : ∃ z, decide (100 < lines.length) = z := ⟨_, rfl⟩
      have HGD2 := Lib.hid hgq2
      clear hgq2
      cases gq2 with
      | true =>
        go_enter Tryz.func14, Tryz.ntmps14
        go_wp2_with fail
        refine long1_any p _ _ (by first | exact HP_.out | exact HP_.out.grow ((Grow.refl _).alloc _) | exact HP_.out.grow (((Grow.refl _).alloc _).alloc _) | exact HP_.out.grow ((((Grow.refl _).alloc _).alloc _).alloc _) | exact HP_.out.grow (((((Grow.refl _).alloc _).alloc _).alloc _).alloc _) | exact HP_.out.grow ((Grow.refl _).drewN _)) _ ?_
        rw [HGD0.out]
        go_wp2_with fail
        refine manyT_any l _ _ (by first | exact HL_.out | exact HL_.out.grow ((Grow.refl _).alloc _) | exact HL_.out.grow (((Grow.refl _).alloc _).alloc _) | exact HL_.out.grow ((((Grow.refl _).alloc _).alloc _).alloc _) | exact HL_.out.grow (((((Grow.refl _).alloc _).alloc _).alloc _).alloc _) | exact HL_.out.grow ((Grow.refl _).drewN _)) _ ?_
        intro wz1 hg1 
        have hgr1 : Grow w wz1 := by first | exact hg1 | exact Grow.trans ((Grow.refl _).alloc _) hg1 | exact Grow.trans (((Grow.refl _).alloc _).alloc _) hg1 | exact Grow.trans ((((Grow.refl _).alloc _).alloc _).alloc _) hg1 | exact Grow.trans (((((Grow.refl _).alloc _).alloc _).alloc _).alloc _) hg1 | exact Grow.trans ((Grow.refl _).drewN _) hg1
        have HP_1 := Lib.hid (HP_.out.grow hgr1)
        have HL_1 := Lib.hid (HL_.out.grow hgr1)
        have HLINES_1 := Lib.hid (HLINES_.out.grow hgr1)
        have GCH1 := Lib.hid hgr1
        clear hg1 hgr1 HP_ HL_ HLINES_
        rw [HGD1.out]
        go_wp2_with fail
        refine large3_any lines _ _ (by first | exact HLINES_1.out | exact HLINES_1.out.grow ((Grow.refl _).alloc _) | exact HLINES_1.out.grow (((Grow.refl _).alloc _).alloc _) | exact HLINES_1.out.grow ((((Grow.refl _).alloc _).alloc _).alloc _) | exact HLINES_1.out.grow (((((Grow.refl _).alloc _).alloc _).alloc _).alloc _) | exact HLINES_1.out.grow ((Grow.refl _).drewN _)) _ ?_
        rw [HGD2.out]
        go_wp2_with fail
        refine known3_any _ _ ?_
        intro wz2 hg2 
        have hgr2 : Grow wz1 wz2 := by first | exact hg2 | exact Grow.trans ((Grow.refl _).alloc _) hg2 | exact Grow.trans (((Grow.refl _).alloc _).alloc _) hg2 | exact Grow.trans ((((Grow.refl _).alloc _).alloc _).alloc _) hg2 | exact Grow.trans (((((Grow.refl _).alloc _).alloc _).alloc _).alloc _) hg2 | exact Grow.trans ((Grow.refl _).drewN _) hg2
        have HP_2 := Lib.hid (HP_1.out.grow hgr2)
        have HL_2 := Lib.hid (HL_1.out.grow hgr2)
        have HLINES_2 := Lib.hid (HLINES_1.out.grow hgr2)
        have GCH2 := Lib.hid (GCH1.out.trans hgr2)
        clear hg2 hgr2 HP_1 HL_1 HLINES_1 GCH1
        go_wp2_with fail
        first | exact HR.out _ (GCH2.out) | exact HR.out _ (Grow.trans GCH2.out ((Grow.refl _).alloc _)) | exact HR.out _ (Grow.trans GCH2.out (((Grow.refl _).alloc _).alloc _)) | exact HR.out _ (Grow.trans GCH2.out ((((Grow.refl _).alloc _).alloc _).alloc _)) | exact HR.out _ (Grow.trans GCH2.out (((((Grow.refl _).alloc _).alloc _).alloc _).alloc _)) | exact HR.out _ (Grow.trans GCH2.out ((Grow.refl _).drewN _))
      | false =>
        obtain ⟨e, he⟩ : ∃ z, ibE p l lines = z := ⟨_, rfl⟩
        have HE := Lib.hid he
        obtain ⟨q, hq⟩ : ∃ z, ibB p l lines = z := ⟨_, rfl⟩
        have HQ := Lib.hid hq
        have t2 : (e != e) = false := by simp
        have hln : lines.length ≤ 1000000 := by have := HGD2.out; simp at this; omega
        cases q with
        | false =>
          clear he hq
          go_enter Tryz.func14, Tryz.ntmps14
          go_wp2_with fail
          refine long1_any p _ _ (by first | exact HP_.out | exact HP_.out.grow ((Grow.refl _).alloc _) | exact HP_.out.grow (((Grow.refl _).alloc _).alloc _) | exact HP_.out.grow ((((Grow.refl _).alloc _).alloc _).alloc _) | exact HP_.out.grow (((((Grow.refl _).alloc _).alloc _).alloc _).alloc _) | exact HP_.out.grow ((Grow.refl _).drewN _)) _ ?_
          rw [HGD0.out]
          go_wp2_with fail
          refine manyT_any l _ _ (by first | exact HL_.out | exact HL_.out.grow ((Grow.refl _).alloc _) | exact HL_.out.grow (((Grow.refl _).alloc _).alloc _) | exact HL_.out.grow ((((Grow.refl _).alloc _).alloc _).alloc _) | exact HL_.out.grow (((((Grow.refl _).alloc _).alloc _).alloc _).alloc _) | exact HL_.out.grow ((Grow.refl _).drewN _)) _ ?_
          intro wz1 hg1 
          have hgr1 : Grow w wz1 := by first | exact hg1 | exact Grow.trans ((Grow.refl _).alloc _) hg1 | exact Grow.trans (((Grow.refl _).alloc _).alloc _) hg1 | exact Grow.trans ((((Grow.refl _).alloc _).alloc _).alloc _) hg1 | exact Grow.trans (((((Grow.refl _).alloc _).alloc _).alloc _).alloc _) hg1 | exact Grow.trans ((Grow.refl _).drewN _) hg1
          have HP_1 := Lib.hid (HP_.out.grow hgr1)
          have HL_1 := Lib.hid (HL_.out.grow hgr1)
          have HLINES_1 := Lib.hid (HLINES_.out.grow hgr1)
          have GCH1 := Lib.hid hgr1
          clear hg1 hgr1 HP_ HL_ HLINES_
          rw [HGD1.out]
          go_wp2_with fail
          refine large3_any lines _ _ (by first | exact HLINES_1.out | exact HLINES_1.out.grow ((Grow.refl _).alloc _) | exact HLINES_1.out.grow (((Grow.refl _).alloc _).alloc _) | exact HLINES_1.out.grow ((((Grow.refl _).alloc _).alloc _).alloc _) | exact HLINES_1.out.grow (((((Grow.refl _).alloc _).alloc _).alloc _).alloc _) | exact HLINES_1.out.grow ((Grow.refl _).drewN _)) _ ?_
          rw [HGD2.out]
          go_wp2_with fail
          refine IsToBlame_any p l lines _ _ _ _ (by first | exact HP_1.out | exact HP_1.out.grow ((Grow.refl _).alloc _) | exact HP_1.out.grow (((Grow.refl _).alloc _).alloc _) | exact HP_1.out.grow ((((Grow.refl _).alloc _).alloc _).alloc _) | exact HP_1.out.grow (((((Grow.refl _).alloc _).alloc _).alloc _).alloc _) | exact HP_1.out.grow ((Grow.refl _).drewN _)) (by first | exact HL_1.out | exact HL_1.out.grow ((Grow.refl _).alloc _) | exact HL_1.out.grow (((Grow.refl _).alloc _).alloc _) | exact HL_1.out.grow ((((Grow.refl _).alloc _).alloc _).alloc _) | exact HL_1.out.grow (((((Grow.refl _).alloc _).alloc _).alloc _).alloc _) | exact HL_1.out.grow ((Grow.refl _).drewN _)) (by first | exact HLINES_1.out | exact HLINES_1.out.grow ((Grow.refl _).alloc _) | exact HLINES_1.out.grow (((Grow.refl _).alloc _).alloc _) | exact HLINES_1.out.grow ((((Grow.refl _).alloc _).alloc _).alloc _) | exact HLINES_1.out.grow (((((Grow.refl _).alloc _).alloc _).alloc _).alloc _) | exact HLINES_1.out.grow ((Grow.refl _).drewN _)) hln _ ?_
          intro wz2 hg2 
          have hgr2 : Grow wz1 wz2 := by first | exact hg2 | exact Grow.trans ((Grow.refl _).alloc _) hg2 | exact Grow.trans (((Grow.refl _).alloc _).alloc _) hg2 | exact Grow.trans ((((Grow.refl _).alloc _).alloc _).alloc _) hg2 | exact Grow.trans (((((Grow.refl _).alloc _).alloc _).alloc _).alloc _) hg2 | exact Grow.trans ((Grow.refl _).drewN _) hg2
          have HP_2 := Lib.hid (HP_1.out.grow hgr2)
          have HL_2 := Lib.hid (HL_1.out.grow hgr2)
          have HLINES_2 := Lib.hid (HLINES_1.out.grow hgr2)
          have GCH2 := Lib.hid (GCH1.out.trans hgr2)
          clear hg2 hgr2 HP_1 HL_1 HLINES_1 GCH1
          rw [HE.out, HQ.out]
          go_wp2_with fail
          refine r3IsToBlame_any p l lines _ _ _ _ (by first | exact HP_2.out | exact HP_2.out.grow ((Grow.refl _).alloc _) | exact HP_2.out.grow (((Grow.refl _).alloc _).alloc _) | exact HP_2.out.grow ((((Grow.refl _).alloc _).alloc _).alloc _) | exact HP_2.out.grow (((((Grow.refl _).alloc _).alloc _).alloc _).alloc _) | exact HP_2.out.grow ((Grow.refl _).drewN _)) (by first | exact HL_2.out | exact HL_2.out.grow ((Grow.refl _).alloc _) | exact HL_2.out.grow (((Grow.refl _).alloc _).alloc _) | exact HL_2.out.grow ((((Grow.refl _).alloc _).alloc _).alloc _) | exact HL_2.out.grow (((((Grow.refl _).alloc _).alloc _).alloc _).alloc _) | exact HL_2.out.grow ((Grow.refl _).drewN _)) (by first | exact HLINES_2.out | exact HLINES_2.out.grow ((Grow.refl _).alloc _) | exact HLINES_2.out.grow (((Grow.refl _).alloc _).alloc _) | exact HLINES_2.out.grow ((((Grow.refl _).alloc _).alloc _).alloc _) | exact HLINES_2.out.grow (((((Grow.refl _).alloc _).alloc _).alloc _).alloc _) | exact HLINES_2.out.grow ((Grow.refl _).drewN _)) _ ?_
          intro wz3 hg3 
          have hgr3 : Grow wz2 wz3 := by first | exact hg3 | exact Grow.trans ((Grow.refl _).alloc _) hg3 | exact Grow.trans (((Grow.refl _).alloc _).alloc _) hg3 | exact Grow.trans ((((Grow.refl _).alloc _).alloc _).alloc _) hg3 | exact Grow.trans (((((Grow.refl _).alloc _).alloc _).alloc _).alloc _) hg3 | exact Grow.trans ((Grow.refl _).drewN _) hg3
          have HP_3 := Lib.hid (HP_2.out.grow hgr3)
          have HL_3 := Lib.hid (HL_2.out.grow hgr3)
          have HLINES_3 := Lib.hid (HLINES_2.out.grow hgr3)
          have GCH3 := Lib.hid (GCH2.out.trans hgr3)
          clear hg3 hgr3 HP_2 HL_2 HLINES_2 GCH2
          rw [HE.out, HQ.out]
          go_wp2_with fail
          refine known3_any _ _ ?_
          intro wz4 hg4 
          have hgr4 : Grow wz3 wz4 := by first | exact hg4 | exact Grow.trans ((Grow.refl _).alloc _) hg4 | exact Grow.trans (((Grow.refl _).alloc _).alloc _) hg4 | exact Grow.trans ((((Grow.refl _).alloc _).alloc _).alloc _) hg4 | exact Grow.trans (((((Grow.refl _).alloc _).alloc _).alloc _).alloc _) hg4 | exact Grow.trans ((Grow.refl _).drewN _) hg4
          have HP_4 := Lib.hid (HP_3.out.grow hgr4)
          have HL_4 := Lib.hid (HL_3.out.grow hgr4)
          have HLINES_4 := Lib.hid (HLINES_3.out.grow hgr4)
          have GCH4 := Lib.hid (GCH3.out.trans hgr4)
          clear hg4 hgr4 HP_3 HL_3 HLINES_3 GCH3
          go_wp2_with fail
          first | exact HR.out _ (GCH4.out) | exact HR.out _ (Grow.trans GCH4.out ((Grow.refl _).alloc _)) | exact HR.out _ (Grow.trans GCH4.out (((Grow.refl _).alloc _).alloc _)) | exact HR.out _ (Grow.trans GCH4.out ((((Grow.refl _).alloc _).alloc _).alloc _)) | exact HR.out _ (Grow.trans GCH4.out (((((Grow.refl _).alloc _).alloc _).alloc _).alloc _)) | exact HR.out _ (Grow.trans GCH4.out ((Grow.refl _).drewN _))
        | true =>
          have hq2 := hq
          unfold ibB at hq2
          rw [Bool.and_eq_true, decide_eq_true_eq] at hq2
          have hc : chkT p l = 0 := by have h := hq2.1; unfold ibE at h; by_cases hc : chkT p l = 0; exact hc; rw [if_neg hc] at h; exact absurd h hc
          have hlz : lnE p lines = 0 := by have h := hq2.1; unfold ibE at h; rwa [if_pos hc] at h
          obtain ⟨h1, h2⟩ := blm_hitsB hc hlz hq2.2
          obtain ⟨A, hA⟩ : ∃ z, slcO p l = z := ⟨_, rfl⟩
          have hA2 : slcs p l = A := by rw [← hA]; unfold slcO; rw [hc, ifOK_ok]
          rw [hA2] at h1 h2
          have HA := Lib.hid hA
          have HC := Lib.hid hc
          have H1 := Lib.hid h1
          have H2 := Lib.hid h2
          have HE0 := Lib.hid hq2.1
          clear he hq hq2 hc hlz h1 h2 hA hA2
          go_enter Tryz.func14, Tryz.ntmps14
          go_wp2_with fail
          refine long1_any p _ _ (by first | exact HP_.out | exact HP_.out.grow ((Grow.refl _).alloc _) | exact HP_.out.grow (((Grow.refl _).alloc _).alloc _) | exact HP_.out.grow ((((Grow.refl _).alloc _).alloc _).alloc _) | exact HP_.out.grow (((((Grow.refl _).alloc _).alloc _).alloc _).alloc _) | exact HP_.out.grow ((Grow.refl _).drewN _)) _ ?_
          rw [HGD0.out]
          go_wp2_with fail
          refine manyT_any l _ _ (by first | exact HL_.out | exact HL_.out.grow ((Grow.refl _).alloc _) | exact HL_.out.grow (((Grow.refl _).alloc _).alloc _) | exact HL_.out.grow ((((Grow.refl _).alloc _).alloc _).alloc _) | exact HL_.out.grow (((((Grow.refl _).alloc _).alloc _).alloc _).alloc _) | exact HL_.out.grow ((Grow.refl _).drewN _)) _ ?_
          intro wz1 hg1 
          have hgr1 : Grow w wz1 := by first | exact hg1 | exact Grow.trans ((Grow.refl _).alloc _) hg1 | exact Grow.trans (((Grow.refl _).alloc _).alloc _) hg1 | exact Grow.trans ((((Grow.refl _).alloc _).alloc _).alloc _) hg1 | exact Grow.trans (((((Grow.refl _).alloc _).alloc _).alloc _).alloc _) hg1 | exact Grow.trans ((Grow.refl _).drewN _) hg1
          have HP_1 := Lib.hid (HP_.out.grow hgr1)
          have HL_1 := Lib.hid (HL_.out.grow hgr1)
          have HLINES_1 := Lib.hid (HLINES_.out.grow hgr1)
          have GCH1 := Lib.hid hgr1
          clear hg1 hgr1 HP_ HL_ HLINES_
          rw [HGD1.out]
          go_wp2_with fail
          refine large3_any lines _ _ (by first | exact HLINES_1.out | exact HLINES_1.out.grow ((Grow.refl _).alloc _) | exact HLINES_1.out.grow (((Grow.refl _).alloc _).alloc _) | exact HLINES_1.out.grow ((((Grow.refl _).alloc _).alloc _).alloc _) | exact HLINES_1.out.grow (((((Grow.refl _).alloc _).alloc _).alloc _).alloc _) | exact HLINES_1.out.grow ((Grow.refl _).drewN _)) _ ?_
          rw [HGD2.out]
          go_wp2_with fail
          refine IsToBlame_any p l lines _ _ _ _ (by first | exact HP_1.out | exact HP_1.out.grow ((Grow.refl _).alloc _) | exact HP_1.out.grow (((Grow.refl _).alloc _).alloc _) | exact HP_1.out.grow ((((Grow.refl _).alloc _).alloc _).alloc _) | exact HP_1.out.grow (((((Grow.refl _).alloc _).alloc _).alloc _).alloc _) | exact HP_1.out.grow ((Grow.refl _).drewN _)) (by first | exact HL_1.out | exact HL_1.out.grow ((Grow.refl _).alloc _) | exact HL_1.out.grow (((Grow.refl _).alloc _).alloc _) | exact HL_1.out.grow ((((Grow.refl _).alloc _).alloc _).alloc _) | exact HL_1.out.grow (((((Grow.refl _).alloc _).alloc _).alloc _).alloc _) | exact HL_1.out.grow ((Grow.refl _).drewN _)) (by first | exact HLINES_1.out | exact HLINES_1.out.grow ((Grow.refl _).alloc _) | exact HLINES_1.out.grow (((Grow.refl _).alloc _).alloc _) | exact HLINES_1.out.grow ((((Grow.refl _).alloc _).alloc _).alloc _) | exact HLINES_1.out.grow (((((Grow.refl _).alloc _).alloc _).alloc _).alloc _) | exact HLINES_1.out.grow ((Grow.refl _).drewN _)) hln _ ?_
          intro wz2 hg2 
          have hgr2 : Grow wz1 wz2 := by first | exact hg2 | exact Grow.trans ((Grow.refl _).alloc _) hg2 | exact Grow.trans (((Grow.refl _).alloc _).alloc _) hg2 | exact Grow.trans ((((Grow.refl _).alloc _).alloc _).alloc _) hg2 | exact Grow.trans (((((Grow.refl _).alloc _).alloc _).alloc _).alloc _) hg2 | exact Grow.trans ((Grow.refl _).drewN _) hg2
          have HP_2 := Lib.hid (HP_1.out.grow hgr2)
          have HL_2 := Lib.hid (HL_1.out.grow hgr2)
          have HLINES_2 := Lib.hid (HLINES_1.out.grow hgr2)
          have GCH2 := Lib.hid (GCH1.out.trans hgr2)
          clear hg2 hgr2 HP_1 HL_1 HLINES_1 GCH1
          rw [HE0.out, HQ.out]
          go_wp2_with fail
          refine r3IsToBlame_any p l lines _ _ _ _ (by first | exact HP_2.out | exact HP_2.out.grow ((Grow.refl _).alloc _) | exact HP_2.out.grow (((Grow.refl _).alloc _).alloc _) | exact HP_2.out.grow ((((Grow.refl _).alloc _).alloc _).alloc _) | exact HP_2.out.grow (((((Grow.refl _).alloc _).alloc _).alloc _).alloc _) | exact HP_2.out.grow ((Grow.refl _).drewN _)) (by first | exact HL_2.out | exact HL_2.out.grow ((Grow.refl _).alloc _) | exact HL_2.out.grow (((Grow.refl _).alloc _).alloc _) | exact HL_2.out.grow ((((Grow.refl _).alloc _).alloc _).alloc _) | exact HL_2.out.grow (((((Grow.refl _).alloc _).alloc _).alloc _).alloc _) | exact HL_2.out.grow ((Grow.refl _).drewN _)) (by first | exact HLINES_2.out | exact HLINES_2.out.grow ((Grow.refl _).alloc _) | exact HLINES_2.out.grow (((Grow.refl _).alloc _).alloc _) | exact HLINES_2.out.grow ((((Grow.refl _).alloc _).alloc _).alloc _) | exact HLINES_2.out.grow (((((Grow.refl _).alloc _).alloc _).alloc _).alloc _) | exact HLINES_2.out.grow ((Grow.refl _).drewN _)) _ ?_
          intro wz3 hg3 
          have hgr3 : Grow wz2 wz3 := by first | exact hg3 | exact Grow.trans ((Grow.refl _).alloc _) hg3 | exact Grow.trans (((Grow.refl _).alloc _).alloc _) hg3 | exact Grow.trans ((((Grow.refl _).alloc _).alloc _).alloc _) hg3 | exact Grow.trans (((((Grow.refl _).alloc _).alloc _).alloc _).alloc _) hg3 | exact Grow.trans ((Grow.refl _).drewN _) hg3
          have HP_3 := Lib.hid (HP_2.out.grow hgr3)
          have HL_3 := Lib.hid (HL_2.out.grow hgr3)
          have HLINES_3 := Lib.hid (HLINES_2.out.grow hgr3)
          have GCH3 := Lib.hid (GCH2.out.trans hgr3)
          clear hg3 hgr3 HP_2 HL_2 HLINES_2 GCH2
          rw [HE0.out, HQ.out]
          go_wp2_with fail
          refine Slices_any p l _ _ _ (by first | exact HP_3.out | exact HP_3.out.grow ((Grow.refl _).alloc _) | exact HP_3.out.grow (((Grow.refl _).alloc _).alloc _) | exact HP_3.out.grow ((((Grow.refl _).alloc _).alloc _).alloc _) | exact HP_3.out.grow (((((Grow.refl _).alloc _).alloc _).alloc _).alloc _) | exact HP_3.out.grow ((Grow.refl _).drewN _)) (by first | exact HL_3.out | exact HL_3.out.grow ((Grow.refl _).alloc _) | exact HL_3.out.grow (((Grow.refl _).alloc _).alloc _) | exact HL_3.out.grow ((((Grow.refl _).alloc _).alloc _).alloc _) | exact HL_3.out.grow (((((Grow.refl _).alloc _).alloc _).alloc _).alloc _) | exact HL_3.out.grow ((Grow.refl _).drewN _)) _ ?_
          intro wz4 x4_0 hg4 hx4_0
          have hgr4 : Grow wz3 wz4 := by first | exact hg4 | exact Grow.trans ((Grow.refl _).alloc _) hg4 | exact Grow.trans (((Grow.refl _).alloc _).alloc _) hg4 | exact Grow.trans ((((Grow.refl _).alloc _).alloc _).alloc _) hg4 | exact Grow.trans (((((Grow.refl _).alloc _).alloc _).alloc _).alloc _) hg4 | exact Grow.trans ((Grow.refl _).drewN _) hg4
          have HP_4 := Lib.hid (HP_3.out.grow hgr4)
          have HL_4 := Lib.hid (HL_3.out.grow hgr4)
          have HLINES_4 := Lib.hid (HLINES_3.out.grow hgr4)
          have GCH4 := Lib.hid (GCH3.out.trans hgr4)
          clear hg4 hgr4 HP_3 HL_3 HLINES_3 GCH3
          rw [HA.out] at hx4_0
          have hyHFAMA_4 := hx4_0
          have HFAMA_4 := Lib.hid hyHFAMA_4
          obtain ⟨aHFAMA_4, cHFAMA_4, rfl, qHFAMA_41, qHFAMA_42⟩ := FamAt.out hyHFAMA_4
          clear hx4_0
          rw [HC.out]
          go_wp2_with fail
          refine Hits_any A lines _ _ _ (by first | exact HFAMA_4.out | exact HFAMA_4.out.grow ((Grow.refl _).alloc _) | exact HFAMA_4.out.grow (((Grow.refl _).alloc _).alloc _) | exact HFAMA_4.out.grow ((((Grow.refl _).alloc _).alloc _).alloc _) | exact HFAMA_4.out.grow (((((Grow.refl _).alloc _).alloc _).alloc _).alloc _) | exact HFAMA_4.out.grow ((Grow.refl _).drewN _)) (by first | exact HLINES_4.out | exact HLINES_4.out.grow ((Grow.refl _).alloc _) | exact HLINES_4.out.grow (((Grow.refl _).alloc _).alloc _) | exact HLINES_4.out.grow ((((Grow.refl _).alloc _).alloc _).alloc _) | exact HLINES_4.out.grow (((((Grow.refl _).alloc _).alloc _).alloc _).alloc _) | exact HLINES_4.out.grow ((Grow.refl _).drewN _)) _ ?_
          intro wz5 hg5 
          have hgr5 : Grow wz4 wz5 := by first | exact hg5 | exact Grow.trans ((Grow.refl _).alloc _) hg5 | exact Grow.trans (((Grow.refl _).alloc _).alloc _) hg5 | exact Grow.trans ((((Grow.refl _).alloc _).alloc _).alloc _) hg5 | exact Grow.trans (((((Grow.refl _).alloc _).alloc _).alloc _).alloc _) hg5 | exact Grow.trans ((Grow.refl _).drewN _) hg5
          have HP_5 := Lib.hid (HP_4.out.grow hgr5)
          have HL_5 := Lib.hid (HL_4.out.grow hgr5)
          have HLINES_5 := Lib.hid (HLINES_4.out.grow hgr5)
          have HFAMA_5 := Lib.hid (HFAMA_4.out.grow hgr5)
          have GCH5 := Lib.hid (GCH4.out.trans hgr5)
          clear hg5 hgr5 HP_4 HL_4 HLINES_4 HFAMA_4 GCH4
          rw [H1.out, H2.out]
          go_wp2_with fail
          refine known3_any _ _ ?_
          intro wz6 hg6 
          have hgr6 : Grow wz5 wz6 := by first | exact hg6 | exact Grow.trans ((Grow.refl _).alloc _) hg6 | exact Grow.trans (((Grow.refl _).alloc _).alloc _) hg6 | exact Grow.trans ((((Grow.refl _).alloc _).alloc _).alloc _) hg6 | exact Grow.trans (((((Grow.refl _).alloc _).alloc _).alloc _).alloc _) hg6 | exact Grow.trans ((Grow.refl _).drewN _) hg6
          have HP_6 := Lib.hid (HP_5.out.grow hgr6)
          have HL_6 := Lib.hid (HL_5.out.grow hgr6)
          have HLINES_6 := Lib.hid (HLINES_5.out.grow hgr6)
          have HFAMA_6 := Lib.hid (HFAMA_5.out.grow hgr6)
          have GCH6 := Lib.hid (GCH5.out.trans hgr6)
          clear hg6 hgr6 HP_5 HL_5 HLINES_5 HFAMA_5 GCH5
          go_wp2_with fail
          first | exact HR.out _ (GCH6.out) | exact HR.out _ (Grow.trans GCH6.out ((Grow.refl _).alloc _)) | exact HR.out _ (Grow.trans GCH6.out (((Grow.refl _).alloc _).alloc _)) | exact HR.out _ (Grow.trans GCH6.out ((((Grow.refl _).alloc _).alloc _).alloc _)) | exact HR.out _ (Grow.trans GCH6.out (((((Grow.refl _).alloc _).alloc _).alloc _).alloc _)) | exact HR.out _ (Grow.trans GCH6.out ((Grow.refl _).drewN _))
end Go.Proofs.YtmlbgfnddgbpbaaGreat

namespace Go.Proofs.YtmlbgfnddgbpbaaGreat
open Go.ChangeShapes Go.WideShapes Go.ChangeAt Go.RowKit

theorem Tryz.own : ownKnob Tryz.prog.godebug = none := by kernel_rfl
theorem Tryz.laidOut : laidOutB Tryz.prog = true := by kernel_rfl

set_option maxRecDepth 100000 in
set_option maxHeartbeats 4000000 in
theorem blameBlames_lifted (os : Os) (started : os.Started) (H : Type) (enc : TypeId × Value → H) :
    ReturnsInHanded {} Tryz.checked os 14 .any (Rows.blameBlamesSpec.pre6 enc Tryz.prog Tryz.f14 Rows.blameBlamesRow.domain false) (Rows.blameBlamesSpec.post enc Tryz.prog Tryz.f14 false true false false) := by
  refine returnsInHanded_of_change (C := Tryz.checked) Tryz.own started (by kernel_rfl) Tryz.func14
    (ChangeSpec.witness6 (enc := enc) (C := Tryz.checked) false ⟨#[], #[.slice none 0 0, .slice none 0 0, .slice none 0 0], []⟩ 8 (by kernel_rfl) (by kernel_rfl) (by kernel_rfl) (by kernel_rfl)) ?_
  intro W base args ds gs before hval0 hW hcnd _
  have hval : ∀ (j : Nat) t v, Tryz.f14.params[j]? = some t → args[j]? = some v → Value.okWide Tryz.prog W .any base t v := hval0
  have hW' := hW
  obtain ⟨p, q, hA0, hV, rfl, hfz, hnd⟩ := hW
  have hA : DataW.TrodAll enc Tryz.prog W 0 (fun _ => true) true Tryz.f14.params.toList args.toList ds p := hA0
  rw [Tryz.params14] at hA hval
  obtain ⟨v0, v1, v2, d0, d1, d2, p0, p1, p2, rfl, rfl, rfl, h0, h1, h2⟩ := trodAll_three hA
  obtain ⟨rfl, rfl⟩ := trodVars_none hV
  have hk0 := h0
  have hk1 := h1
  have hk2 := h2
  obtain ⟨x0, hx0⟩ := arg_lines (hval 0 35 v0 rfl rfl) h0
  obtain ⟨x1, hx1⟩ := arg_tests (hval 1 43 v1 rfl rfl) h1
  obtain ⟨x2, hx2⟩ := arg_ints (hval 2 29 v2 rfl rfl) h2
  clear hA0 hval0
  refine Calls.mono (blameBlames_any x0 x1 x2 W v0 v1 v2 hx0 hx1 hx2 (fun e W' => e = .returned (.bool true) ∧ Grow W W') (fun W' hg => ⟨rfl, hg⟩)) fun e W' ⟨he, hB⟩ => ?_
  subst he
  have hlt0 : ∀ x ∈ p0, x.block < W.heap.size := fun x hx => hW'.lt x (List.mem_append_left _ (List.mem_append_left _ (List.mem_append_left _ (hx))))
  have ht0 := Below.trod Tryz.laidOut (by kernel_rfl) (of_decide_eq_true (by kernel_rfl)) hk0 hB hlt0
  have hlt1 : ∀ x ∈ p1, x.block < W.heap.size := fun x hx => hW'.lt x (List.mem_append_left _ (List.mem_append_left _ (List.mem_append_right _ hx)))
  have ht1 := Below.trod Tryz.laidOut (by kernel_rfl) (of_decide_eq_true (by kernel_rfl)) hk1 hB hlt1
  have hlt2 : ∀ x ∈ p2, x.block < W.heap.size := fun x hx => hW'.lt x (List.mem_append_left _ (List.mem_append_right _ hx))
  have ht2 := Below.trod Tryz.laidOut (by kernel_rfl) (of_decide_eq_true (by kernel_rfl)) hk2 hB hlt2
  exact ⟨_, rfl, _, _, _, [], _, [], hW', trodAll_mk1 (shut_bool Tryz.underlying4 true), trodAll_mk3 ht0 ht1 ht2, rfl, hB.frame _, fun h => by cases h⟩

theorem blameBlames_holds : Rows.BlameBlamesSaid :=
  OpenClaim.holds_of_wide 14 Tryz.f14 rfl rfl rfl rfl rfl rfl rfl ⟨rfl, rfl, rfl, rfl, rfl⟩ rfl rfl rfl rfl rfl (by kernel_rfl) Tryz.func14 (by kernel_rfl)
    (of_decide_eq_true (by kernel_rfl)) (by unfold Func.isWrapper; first | (rw [if_pos (by decide +kernel)]; kernel_rfl) | (rw [if_neg (by decide +kernel)]; exact ⟨rfl, rfl⟩))
    (fun os started H enc _ => blameBlames_lifted os started H enc)

end Go.Proofs.YtmlbgfnddgbpbaaGreat
