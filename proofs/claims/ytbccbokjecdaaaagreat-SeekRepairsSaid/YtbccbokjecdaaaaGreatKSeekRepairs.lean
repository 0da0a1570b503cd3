/-
The statement SeekRepairs: the repair that is proposed is what the document says; after it all tests pass, and no part of it is enough, for all programs and tests. No condition.
-/
import Derived.Test.YtbccbokjecdaaaaGreatD10
import Derived.Test.YtbccbokjecdaaaaGreatD11
import Derived.Test.YtbccbokjecdaaaaGreatD26
import Derived.ProofKit
import Derived.Lib.SmallJoins
import Derived.Test.YtbccbokjecdaaaaGreatD25
namespace Go.Proofs.YtbccbokjecdaaaaGreat
open Go.RowKit

set_option maxRecDepth 100000 in
set_option maxHeartbeats 32000000 in
theorem seekRepairs_any (p : List Ln) (l : List Tst) (w : World) (vp vl : Value) (hp : LinesAt w vp p) (hl : TestsAt w vl l) (R : Ending → World → Prop) (hR : ∀ w', Grow w w' → R (.returned (.bool true)) w') :
    Calls Tryz.prog 11 #[vp, vl] w R := by
  have HR := Lib.hid hR
  have HP_ := Lib.hid hp
  obtain ⟨adp, cpp, rfl, qp1, qp2, _⟩ := hp
  have HL_ := Lib.hid hl
  obtain ⟨⟨adl, cpl, rfl, ql1, ql2, _⟩, _⟩ := hl
  clear hR
  by_cases gd0 : 100 < p.length
  · have hd0 : decide (100 < p.length) = true := decide_eq_true gd0
    have HD0 := Lib.hid hd0
    clear hd0 gd0
    go_enter Tryz.func11, Tryz.ntmps11
    go_wp2_with fail
    refine long4_any p _ _ (by first | exact HP_.out | exact HP_.out.grow ((Grow.refl _).alloc _) | exact HP_.out.grow (((Grow.refl _).alloc _).alloc _) | exact HP_.out.grow ((((Grow.refl _).alloc _).alloc _).alloc _) | exact HP_.out.grow (((((Grow.refl _).alloc _).alloc _).alloc _).alloc _) | exact HP_.out.grow ((Grow.refl _).drewN _)) _ ?_
    rw [HD0.out]
    go_wp2_with fail
    refine ssame_any _ _ ?_
    intro wz1 hg1 
    have hgr1 : Grow w wz1 := by first | exact hg1 | exact Grow.trans ((Grow.refl _).alloc _) hg1 | exact Grow.trans (((Grow.refl _).alloc _).alloc _) hg1 | exact Grow.trans ((((Grow.refl _).alloc _).alloc _).alloc _) hg1 | exact Grow.trans (((((Grow.refl _).alloc _).alloc _).alloc _).alloc _) hg1 | exact Grow.trans ((Grow.refl _).drewN _) hg1
    have HP_1 := Lib.hid (HP_.out.grow hgr1)
    have HL_1 := Lib.hid (HL_.out.grow hgr1)
    have GCH1 := Lib.hid hgr1
    clear hg1 hgr1 HP_ HL_
    go_wp2_with fail
    first | exact HR.out _ (GCH1.out) | exact HR.out _ (Grow.trans GCH1.out ((Grow.refl _).alloc _)) | exact HR.out _ (Grow.trans GCH1.out (((Grow.refl _).alloc _).alloc _)) | exact HR.out _ (Grow.trans GCH1.out ((((Grow.refl _).alloc _).alloc _).alloc _)) | exact HR.out _ (Grow.trans GCH1.out (((((Grow.refl _).alloc _).alloc _).alloc _).alloc _)) | exact HR.out _ (Grow.trans GCH1.out ((Grow.refl _).drewN _))
  · have hd0 : decide (100 < p.length) = false := decide_eq_false gd0
    have HD0 := Lib.hid hd0
    clear hd0
    obtain ⟨mb, hmb⟩ : ∃ z, manyB l = z := ⟨_, rfl⟩
    have HMB := Lib.hid hmb
    clear hmb
    cases mb with
    | true =>
      go_enter Tryz.func11, Tryz.ntmps11
      go_wp2_with fail
      refine long4_any p _ _ (by first | exact HP_.out | exact HP_.out.grow ((Grow.refl _).alloc _) | exact HP_.out.grow (((Grow.refl _).alloc _).alloc _) | exact HP_.out.grow ((((Grow.refl _).alloc _).alloc _).alloc _) | exact HP_.out.grow (((((Grow.refl _).alloc _).alloc _).alloc _).alloc _) | exact HP_.out.grow ((Grow.refl _).drewN _)) _ ?_
      rw [HD0.out]
      go_wp2_with fail
      refine many_any l _ _ (by first | exact HL_.out | exact HL_.out.grow ((Grow.refl _).alloc _) | exact HL_.out.grow (((Grow.refl _).alloc _).alloc _) | exact HL_.out.grow ((((Grow.refl _).alloc _).alloc _).alloc _) | exact HL_.out.grow (((((Grow.refl _).alloc _).alloc _).alloc _).alloc _) | exact HL_.out.grow ((Grow.refl _).drewN _)) _ ?_
      intro wz1 hg1 
      have hgr1 : Grow w wz1 := by first | exact hg1 | exact Grow.trans ((Grow.refl _).alloc _) hg1 | exact Grow.trans (((Grow.refl _).alloc _).alloc _) hg1 | exact Grow.trans ((((Grow.refl _).alloc _).alloc _).alloc _) hg1 | exact Grow.trans (((((Grow.refl _).alloc _).alloc _).alloc _).alloc _) hg1 | exact Grow.trans ((Grow.refl _).drewN _) hg1
      have HP_1 := Lib.hid (HP_.out.grow hgr1)
      have HL_1 := Lib.hid (HL_.out.grow hgr1)
      have GCH1 := Lib.hid hgr1
      clear hg1 hgr1 HP_ HL_
      rw [HMB.out]
      go_wp2_with fail
      refine ssame_any _ _ ?_
      intro wz2 hg2 
      have hgr2 : Grow wz1 wz2 := by first | exact hg2 | exact Grow.trans ((Grow.refl _).alloc _) hg2 | exact Grow.trans (((Grow.refl _).alloc _).alloc _) hg2 | exact Grow.trans ((((Grow.refl _).alloc _).alloc _).alloc _) hg2 | exact Grow.trans (((((Grow.refl _).alloc _).alloc _).alloc _).alloc _) hg2 | exact Grow.trans ((Grow.refl _).drewN _) hg2
      have HP_2 := Lib.hid (HP_1.out.grow hgr2)
      have HL_2 := Lib.hid (HL_1.out.grow hgr2)
      have GCH2 := Lib.hid (GCH1.out.trans hgr2)
      clear hg2 hgr2 HP_1 HL_1 GCH1
      go_wp2_with fail
      first | exact HR.out _ (GCH2.out) | exact HR.out _ (Grow.trans GCH2.out ((Grow.refl _).alloc _)) | exact HR.out _ (Grow.trans GCH2.out (((Grow.refl _).alloc _).alloc _)) | exact HR.out _ (Grow.trans GCH2.out ((((Grow.refl _).alloc _).alloc _).alloc _)) | exact HR.out _ (Grow.trans GCH2.out (((((Grow.refl _).alloc _).alloc _).alloc _).alloc _)) | exact HR.out _ (Grow.trans GCH2.out ((Grow.refl _).drewN _))
    | false =>
      obtain ⟨e, he⟩ : ∃ z, sgtE p l 0 = z := ⟨_, rfl⟩
      have HE := Lib.hid he
      have t2 : (e != e) = false := by simp
      clear he
      go_enter Tryz.func11, Tryz.ntmps11
      go_wp2_with fail
      refine long4_any p _ _ (by first | exact HP_.out | exact HP_.out.grow ((Grow.refl _).alloc _) | exact HP_.out.grow (((Grow.refl _).alloc _).alloc _) | exact HP_.out.grow ((((Grow.refl _).alloc _).alloc _).alloc _) | exact HP_.out.grow (((((Grow.refl _).alloc _).alloc _).alloc _).alloc _) | exact HP_.out.grow ((Grow.refl _).drewN _)) _ ?_
      rw [HD0.out]
      go_wp2_with fail
      refine many_any l _ _ (by first | exact HL_.out | exact HL_.out.grow ((Grow.refl _).alloc _) | exact HL_.out.grow (((Grow.refl _).alloc _).alloc _) | exact HL_.out.grow ((((Grow.refl _).alloc _).alloc _).alloc _) | exact HL_.out.grow (((((Grow.refl _).alloc _).alloc _).alloc _).alloc _) | exact HL_.out.grow ((Grow.refl _).drewN _)) _ ?_
      intro wz1 hg1 
      have hgr1 : Grow w wz1 := by first | exact hg1 | exact Grow.trans ((Grow.refl _).alloc _) hg1 | exact Grow.trans (((Grow.refl _).alloc _).alloc _) hg1 | exact Grow.trans ((((Grow.refl _).alloc _).alloc _).alloc _) hg1 | exact Grow.trans (((((Grow.refl _).alloc _).alloc _).alloc _).alloc _) hg1 | exact Grow.trans ((Grow.refl _).drewN _) hg1
      have HP_1 := Lib.hid (HP_.out.grow hgr1)
      have HL_1 := Lib.hid (HL_.out.grow hgr1)
      have GCH1 := Lib.hid hgr1
      clear hg1 hgr1 HP_ HL_
      rw [HMB.out]
      go_wp2_with fail
      refine Repair_any p l _ _ _ (by first | exact HP_1.out | exact HP_1.out.grow ((Grow.refl _).alloc _) | exact HP_1.out.grow (((Grow.refl _).alloc _).alloc _) | exact HP_1.out.grow ((((Grow.refl _).alloc _).alloc _).alloc _) | exact HP_1.out.grow (((((Grow.refl _).alloc _).alloc _).alloc _).alloc _) | exact HP_1.out.grow ((Grow.refl _).drewN _)) (by first | exact HL_1.out | exact HL_1.out.grow ((Grow.refl _).alloc _) | exact HL_1.out.grow (((Grow.refl _).alloc _).alloc _) | exact HL_1.out.grow ((((Grow.refl _).alloc _).alloc _).alloc _) | exact HL_1.out.grow (((((Grow.refl _).alloc _).alloc _).alloc _).alloc _) | exact HL_1.out.grow ((Grow.refl _).drewN _)) _ ?_
      intro wz2 v2 xa na oka hg2 hx2 hsa
      have hgr2 : Grow wz1 wz2 := by first | exact hg2 | exact Grow.trans ((Grow.refl _).alloc _) hg2 | exact Grow.trans (((Grow.refl _).alloc _).alloc _) hg2 | exact Grow.trans ((((Grow.refl _).alloc _).alloc _).alloc _) hg2 | exact Grow.trans (((((Grow.refl _).alloc _).alloc _).alloc _).alloc _) hg2 | exact Grow.trans ((Grow.refl _).drewN _) hg2
      have HP_2 := Lib.hid (HP_1.out.grow hgr2)
      have HL_2 := Lib.hid (HL_1.out.grow hgr2)
      have GCH2 := Lib.hid (GCH1.out.trans hgr2)
      clear hg2 hgr2 HP_1 HL_1 GCH1
      have HXA_2 := Lib.hid hx2
      obtain ⟨aHXA_2, cHXA_2, rfl, qHXA_21, qHXA_22, jk2⟩ := hx2
      clear jk2
      rw [HE.out]
      have HSA := Lib.hid hsa
      clear hsa
      go_wp2_with fail
      refine r5Repair_any p l _ _ _ (by first | exact HP_2.out | exact HP_2.out.grow ((Grow.refl _).alloc _) | exact HP_2.out.grow (((Grow.refl _).alloc _).alloc _) | exact HP_2.out.grow ((((Grow.refl _).alloc _).alloc _).alloc _) | exact HP_2.out.grow (((((Grow.refl _).alloc _).alloc _).alloc _).alloc _) | exact HP_2.out.grow ((Grow.refl _).drewN _)) (by first | exact HL_2.out | exact HL_2.out.grow ((Grow.refl _).alloc _) | exact HL_2.out.grow (((Grow.refl _).alloc _).alloc _) | exact HL_2.out.grow ((((Grow.refl _).alloc _).alloc _).alloc _) | exact HL_2.out.grow (((((Grow.refl _).alloc _).alloc _).alloc _).alloc _) | exact HL_2.out.grow ((Grow.refl _).drewN _)) _ ?_
      intro wz3 v3 xb nb okb hg3 hx3 hsb
      have hgr3 : Grow wz2 wz3 := by first | exact hg3 | exact Grow.trans ((Grow.refl _).alloc _) hg3 | exact Grow.trans (((Grow.refl _).alloc _).alloc _) hg3 | exact Grow.trans ((((Grow.refl _).alloc _).alloc _).alloc _) hg3 | exact Grow.trans (((((Grow.refl _).alloc _).alloc _).alloc _).alloc _) hg3 | exact Grow.trans ((Grow.refl _).drewN _) hg3
      have HP_3 := Lib.hid (HP_2.out.grow hgr3)
      have HL_3 := Lib.hid (HL_2.out.grow hgr3)
      have HXA_3 := Lib.hid (HXA_2.out.grow hgr3)
      have GCH3 := Lib.hid (GCH2.out.trans hgr3)
      clear hg3 hgr3 HP_2 HL_2 HXA_2 GCH2
      have HXB_3 := Lib.hid hx3
      obtain ⟨aHXB_3, cHXB_3, rfl, qHXB_31, qHXB_32, jk3⟩ := hx3
      clear jk3
      rw [HE.out]
      obtain ⟨rfl, rfl, rfl⟩ := hsb.uniq HSA.out
      clear hsb
      have t3 : (nb != nb) = false := by simp
      cases okb with
      | false =>
        obtain ⟨hl0, hn0⟩ := rep_none HSA.out
        subst hl0
        subst hn0
        go_wp2_with fail
        refine rsameE_any ([] : List Ed) ([] : List Ed) _ _ _ (by first | exact HXA_3.out | exact HXA_3.out.grow ((Grow.refl _).alloc _) | exact HXA_3.out.grow (((Grow.refl _).alloc _).alloc _) | exact HXA_3.out.grow ((((Grow.refl _).alloc _).alloc _).alloc _) | exact HXA_3.out.grow (((((Grow.refl _).alloc _).alloc _).alloc _).alloc _) | exact HXA_3.out.grow ((Grow.refl _).drewN _)) (by first | exact HXB_3.out | exact HXB_3.out.grow ((Grow.refl _).alloc _) | exact HXB_3.out.grow (((Grow.refl _).alloc _).alloc _) | exact HXB_3.out.grow ((((Grow.refl _).alloc _).alloc _).alloc _) | exact HXB_3.out.grow (((((Grow.refl _).alloc _).alloc _).alloc _).alloc _) | exact HXB_3.out.grow ((Grow.refl _).drewN _)) _ ?_
        intro wz4 hg4 
        have hgr4 : Grow wz3 wz4 := by first | exact hg4 | exact Grow.trans ((Grow.refl _).alloc _) hg4 | exact Grow.trans (((Grow.refl _).alloc _).alloc _) hg4 | exact Grow.trans ((((Grow.refl _).alloc _).alloc _).alloc _) hg4 | exact Grow.trans (((((Grow.refl _).alloc _).alloc _).alloc _).alloc _) hg4 | exact Grow.trans ((Grow.refl _).drewN _) hg4
        have HP_4 := Lib.hid (HP_3.out.grow hgr4)
        have HL_4 := Lib.hid (HL_3.out.grow hgr4)
        have HXA_4 := Lib.hid (HXA_3.out.grow hgr4)
        have HXB_4 := Lib.hid (HXB_3.out.grow hgr4)
        have GCH4 := Lib.hid (GCH3.out.trans hgr4)
        clear hg4 hgr4 HP_3 HL_3 HXA_3 HXB_3 GCH3
        rw [show decide (([] : List Ed) = ([] : List Ed)) = true from decide_eq_true rfl]
        go_wp2_with fail
        refine ssame_any _ _ ?_
        intro wz5 hg5 
        have hgr5 : Grow wz4 wz5 := by first | exact hg5 | exact Grow.trans ((Grow.refl _).alloc _) hg5 | exact Grow.trans (((Grow.refl _).alloc _).alloc _) hg5 | exact Grow.trans ((((Grow.refl _).alloc _).alloc _).alloc _) hg5 | exact Grow.trans (((((Grow.refl _).alloc _).alloc _).alloc _).alloc _) hg5 | exact Grow.trans ((Grow.refl _).drewN _) hg5
        have HP_5 := Lib.hid (HP_4.out.grow hgr5)
        have HL_5 := Lib.hid (HL_4.out.grow hgr5)
        have HXA_5 := Lib.hid (HXA_4.out.grow hgr5)
        have HXB_5 := Lib.hid (HXB_4.out.grow hgr5)
        have GCH5 := Lib.hid (GCH4.out.trans hgr5)
        clear hg5 hgr5 HP_4 HL_4 HXA_4 HXB_4 GCH4
        go_wp2_with fail
        first | exact HR.out _ (GCH5.out) | exact HR.out _ (Grow.trans GCH5.out ((Grow.refl _).alloc _)) | exact HR.out _ (Grow.trans GCH5.out (((Grow.refl _).alloc _).alloc _)) | exact HR.out _ (Grow.trans GCH5.out ((((Grow.refl _).alloc _).alloc _).alloc _)) | exact HR.out _ (Grow.trans GCH5.out (((((Grow.refl _).alloc _).alloc _).alloc _).alloc _)) | exact HR.out _ (Grow.trans GCH5.out ((Grow.refl _).drewN _))
      | true =>
        obtain ⟨hc0, hg0, hmn, _, _, _⟩ := rep_good HSA.out
        have HC0 := Lib.hid hc0
        have HIG := Lib.hid (show (decide (chkX p xb l = 0) && goodM p xb l) = true by rw [hc0, hg0]; rfl)
        have HMN := Lib.hid (fun b (h : MinP p xb l b) => h.yes hg0 hmn)
        clear hc0 hg0 hmn
        go_wp2_with fail
        refine rsameE_any xb xb _ _ _ (by first | exact HXA_3.out | exact HXA_3.out.grow ((Grow.refl _).alloc _) | exact HXA_3.out.grow (((Grow.refl _).alloc _).alloc _) | exact HXA_3.out.grow ((((Grow.refl _).alloc _).alloc _).alloc _) | exact HXA_3.out.grow (((((Grow.refl _).alloc _).alloc _).alloc _).alloc _) | exact HXA_3.out.grow ((Grow.refl _).drewN _)) (by first | exact HXB_3.out | exact HXB_3.out.grow ((Grow.refl _).alloc _) | exact HXB_3.out.grow (((Grow.refl _).alloc _).alloc _) | exact HXB_3.out.grow ((((Grow.refl _).alloc _).alloc _).alloc _) | exact HXB_3.out.grow (((((Grow.refl _).alloc _).alloc _).alloc _).alloc _) | exact HXB_3.out.grow ((Grow.refl _).drewN _)) _ ?_
        intro wz4 hg4 
        have hgr4 : Grow wz3 wz4 := by first | exact hg4 | exact Grow.trans ((Grow.refl _).alloc _) hg4 | exact Grow.trans (((Grow.refl _).alloc _).alloc _) hg4 | exact Grow.trans ((((Grow.refl _).alloc _).alloc _).alloc _) hg4 | exact Grow.trans (((((Grow.refl _).alloc _).alloc _).alloc _).alloc _) hg4 | exact Grow.trans ((Grow.refl _).drewN _) hg4
        have HP_4 := Lib.hid (HP_3.out.grow hgr4)
        have HL_4 := Lib.hid (HL_3.out.grow hgr4)
        have HXA_4 := Lib.hid (HXA_3.out.grow hgr4)
        have HXB_4 := Lib.hid (HXB_3.out.grow hgr4)
        have GCH4 := Lib.hid (GCH3.out.trans hgr4)
        clear hg4 hgr4 HP_3 HL_3 HXA_3 HXB_3 GCH3
        rw [show decide (xb = xb) = true from decide_eq_true rfl]
        go_wp2_with fail
        refine IsGood_any p xb l _ _ _ _ (by first | exact HP_4.out | exact HP_4.out.grow ((Grow.refl _).alloc _) | exact HP_4.out.grow (((Grow.refl _).alloc _).alloc _) | exact HP_4.out.grow ((((Grow.refl _).alloc _).alloc _).alloc _) | exact HP_4.out.grow (((((Grow.refl _).alloc _).alloc _).alloc _).alloc _) | exact HP_4.out.grow ((Grow.refl _).drewN _)) (by first | exact HXA_4.out | exact HXA_4.out.grow ((Grow.refl _).alloc _) | exact HXA_4.out.grow (((Grow.refl _).alloc _).alloc _) | exact HXA_4.out.grow ((((Grow.refl _).alloc _).alloc _).alloc _) | exact HXA_4.out.grow (((((Grow.refl _).alloc _).alloc _).alloc _).alloc _) | exact HXA_4.out.grow ((Grow.refl _).drewN _)) (by first | exact HL_4.out | exact HL_4.out.grow ((Grow.refl _).alloc _) | exact HL_4.out.grow (((Grow.refl _).alloc _).alloc _) | exact HL_4.out.grow ((((Grow.refl _).alloc _).alloc _).alloc _) | exact HL_4.out.grow (((((Grow.refl _).alloc _).alloc _).alloc _).alloc _) | exact HL_4.out.grow ((Grow.refl _).drewN _)) _ ?_
        intro wz5 hg5 
        have hgr5 : Grow wz4 wz5 := by first | exact hg5 | exact Grow.trans ((Grow.refl _).alloc _) hg5 | exact Grow.trans (((Grow.refl _).alloc _).alloc _) hg5 | exact Grow.trans ((((Grow.refl _).alloc _).alloc _).alloc _) hg5 | exact Grow.trans (((((Grow.refl _).alloc _).alloc _).alloc _).alloc _) hg5 | exact Grow.trans ((Grow.refl _).drewN _) hg5
        have HP_5 := Lib.hid (HP_4.out.grow hgr5)
        have HL_5 := Lib.hid (HL_4.out.grow hgr5)
        have HXA_5 := Lib.hid (HXA_4.out.grow hgr5)
        have HXB_5 := Lib.hid (HXB_4.out.grow hgr5)
        have GCH5 := Lib.hid (GCH4.out.trans hgr5)
        clear hg5 hgr5 HP_4 HL_4 HXA_4 HXB_4 GCH4
        rw [HIG.out, HC0.out]
        go_wp2_with fail
        refine IsMinimal_any p xb l _ _ _ _ (by first | exact HP_5.out | exact HP_5.out.grow ((Grow.refl _).alloc _) | exact HP_5.out.grow (((Grow.refl _).alloc _).alloc _) | exact HP_5.out.grow ((((Grow.refl _).alloc _).alloc _).alloc _) | exact HP_5.out.grow (((((Grow.refl _).alloc _).alloc _).alloc _).alloc _) | exact HP_5.out.grow ((Grow.refl _).drewN _)) (by first | exact HXA_5.out | exact HXA_5.out.grow ((Grow.refl _).alloc _) | exact HXA_5.out.grow (((Grow.refl _).alloc _).alloc _) | exact HXA_5.out.grow ((((Grow.refl _).alloc _).alloc _).alloc _) | exact HXA_5.out.grow (((((Grow.refl _).alloc _).alloc _).alloc _).alloc _) | exact HXA_5.out.grow ((Grow.refl _).drewN _)) (by first | exact HL_5.out | exact HL_5.out.grow ((Grow.refl _).alloc _) | exact HL_5.out.grow (((Grow.refl _).alloc _).alloc _) | exact HL_5.out.grow ((((Grow.refl _).alloc _).alloc _).alloc _) | exact HL_5.out.grow (((((Grow.refl _).alloc _).alloc _).alloc _).alloc _) | exact HL_5.out.grow ((Grow.refl _).drewN _)) HC0.out _ ?_
        intro wz6 bm hg6 hm6
        rw [HMN.out _ hm6]
        clear hm6
        have hgr6 : Grow wz5 wz6 := by first | exact hg6 | exact Grow.trans ((Grow.refl _).alloc _) hg6 | exact Grow.trans (((Grow.refl _).alloc _).alloc _) hg6 | exact Grow.trans ((((Grow.refl _).alloc _).alloc _).alloc _) hg6 | exact Grow.trans (((((Grow.refl _).alloc _).alloc _).alloc _).alloc _) hg6 | exact Grow.trans ((Grow.refl _).drewN _) hg6
        have HP_6 := Lib.hid (HP_5.out.grow hgr6)
        have HL_6 := Lib.hid (HL_5.out.grow hgr6)
        have HXA_6 := Lib.hid (HXA_5.out.grow hgr6)
        have HXB_6 := Lib.hid (HXB_5.out.grow hgr6)
        have GCH6 := Lib.hid (GCH5.out.trans hgr6)
        clear hg6 hgr6 HP_5 HL_5 HXA_5 HXB_5 GCH5
        go_wp2_with fail
        refine ssame_any _ _ ?_
        intro wz7 hg7 
        have hgr7 : Grow wz6 wz7 := by first | exact hg7 | exact Grow.trans ((Grow.refl _).alloc _) hg7 | exact Grow.trans (((Grow.refl _).alloc _).alloc _) hg7 | exact Grow.trans ((((Grow.refl _).alloc _).alloc _).alloc _) hg7 | exact Grow.trans (((((Grow.refl _).alloc _).alloc _).alloc _).alloc _) hg7 | exact Grow.trans ((Grow.refl _).drewN _) hg7
        have HP_7 := Lib.hid (HP_6.out.grow hgr7)
        have HL_7 := Lib.hid (HL_6.out.grow hgr7)
        have HXA_7 := Lib.hid (HXA_6.out.grow hgr7)
        have HXB_7 := Lib.hid (HXB_6.out.grow hgr7)
        have GCH7 := Lib.hid (GCH6.out.trans hgr7)
        clear hg7 hgr7 HP_6 HL_6 HXA_6 HXB_6 GCH6
        go_wp2_with fail
        first | exact HR.out _ (GCH7.out) | exact HR.out _ (Grow.trans GCH7.out ((Grow.refl _).alloc _)) | exact HR.out _ (Grow.trans GCH7.out (((Grow.refl _).alloc _).alloc _)) | exact HR.out _ (Grow.trans GCH7.out ((((Grow.refl _).alloc _).alloc _).alloc _)) | exact HR.out _ (Grow.trans GCH7.out (((((Grow.refl _).alloc _).alloc _).alloc _).alloc _)) | exact HR.out _ (Grow.trans GCH7.out ((Grow.refl _).drewN _))
end Go.Proofs.YtbccbokjecdaaaaGreat

namespace Go.Proofs.YtbccbokjecdaaaaGreat
open Go.ChangeShapes Go.WideShapes Go.ChangeAt Go.RowKit

theorem Tryz.own : ownKnob Tryz.prog.godebug = none := by kernel_rfl
theorem Tryz.laidOut : laidOutB Tryz.prog = true := by kernel_rfl

set_option maxRecDepth 100000 in
set_option maxHeartbeats 4000000 in
theorem seekRepairs_lifted (os : Os) (started : os.Started) (H : Type) (enc : TypeId × Value → H) :
    ReturnsInHanded {} Tryz.checked os 11 .any (Rows.seekRepairsSpec.pre6 enc Tryz.prog Tryz.f11 Rows.seekRepairsRow.domain false) (Rows.seekRepairsSpec.post enc Tryz.prog Tryz.f11 false true false false) := by
  refine returnsInHanded_of_change (C := Tryz.checked) Tryz.own started (by kernel_rfl) Tryz.func11
    (ChangeSpec.witness6 (enc := enc) (C := Tryz.checked) false ⟨#[], #[.slice none 0 0, .slice none 0 0], []⟩ 8 (by kernel_rfl) (by kernel_rfl) (by kernel_rfl) (by kernel_rfl)) ?_
  intro W base args ds gs before hval0 hW hcnd _
  have hval : ∀ (j : Nat) t v, Tryz.f11.params[j]? = some t → args[j]? = some v → Value.okWide Tryz.prog W .any base t v := hval0
  have hW' := hW
  obtain ⟨p, q, hA0, hV, rfl, hfz, hnd⟩ := hW
  have hA : DataW.TrodAll enc Tryz.prog W 0 (fun _ => true) true Tryz.f11.params.toList args.toList ds p := hA0
  rw [Tryz.params11] at hA hval
  obtain ⟨v0, v1, d0, d1, p0, p1, rfl, rfl, rfl, h0, h1⟩ := trodAll_two hA
  obtain ⟨rfl, rfl⟩ := trodVars_none hV
  have hk0 := h0
  have hk1 := h1
  obtain ⟨x0, hx0⟩ := arg_lines (hval 0 22 v0 rfl rfl) h0
  obtain ⟨x1, hx1⟩ := arg_tests (hval 1 23 v1 rfl rfl) h1
  clear hA0 hval0
  refine Calls.mono (seekRepairs_any x0 x1 W v0 v1 hx0 hx1 (fun e W' => e = .returned (.bool true) ∧ Grow W W') (fun W' hg => ⟨rfl, hg⟩)) fun e W' ⟨he, hB⟩ => ?_
  subst he
  have hlt0 : ∀ x ∈ p0, x.block < W.heap.size := fun x hx => hW'.lt x (List.mem_append_left _ (List.mem_append_left _ (hx)))
  have ht0 := Below.trod Tryz.laidOut (by kernel_rfl) (of_decide_eq_true (by kernel_rfl)) hk0 hB hlt0
  have hlt1 : ∀ x ∈ p1, x.block < W.heap.size := fun x hx => hW'.lt x (List.mem_append_left _ (List.mem_append_right _ hx))
  have ht1 := Below.trod Tryz.laidOut (by kernel_rfl) (of_decide_eq_true (by kernel_rfl)) hk1 hB hlt1
  exact ⟨_, rfl, _, _, _, [], _, [], hW', trodAll_mk1 (shut_bool Tryz.underlying4 true), trodAll_mk2 ht0 ht1, rfl, hB.frame _, fun h => by cases h⟩

theorem seekRepairs_holds : Rows.SeekRepairsSaid :=
  OpenClaim.holds_of_wide 11 Tryz.f11 rfl rfl rfl rfl rfl rfl rfl ⟨rfl, rfl, rfl, rfl, rfl⟩ rfl rfl rfl rfl rfl (by kernel_rfl) Tryz.func11 (by kernel_rfl)
    (of_decide_eq_true (by kernel_rfl)) (by unfold Func.isWrapper; first | (rw [if_pos (by decide +kernel)]; kernel_rfl) | (rw [if_neg (by decide +kernel)]; exact ⟨rfl, rfl⟩))
    (fun os started H enc _ => seekRepairs_lifted os started H enc)

end Go.Proofs.YtbccbokjecdaaaaGreat
