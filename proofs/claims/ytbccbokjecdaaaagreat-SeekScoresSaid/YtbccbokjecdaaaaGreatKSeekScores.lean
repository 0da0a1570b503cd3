/-
Which mutants no test kills, and the share of those that are killed: a test less never makes it greater, for all programs and tests. No condition.
-/
import Derived.Test.YtbccbokjecdaaaaGreatC10
import Derived.Test.YtbccbokjecdaaaaGreatC11
import Derived.Test.YtbccbokjecdaaaaGreatC22
import Derived.ProofKit
import Derived.Lib.SmallJoins
import Derived.Test.YtbccbokjecdaaaaGreatC25
namespace Go.Proofs.YtbccbokjecdaaaaGreat
open Go.RowKit

set_option maxRecDepth 100000 in
set_option maxHeartbeats 32000000 in
theorem seekScores_any (p : List Ln) (l : List Tst) (w : World) (vp vl : Value) (hp : LinesAt w vp p) (hl : TestsAt w vl l) (R : Ending → World → Prop) (hR : ∀ w', Grow w w' → R (.returned (.bool true)) w') :
    Calls Tryz.prog 4 #[vp, vl] w R := by
  have HR := Lib.hid hR
  have HP_ := Lib.hid hp
  obtain ⟨adp, cpp, rfl, qp1, qp2, _⟩ := hp
  have HL_ := Lib.hid hl
  obtain ⟨⟨adl, cpl, rfl, ql1, ql2, _⟩, _⟩ := hl
  clear hR
  by_cases gd0 : 100 < p.length
  · have hd0 : decide (100 < p.length) = true := decide_eq_true gd0
    have HD0 := Lib.hid hd0
    clear hd0 gd0
    go_enter Tryz.func4, Tryz.ntmps4
    go_wp2_with fail
    refine long4_any p _ _ (by first | exact HP_.out | exact HP_.out.grow ((Grow.refl _).alloc _) | exact HP_.out.grow (((Grow.refl _).alloc _).alloc _) | exact HP_.out.grow ((((Grow.refl _).alloc _).alloc _).alloc _) | exact HP_.out.grow (((((Grow.refl _).alloc _).alloc _).alloc _).alloc _) | exact HP_.out.grow ((Grow.refl _).drewN _)) _ ?_
    rw [HD0.out]
    go_wp2_with fail
    refine ssame_any _ _ ?_
    intro wz1 hg1 
    have hgr1 : Grow w wz1 := by first | exact hg1 | exact Grow.trans ((Grow.refl _).alloc _) hg1 | exact Grow.trans (((Grow.refl _).alloc _).alloc _) hg1 | exact Grow.trans ((((Grow.refl _).alloc _).alloc _).alloc _) hg1 | exact Grow.trans (((((Grow.refl _).alloc _).alloc _).alloc _).alloc _) hg1 | exact Grow.trans ((Grow.refl _).drewN _) hg1
    have HP_1 := Lib.hid (HP_.out.grow hgr1)
    have HL_1 := Lib.hid (HL_.out.grow hgr1)
    have GCH1 := Lib.hid hgr1
    clear hg1 hgr1 HP_ HL_
    go_wp2_with fail
    first | exact HR.out _ (GCH1.out) | exact HR.out _ (Grow.trans GCH1.out ((Grow.refl _).alloc _)) | exact HR.out _ (Grow.trans GCH1.out (((Grow.refl _).alloc _).alloc _)) | exact HR.out _ (Grow.trans GCH1.out ((((Grow.refl _).alloc _).alloc _).alloc _)) | exact HR.out _ (Grow.trans GCH1.out (((((Grow.refl _).alloc _).alloc _).alloc _).alloc _)) | exact HR.out _ (Grow.trans GCH1.out ((Grow.refl _).drewN _))
  · have hd0 : decide (100 < p.length) = false := decide_eq_false gd0
    have HD0 := Lib.hid hd0
    clear hd0
    obtain ⟨mb, hmb⟩ : ∃ z, manyB l = z := ⟨_, rfl⟩
    have HMB := Lib.hid hmb
    clear hmb
    cases mb with
    | true =>
      go_enter Tryz.func4, Tryz.ntmps4
      go_wp2_with fail
      refine long4_any p _ _ (by first | exact HP_.out | exact HP_.out.grow ((Grow.refl _).alloc _) | exact HP_.out.grow (((Grow.refl _).alloc _).alloc _) | exact HP_.out.grow ((((Grow.refl _).alloc _).alloc _).alloc _) | exact HP_.out.grow (((((Grow.refl _).alloc _).alloc _).alloc _).alloc _) | exact HP_.out.grow ((Grow.refl _).drewN _)) _ ?_
      rw [HD0.out]
      go_wp2_with fail
      refine many_any l _ _ (by first | exact HL_.out | exact HL_.out.grow ((Grow.refl _).alloc _) | exact HL_.out.grow (((Grow.refl _).alloc _).alloc _) | exact HL_.out.grow ((((Grow.refl _).alloc _).alloc _).alloc _) | exact HL_.out.grow (((((Grow.refl _).alloc _).alloc _).alloc _).alloc _) | exact HL_.out.grow ((Grow.refl _).drewN _)) _ ?_
      intro wz1 hg1 
      have hgr1 : Grow w wz1 := by first | exact hg1 | exact Grow.trans ((Grow.refl _).alloc _) hg1 | exact Grow.trans (((Grow.refl _).alloc _).alloc _) hg1 | exact Grow.trans ((((Grow.refl _).alloc _).alloc _).alloc _) hg1 | exact Grow.trans (((((Grow.refl _).alloc _).alloc _).alloc _).alloc _) hg1 | exact Grow.trans ((Grow.refl _).drewN _) hg1
      have HP_1 := Lib.hid (HP_.out.grow hgr1)
      have HL_1 := Lib.hid (HL_.out.grow hgr1)
      have GCH1 := Lib.hid hgr1
      clear hg1 hgr1 HP_ HL_
      rw [HMB.out]
      go_wp2_with fail
      refine ssame_any _ _ ?_
      intro wz2 hg2 
      have hgr2 : Grow wz1 wz2 := by first | exact hg2 | exact Grow.trans ((Grow.refl _).alloc _) hg2 | exact Grow.trans (((Grow.refl _).alloc _).alloc _) hg2 | exact Grow.trans ((((Grow.refl _).alloc _).alloc _).alloc _) hg2 | exact Grow.trans (((((Grow.refl _).alloc _).alloc _).alloc _).alloc _) hg2 | exact Grow.trans ((Grow.refl _).drewN _) hg2
      have HP_2 := Lib.hid (HP_1.out.grow hgr2)
      have HL_2 := Lib.hid (HL_1.out.grow hgr2)
      have GCH2 := Lib.hid (GCH1.out.trans hgr2)
      clear hg2 hgr2 HP_1 HL_1 GCH1
      go_wp2_with fail
      first | exact HR.out _ (GCH2.out) | exact HR.out _ (Grow.trans GCH2.out ((Grow.refl _).alloc _)) | exact HR.out _ (Grow.trans GCH2.out (((Grow.refl _).alloc _).alloc _)) | exact HR.out _ (Grow.trans GCH2.out ((((Grow.refl _).alloc _).alloc _).alloc _)) | exact HR.out _ (Grow.trans GCH2.out (((((Grow.refl _).alloc _).alloc _).alloc _).alloc _)) | exact HR.out _ (Grow.trans GCH2.out ((Grow.refl _).drewN _))
    | false =>
      have hlaw := fun h j hj => score_law (p := p) (ts := l) h j hj
      obtain ⟨e, he⟩ : ∃ z, chkT p l = z := ⟨_, rfl⟩
      have HE := Lib.hid he
      obtain ⟨A, hA⟩ : ∃ z, aliveO p l = z := ⟨_, rfl⟩
      have HAA := Lib.hid hA
      obtain ⟨se, hse⟩ : ∃ z, scE p l = z := ⟨_, rfl⟩
      have HSE := Lib.hid hse
      obtain ⟨sn, hsn⟩ : ∃ z, scN p l = z := ⟨_, rfl⟩
      have HSN := Lib.hid hsn
      obtain ⟨sd, hsd⟩ : ∃ z, scD p l = z := ⟨_, rfl⟩
      have HSD := Lib.hid hsd
      rw [hse, hsn, hsd] at hlaw
      clear he hA hse hsn hsd
      have t2 : (e != e) = false := by simp
      have t3 : (se != se) = false := by simp
      by_cases h0 : se = 0
      rotate_left
      · have t1 : (se != 0) = true := by simpa using h0
        clear h0 hlaw
        go_enter Tryz.func4, Tryz.ntmps4
        go_wp2_with fail
        refine long4_any p _ _ (by first | exact HP_.out | exact HP_.out.grow ((Grow.refl _).alloc _) | exact HP_.out.grow (((Grow.refl _).alloc _).alloc _) | exact HP_.out.grow ((((Grow.refl _).alloc _).alloc _).alloc _) | exact HP_.out.grow (((((Grow.refl _).alloc _).alloc _).alloc _).alloc _) | exact HP_.out.grow ((Grow.refl _).drewN _)) _ ?_
        rw [HD0.out]
        go_wp2_with fail
        refine many_any l _ _ (by first | exact HL_.out | exact HL_.out.grow ((Grow.refl _).alloc _) | exact HL_.out.grow (((Grow.refl _).alloc _).alloc _) | exact HL_.out.grow ((((Grow.refl _).alloc _).alloc _).alloc _) | exact HL_.out.grow (((((Grow.refl _).alloc _).alloc _).alloc _).alloc _) | exact HL_.out.grow ((Grow.refl _).drewN _)) _ ?_
        intro wz1 hg1 
        have hgr1 : Grow w wz1 := by first | exact hg1 | exact Grow.trans ((Grow.refl _).alloc _) hg1 | exact Grow.trans (((Grow.refl _).alloc _).alloc _) hg1 | exact Grow.trans ((((Grow.refl _).alloc _).alloc _).alloc _) hg1 | exact Grow.trans (((((Grow.refl _).alloc _).alloc _).alloc _).alloc _) hg1 | exact Grow.trans ((Grow.refl _).drewN _) hg1
        have HP_1 := Lib.hid (HP_.out.grow hgr1)
        have HL_1 := Lib.hid (HL_.out.grow hgr1)
        have GCH1 := Lib.hid hgr1
        clear hg1 hgr1 HP_ HL_
        rw [HMB.out]
        go_wp2_with fail
        refine Alive_any p l _ _ _ (by first | exact HP_1.out | exact HP_1.out.grow ((Grow.refl _).alloc _) | exact HP_1.out.grow (((Grow.refl _).alloc _).alloc _) | exact HP_1.out.grow ((((Grow.refl _).alloc _).alloc _).alloc _) | exact HP_1.out.grow (((((Grow.refl _).alloc _).alloc _).alloc _).alloc _) | exact HP_1.out.grow ((Grow.refl _).drewN _)) (by first | exact HL_1.out | exact HL_1.out.grow ((Grow.refl _).alloc _) | exact HL_1.out.grow (((Grow.refl _).alloc _).alloc _) | exact HL_1.out.grow ((((Grow.refl _).alloc _).alloc _).alloc _) | exact HL_1.out.grow (((((Grow.refl _).alloc _).alloc _).alloc _).alloc _) | exact HL_1.out.grow ((Grow.refl _).drewN _)) _ ?_
        intro wz2 x2_0 hg2 hx2_0
        have hgr2 : Grow wz1 wz2 := by first | exact hg2 | exact Grow.trans ((Grow.refl _).alloc _) hg2 | exact Grow.trans (((Grow.refl _).alloc _).alloc _) hg2 | exact Grow.trans ((((Grow.refl _).alloc _).alloc _).alloc _) hg2 | exact Grow.trans (((((Grow.refl _).alloc _).alloc _).alloc _).alloc _) hg2 | exact Grow.trans ((Grow.refl _).drewN _) hg2
        have HP_2 := Lib.hid (HP_1.out.grow hgr2)
        have HL_2 := Lib.hid (HL_1.out.grow hgr2)
        have GCH2 := Lib.hid (GCH1.out.trans hgr2)
        clear hg2 hgr2 HP_1 HL_1 GCH1
        rw [HAA.out] at hx2_0
        have hyHXA_2 := hx2_0
        have HXA_2 := Lib.hid hyHXA_2
        obtain ⟨aHXA_2, cHXA_2, rfl, qHXA_21, qHXA_22, _⟩ := hyHXA_2
        clear hx2_0
        rw [HE.out]
        go_wp2_with fail
        refine r5Alive_any p l _ _ _ (by first | exact HP_2.out | exact HP_2.out.grow ((Grow.refl _).alloc _) | exact HP_2.out.grow (((Grow.refl _).alloc _).alloc _) | exact HP_2.out.grow ((((Grow.refl _).alloc _).alloc _).alloc _) | exact HP_2.out.grow (((((Grow.refl _).alloc _).alloc _).alloc _).alloc _) | exact HP_2.out.grow ((Grow.refl _).drewN _)) (by first | exact HL_2.out | exact HL_2.out.grow ((Grow.refl _).alloc _) | exact HL_2.out.grow (((Grow.refl _).alloc _).alloc _) | exact HL_2.out.grow ((((Grow.refl _).alloc _).alloc _).alloc _) | exact HL_2.out.grow (((((Grow.refl _).alloc _).alloc _).alloc _).alloc _) | exact HL_2.out.grow ((Grow.refl _).drewN _)) _ ?_
        intro wz3 x3_0 hg3 hx3_0
        have hgr3 : Grow wz2 wz3 := by first | exact hg3 | exact Grow.trans ((Grow.refl _).alloc _) hg3 | exact Grow.trans (((Grow.refl _).alloc _).alloc _) hg3 | exact Grow.trans ((((Grow.refl _).alloc _).alloc _).alloc _) hg3 | exact Grow.trans (((((Grow.refl _).alloc _).alloc _).alloc _).alloc _) hg3 | exact Grow.trans ((Grow.refl _).drewN _) hg3
        have HP_3 := Lib.hid (HP_2.out.grow hgr3)
        have HL_3 := Lib.hid (HL_2.out.grow hgr3)
        have HXA_3 := Lib.hid (HXA_2.out.grow hgr3)
        have GCH3 := Lib.hid (GCH2.out.trans hgr3)
        clear hg3 hgr3 HP_2 HL_2 HXA_2 GCH2
        rw [HAA.out] at hx3_0
        have hyHXB_3 := hx3_0
        have HXB_3 := Lib.hid hyHXB_3
        obtain ⟨aHXB_3, cHXB_3, rfl, qHXB_31, qHXB_32, _⟩ := hyHXB_3
        clear hx3_0
        rw [HE.out]
        go_wp2_with fail
        refine Score_any p l _ _ _ (by first | exact HP_3.out | exact HP_3.out.grow ((Grow.refl _).alloc _) | exact HP_3.out.grow (((Grow.refl _).alloc _).alloc _) | exact HP_3.out.grow ((((Grow.refl _).alloc _).alloc _).alloc _) | exact HP_3.out.grow (((((Grow.refl _).alloc _).alloc _).alloc _).alloc _) | exact HP_3.out.grow ((Grow.refl _).drewN _)) (by first | exact HL_3.out | exact HL_3.out.grow ((Grow.refl _).alloc _) | exact HL_3.out.grow (((Grow.refl _).alloc _).alloc _) | exact HL_3.out.grow ((((Grow.refl _).alloc _).alloc _).alloc _) | exact HL_3.out.grow (((((Grow.refl _).alloc _).alloc _).alloc _).alloc _) | exact HL_3.out.grow ((Grow.refl _).drewN _)) _ ?_
        intro wz4 hg4 
        have hgr4 : Grow wz3 wz4 := by first | exact hg4 | exact Grow.trans ((Grow.refl _).alloc _) hg4 | exact Grow.trans (((Grow.refl _).alloc _).alloc _) hg4 | exact Grow.trans ((((Grow.refl _).alloc _).alloc _).alloc _) hg4 | exact Grow.trans (((((Grow.refl _).alloc _).alloc _).alloc _).alloc _) hg4 | exact Grow.trans ((Grow.refl _).drewN _) hg4
        have HP_4 := Lib.hid (HP_3.out.grow hgr4)
        have HL_4 := Lib.hid (HL_3.out.grow hgr4)
        have HXA_4 := Lib.hid (HXA_3.out.grow hgr4)
        have HXB_4 := Lib.hid (HXB_3.out.grow hgr4)
        have GCH4 := Lib.hid (GCH3.out.trans hgr4)
        clear hg4 hgr4 HP_3 HL_3 HXA_3 HXB_3 GCH3
        rw [HSE.out, HSN.out, HSD.out]
        go_wp2_with fail
        obtain ⟨wx4, hwb0⟩ : ∃ W, wz4.alloc (.cells #[.int .i64 (sn : Int), .int .i64 (sd : Int)] 44) = W := ⟨_, rfl⟩
        rw [hwb0]
        have hgb0 : Grow wz4 wx4 := hwb0 ▸ (Grow.refl wz4).alloc _
        have hbb0 : wx4.heap[wz4.heap.size]? = some (.cells #[.int .i64 (sn : Int), .int .i64 (sd : Int)] 44 (0, 0)) := by have h := heap_alloc_new wz4 (.cells #[.int .i64 (sn : Int), .int .i64 (sd : Int)] 44); rw [hwb0] at h; exact h
        clear hwb0
        have hgr5 : Grow wz4 wx4 := by first | exact hgb0 | exact Grow.trans ((Grow.refl _).alloc _) hgb0 | exact Grow.trans (((Grow.refl _).alloc _).alloc _) hgb0 | exact Grow.trans ((((Grow.refl _).alloc _).alloc _).alloc _) hgb0 | exact Grow.trans (((((Grow.refl _).alloc _).alloc _).alloc _).alloc _) hgb0 | exact Grow.trans ((Grow.refl _).drewN _) hgb0
        have HP_5 := Lib.hid (HP_4.out.grow hgr5)
        have HL_5 := Lib.hid (HL_4.out.grow hgr5)
        have HXA_5 := Lib.hid (HXA_4.out.grow hgr5)
        have HXB_5 := Lib.hid (HXB_4.out.grow hgr5)
        have GCH5 := Lib.hid (GCH4.out.trans hgr5)
        clear hgb0 hgr5 HP_4 HL_4 HXA_4 HXB_4 GCH4
        obtain ⟨ea0, ea1⟩ := box2 hbb0
        have za := lt_of_block hbb0
        have HBB0 := Lib.hid hbb0
        clear hbb0
        refine r5Score_any p l _ _ _ (by first | exact HP_5.out | exact HP_5.out.grow ((Grow.refl _).alloc _) | exact HP_5.out.grow (((Grow.refl _).alloc _).alloc _) | exact HP_5.out.grow ((((Grow.refl _).alloc _).alloc _).alloc _) | exact HP_5.out.grow (((((Grow.refl _).alloc _).alloc _).alloc _).alloc _) | exact HP_5.out.grow ((Grow.refl _).drewN _)) (by first | exact HL_5.out | exact HL_5.out.grow ((Grow.refl _).alloc _) | exact HL_5.out.grow (((Grow.refl _).alloc _).alloc _) | exact HL_5.out.grow ((((Grow.refl _).alloc _).alloc _).alloc _) | exact HL_5.out.grow (((((Grow.refl _).alloc _).alloc _).alloc _).alloc _) | exact HL_5.out.grow ((Grow.refl _).drewN _)) _ ?_
        intro wz6 hg6 
        have hgr6 : Grow wx4 wz6 := by first | exact hg6 | exact Grow.trans ((Grow.refl _).alloc _) hg6 | exact Grow.trans (((Grow.refl _).alloc _).alloc _) hg6 | exact Grow.trans ((((Grow.refl _).alloc _).alloc _).alloc _) hg6 | exact Grow.trans (((((Grow.refl _).alloc _).alloc _).alloc _).alloc _) hg6 | exact Grow.trans ((Grow.refl _).drewN _) hg6
        have HP_6 := Lib.hid (HP_5.out.grow hgr6)
        have HL_6 := Lib.hid (HL_5.out.grow hgr6)
        have HXA_6 := Lib.hid (HXA_5.out.grow hgr6)
        have HXB_6 := Lib.hid (HXB_5.out.grow hgr6)
        have GCH6 := Lib.hid (GCH5.out.trans hgr6)
        have hbx_6 := hgr6.blk HBB0.out
        clear ea0 ea1 za
        obtain ⟨ea0, ea1⟩ := box2 hbx_6
        have za := lt_of_block hbx_6
        have HBX0_6 := Lib.hid hbx_6
        clear hbx_6
        clear hg6 hgr6 HP_5 HL_5 HXA_5 HXB_5 GCH5 HBB0
        rw [HSE.out, HSN.out, HSD.out]
        go_wp2_with fail
        obtain ⟨wx6, hwb1⟩ : ∃ W, wz6.alloc (.cells #[.int .i64 (sn : Int), .int .i64 (sd : Int)] 44) = W := ⟨_, rfl⟩
        rw [hwb1]
        have hgb1 : Grow wz6 wx6 := hwb1 ▸ (Grow.refl wz6).alloc _
        have hbb1 : wx6.heap[wz6.heap.size]? = some (.cells #[.int .i64 (sn : Int), .int .i64 (sd : Int)] 44 (0, 0)) := by have h := heap_alloc_new wz6 (.cells #[.int .i64 (sn : Int), .int .i64 (sd : Int)] 44); rw [hwb1] at h; exact h
        clear hwb1
        have hgr7 : Grow wz6 wx6 := by first | exact hgb1 | exact Grow.trans ((Grow.refl _).alloc _) hgb1 | exact Grow.trans (((Grow.refl _).alloc _).alloc _) hgb1 | exact Grow.trans ((((Grow.refl _).alloc _).alloc _).alloc _) hgb1 | exact Grow.trans (((((Grow.refl _).alloc _).alloc _).alloc _).alloc _) hgb1 | exact Grow.trans ((Grow.refl _).drewN _) hgb1
        have HP_7 := Lib.hid (HP_6.out.grow hgr7)
        have HL_7 := Lib.hid (HL_6.out.grow hgr7)
        have HXA_7 := Lib.hid (HXA_6.out.grow hgr7)
        have HXB_7 := Lib.hid (HXB_6.out.grow hgr7)
        have GCH7 := Lib.hid (GCH6.out.trans hgr7)
        have hbx_7 := hgr7.blk HBX0_6.out
        clear ea0 ea1 za
        obtain ⟨ea0, ea1⟩ := box2 hbx_7
        have za := lt_of_block hbx_7
        have HBX0_7 := Lib.hid hbx_7
        clear hbx_7
        clear hgb1 hgr7 HP_6 HL_6 HXA_6 HXB_6 GCH6 HBX0_6
        obtain ⟨eb0, eb1⟩ := box2 hbb1
        have zb := lt_of_block hbb1
        have HBB1 := Lib.hid hbb1
        clear hbb1
        refine rsameE_any A A _ _ _ (by first | exact HXA_7.out | exact HXA_7.out.grow ((Grow.refl _).alloc _) | exact HXA_7.out.grow (((Grow.refl _).alloc _).alloc _) | exact HXA_7.out.grow ((((Grow.refl _).alloc _).alloc _).alloc _) | exact HXA_7.out.grow (((((Grow.refl _).alloc _).alloc _).alloc _).alloc _) | exact HXA_7.out.grow ((Grow.refl _).drewN _)) (by first | exact HXB_7.out | exact HXB_7.out.grow ((Grow.refl _).alloc _) | exact HXB_7.out.grow (((Grow.refl _).alloc _).alloc _) | exact HXB_7.out.grow ((((Grow.refl _).alloc _).alloc _).alloc _) | exact HXB_7.out.grow (((((Grow.refl _).alloc _).alloc _).alloc _).alloc _) | exact HXB_7.out.grow ((Grow.refl _).drewN _)) _ ?_
        intro wz8 hg8 
        have hgr8 : Grow wx6 wz8 := by first | exact hg8 | exact Grow.trans ((Grow.refl _).alloc _) hg8 | exact Grow.trans (((Grow.refl _).alloc _).alloc _) hg8 | exact Grow.trans ((((Grow.refl _).alloc _).alloc _).alloc _) hg8 | exact Grow.trans (((((Grow.refl _).alloc _).alloc _).alloc _).alloc _) hg8 | exact Grow.trans ((Grow.refl _).drewN _) hg8
        have HP_8 := Lib.hid (HP_7.out.grow hgr8)
        have HL_8 := Lib.hid (HL_7.out.grow hgr8)
        have HXA_8 := Lib.hid (HXA_7.out.grow hgr8)
        have HXB_8 := Lib.hid (HXB_7.out.grow hgr8)
        have GCH8 := Lib.hid (GCH7.out.trans hgr8)
        have hbx_8 := hgr8.blk HBX0_7.out
        clear ea0 ea1 za
        obtain ⟨ea0, ea1⟩ := box2 hbx_8
        have za := lt_of_block hbx_8
        have HBX0_8 := Lib.hid hbx_8
        clear hbx_8
        have hbx_8 := hgr8.blk HBB1.out
        clear eb0 eb1 zb
        obtain ⟨eb0, eb1⟩ := box2 hbx_8
        have zb := lt_of_block hbx_8
        have HBX1_8 := Lib.hid hbx_8
        clear hbx_8
        clear hg8 hgr8 HP_7 HL_7 HXA_7 HXB_7 GCH7 HBX0_7 HBB1
        rw [show decide (A = A) = true from decide_eq_true rfl]
        go_wp2_with fail
        refine ssame_any _ _ ?_
        intro wz9 hg9 
        have hgr9 : Grow wz8 wz9 := by first | exact hg9 | exact Grow.trans ((Grow.refl _).alloc _) hg9 | exact Grow.trans (((Grow.refl _).alloc _).alloc _) hg9 | exact Grow.trans ((((Grow.refl _).alloc _).alloc _).alloc _) hg9 | exact Grow.trans (((((Grow.refl _).alloc _).alloc _).alloc _).alloc _) hg9 | exact Grow.trans ((Grow.refl _).drewN _) hg9
        have HP_9 := Lib.hid (HP_8.out.grow hgr9)
        have HL_9 := Lib.hid (HL_8.out.grow hgr9)
        have HXA_9 := Lib.hid (HXA_8.out.grow hgr9)
        have HXB_9 := Lib.hid (HXB_8.out.grow hgr9)
        have GCH9 := Lib.hid (GCH8.out.trans hgr9)
        have hbx_9 := hgr9.blk HBX0_8.out
        clear ea0 ea1 za
        obtain ⟨ea0, ea1⟩ := box2 hbx_9
        have za := lt_of_block hbx_9
        have HBX0_9 := Lib.hid hbx_9
        clear hbx_9
        have hbx_9 := hgr9.blk HBX1_8.out
        clear eb0 eb1 zb
        obtain ⟨eb0, eb1⟩ := box2 hbx_9
        have zb := lt_of_block hbx_9
        have HBX1_9 := Lib.hid hbx_9
        clear hbx_9
        clear hg9 hgr9 HP_8 HL_8 HXA_8 HXB_8 GCH8 HBX0_8 HBX1_8
        go_wp2_with fail
        first | exact HR.out _ (GCH9.out) | exact HR.out _ (Grow.trans GCH9.out ((Grow.refl _).alloc _)) | exact HR.out _ (Grow.trans GCH9.out (((Grow.refl _).alloc _).alloc _)) | exact HR.out _ (Grow.trans GCH9.out ((((Grow.refl _).alloc _).alloc _).alloc _)) | exact HR.out _ (Grow.trans GCH9.out (((((Grow.refl _).alloc _).alloc _).alloc _).alloc _)) | exact HR.out _ (Grow.trans GCH9.out ((Grow.refl _).drewN _))
      subst h0
      by_cases h1 : l.length = 0
      · have hl : l = [] := List.length_eq_zero_iff.1 h1
        have t4 : ((l.length : Int) == 0) = true := by simpa using h1
        have t5 : (l.length : Int) = 0 := by omega
        clear h1 hlaw hl
        go_enter Tryz.func4, Tryz.ntmps4
        go_wp2_with fail
        refine long4_any p _ _ (by first | exact HP_.out | exact HP_.out.grow ((Grow.refl _).alloc _) | exact HP_.out.grow (((Grow.refl _).alloc _).alloc _) | exact HP_.out.grow ((((Grow.refl _).alloc _).alloc _).alloc _) | exact HP_.out.grow (((((Grow.refl _).alloc _).alloc _).alloc _).alloc _) | exact HP_.out.grow ((Grow.refl _).drewN _)) _ ?_
        rw [HD0.out]
        go_wp2_with fail
        refine many_any l _ _ (by first | exact HL_.out | exact HL_.out.grow ((Grow.refl _).alloc _) | exact HL_.out.grow (((Grow.refl _).alloc _).alloc _) | exact HL_.out.grow ((((Grow.refl _).alloc _).alloc _).alloc _) | exact HL_.out.grow (((((Grow.refl _).alloc _).alloc _).alloc _).alloc _) | exact HL_.out.grow ((Grow.refl _).drewN _)) _ ?_
        intro wz1 hg1 
        have hgr1 : Grow w wz1 := by first | exact hg1 | exact Grow.trans ((Grow.refl _).alloc _) hg1 | exact Grow.trans (((Grow.refl _).alloc _).alloc _) hg1 | exact Grow.trans ((((Grow.refl _).alloc _).alloc _).alloc _) hg1 | exact Grow.trans (((((Grow.refl _).alloc _).alloc _).alloc _).alloc _) hg1 | exact Grow.trans ((Grow.refl _).drewN _) hg1
        have HP_1 := Lib.hid (HP_.out.grow hgr1)
        have HL_1 := Lib.hid (HL_.out.grow hgr1)
        have GCH1 := Lib.hid hgr1
        clear hg1 hgr1 HP_ HL_
        rw [HMB.out]
        go_wp2_with fail
        refine Alive_any p l _ _ _ (by first | exact HP_1.out | exact HP_1.out.grow ((Grow.refl _).alloc _) | exact HP_1.out.grow (((Grow.refl _).alloc _).alloc _) | exact HP_1.out.grow ((((Grow.refl _).alloc _).alloc _).alloc _) | exact HP_1.out.grow (((((Grow.refl _).alloc _).alloc _).alloc _).alloc _) | exact HP_1.out.grow ((Grow.refl _).drewN _)) (by first | exact HL_1.out | exact HL_1.out.grow ((Grow.refl _).alloc _) | exact HL_1.out.grow (((Grow.refl _).alloc _).alloc _) | exact HL_1.out.grow ((((Grow.refl _).alloc _).alloc _).alloc _) | exact HL_1.out.grow (((((Grow.refl _).alloc _).alloc _).alloc _).alloc _) | exact HL_1.out.grow ((Grow.refl _).drewN _)) _ ?_
        intro wz2 x2_0 hg2 hx2_0
        have hgr2 : Grow wz1 wz2 := by first | exact hg2 | exact Grow.trans ((Grow.refl _).alloc _) hg2 | exact Grow.trans (((Grow.refl _).alloc _).alloc _) hg2 | exact Grow.trans ((((Grow.refl _).alloc _).alloc _).alloc _) hg2 | exact Grow.trans (((((Grow.refl _).alloc _).alloc _).alloc _).alloc _) hg2 | exact Grow.trans ((Grow.refl _).drewN _) hg2
        have HP_2 := Lib.hid (HP_1.out.grow hgr2)
        have HL_2 := Lib.hid (HL_1.out.grow hgr2)
        have GCH2 := Lib.hid (GCH1.out.trans hgr2)
        clear hg2 hgr2 HP_1 HL_1 GCH1
        rw [HAA.out] at hx2_0
        have hyHXA_2 := hx2_0
        have HXA_2 := Lib.hid hyHXA_2
        obtain ⟨aHXA_2, cHXA_2, rfl, qHXA_21, qHXA_22, _⟩ := hyHXA_2
        clear hx2_0
        rw [HE.out]
        go_wp2_with fail
        refine r5Alive_any p l _ _ _ (by first | exact HP_2.out | exact HP_2.out.grow ((Grow.refl _).alloc _) | exact HP_2.out.grow (((Grow.refl _).alloc _).alloc _) | exact HP_2.out.grow ((((Grow.refl _).alloc _).alloc _).alloc _) | exact HP_2.out.grow (((((Grow.refl _).alloc _).alloc _).alloc _).alloc _) | exact HP_2.out.grow ((Grow.refl _).drewN _)) (by first | exact HL_2.out | exact HL_2.out.grow ((Grow.refl _).alloc _) | exact HL_2.out.grow (((Grow.refl _).alloc _).alloc _) | exact HL_2.out.grow ((((Grow.refl _).alloc _).alloc _).alloc _) | exact HL_2.out.grow (((((Grow.refl _).alloc _).alloc _).alloc _).alloc _) | exact HL_2.out.grow ((Grow.refl _).drewN _)) _ ?_
        intro wz3 x3_0 hg3 hx3_0
        have hgr3 : Grow wz2 wz3 := by first | exact hg3 | exact Grow.trans ((Grow.refl _).alloc _) hg3 | exact Grow.trans (((Grow.refl _).alloc _).alloc _) hg3 | exact Grow.trans ((((Grow.refl _).alloc _).alloc _).alloc _) hg3 | exact Grow.trans (((((Grow.refl _).alloc _).alloc _).alloc _).alloc _) hg3 | exact Grow.trans ((Grow.refl _).drewN _) hg3
        have HP_3 := Lib.hid (HP_2.out.grow hgr3)
        have HL_3 := Lib.hid (HL_2.out.grow hgr3)
        have HXA_3 := Lib.hid (HXA_2.out.grow hgr3)
        have GCH3 := Lib.hid (GCH2.out.trans hgr3)
        clear hg3 hgr3 HP_2 HL_2 HXA_2 GCH2
        rw [HAA.out] at hx3_0
        have hyHXB_3 := hx3_0
        have HXB_3 := Lib.hid hyHXB_3
        obtain ⟨aHXB_3, cHXB_3, rfl, qHXB_31, qHXB_32, _⟩ := hyHXB_3
        clear hx3_0
        rw [HE.out]
        go_wp2_with fail
        refine Score_any p l _ _ _ (by first | exact HP_3.out | exact HP_3.out.grow ((Grow.refl _).alloc _) | exact HP_3.out.grow (((Grow.refl _).alloc _).alloc _) | exact HP_3.out.grow ((((Grow.refl _).alloc _).alloc _).alloc _) | exact HP_3.out.grow (((((Grow.refl _).alloc _).alloc _).alloc _).alloc _) | exact HP_3.out.grow ((Grow.refl _).drewN _)) (by first | exact HL_3.out | exact HL_3.out.grow ((Grow.refl _).alloc _) | exact HL_3.out.grow (((Grow.refl _).alloc _).alloc _) | exact HL_3.out.grow ((((Grow.refl _).alloc _).alloc _).alloc _) | exact HL_3.out.grow (((((Grow.refl _).alloc _).alloc _).alloc _).alloc _) | exact HL_3.out.grow ((Grow.refl _).drewN _)) _ ?_
        intro wz4 hg4 
        have hgr4 : Grow wz3 wz4 := by first | exact hg4 | exact Grow.trans ((Grow.refl _).alloc _) hg4 | exact Grow.trans (((Grow.refl _).alloc _).alloc _) hg4 | exact Grow.trans ((((Grow.refl _).alloc _).alloc _).alloc _) hg4 | exact Grow.trans (((((Grow.refl _).alloc _).alloc _).alloc _).alloc _) hg4 | exact Grow.trans ((Grow.refl _).drewN _) hg4
        have HP_4 := Lib.hid (HP_3.out.grow hgr4)
        have HL_4 := Lib.hid (HL_3.out.grow hgr4)
        have HXA_4 := Lib.hid (HXA_3.out.grow hgr4)
        have HXB_4 := Lib.hid (HXB_3.out.grow hgr4)
        have GCH4 := Lib.hid (GCH3.out.trans hgr4)
        clear hg4 hgr4 HP_3 HL_3 HXA_3 HXB_3 GCH3
        rw [HSE.out, HSN.out, HSD.out]
        go_wp2_with fail
        obtain ⟨wx4, hwb0⟩ : ∃ W, wz4.alloc (.cells #[.int .i64 (sn : Int), .int .i64 (sd : Int)] 44) = W := ⟨_, rfl⟩
        rw [hwb0]
        have hgb0 : Grow wz4 wx4 := hwb0 ▸ (Grow.refl wz4).alloc _
        have hbb0 : wx4.heap[wz4.heap.size]? = some (.cells #[.int .i64 (sn : Int), .int .i64 (sd : Int)] 44 (0, 0)) := by have h := heap_alloc_new wz4 (.cells #[.int .i64 (sn : Int), .int .i64 (sd : Int)] 44); rw [hwb0] at h; exact h
        clear hwb0
        have hgr5 : Grow wz4 wx4 := by first | exact hgb0 | exact Grow.trans ((Grow.refl _).alloc _) hgb0 | exact Grow.trans (((Grow.refl _).alloc _).alloc _) hgb0 | exact Grow.trans ((((Grow.refl _).alloc _).alloc _).alloc _) hgb0 | exact Grow.trans (((((Grow.refl _).alloc _).alloc _).alloc _).alloc _) hgb0 | exact Grow.trans ((Grow.refl _).drewN _) hgb0
        have HP_5 := Lib.hid (HP_4.out.grow hgr5)
        have HL_5 := Lib.hid (HL_4.out.grow hgr5)
        have HXA_5 := Lib.hid (HXA_4.out.grow hgr5)
        have HXB_5 := Lib.hid (HXB_4.out.grow hgr5)
        have GCH5 := Lib.hid (GCH4.out.trans hgr5)
        clear hgb0 hgr5 HP_4 HL_4 HXA_4 HXB_4 GCH4
        obtain ⟨ea0, ea1⟩ := box2 hbb0
        have za := lt_of_block hbb0
        have HBB0 := Lib.hid hbb0
        clear hbb0
        refine r5Score_any p l _ _ _ (by first | exact HP_5.out | exact HP_5.out.grow ((Grow.refl _).alloc _) | exact HP_5.out.grow (((Grow.refl _).alloc _).alloc _) | exact HP_5.out.grow ((((Grow.refl _).alloc _).alloc _).alloc _) | exact HP_5.out.grow (((((Grow.refl _).alloc _).alloc _).alloc _).alloc _) | exact HP_5.out.grow ((Grow.refl _).drewN _)) (by first | exact HL_5.out | exact HL_5.out.grow ((Grow.refl _).alloc _) | exact HL_5.out.grow (((Grow.refl _).alloc _).alloc _) | exact HL_5.out.grow ((((Grow.refl _).alloc _).alloc _).alloc _) | exact HL_5.out.grow (((((Grow.refl _).alloc _).alloc _).alloc _).alloc _) | exact HL_5.out.grow ((Grow.refl _).drewN _)) _ ?_
        intro wz6 hg6 
        have hgr6 : Grow wx4 wz6 := by first | exact hg6 | exact Grow.trans ((Grow.refl _).alloc _) hg6 | exact Grow.trans (((Grow.refl _).alloc _).alloc _) hg6 | exact Grow.trans ((((Grow.refl _).alloc _).alloc _).alloc _) hg6 | exact Grow.trans (((((Grow.refl _).alloc _).alloc _).alloc _).alloc _) hg6 | exact Grow.trans ((Grow.refl _).drewN _) hg6
        have HP_6 := Lib.hid (HP_5.out.grow hgr6)
        have HL_6 := Lib.hid (HL_5.out.grow hgr6)
        have HXA_6 := Lib.hid (HXA_5.out.grow hgr6)
        have HXB_6 := Lib.hid (HXB_5.out.grow hgr6)
        have GCH6 := Lib.hid (GCH5.out.trans hgr6)
        have hbx_6 := hgr6.blk HBB0.out
        clear ea0 ea1 za
        obtain ⟨ea0, ea1⟩ := box2 hbx_6
        have za := lt_of_block hbx_6
        have HBX0_6 := Lib.hid hbx_6
        clear hbx_6
        clear hg6 hgr6 HP_5 HL_5 HXA_5 HXB_5 GCH5 HBB0
        rw [HSE.out, HSN.out, HSD.out]
        go_wp2_with fail
        obtain ⟨wx6, hwb1⟩ : ∃ W, wz6.alloc (.cells #[.int .i64 (sn : Int), .int .i64 (sd : Int)] 44) = W := ⟨_, rfl⟩
        rw [hwb1]
        have hgb1 : Grow wz6 wx6 := hwb1 ▸ (Grow.refl wz6).alloc _
        have hbb1 : wx6.heap[wz6.heap.size]? = some (.cells #[.int .i64 (sn : Int), .int .i64 (sd : Int)] 44 (0, 0)) := by have h := heap_alloc_new wz6 (.cells #[.int .i64 (sn : Int), .int .i64 (sd : Int)] 44); rw [hwb1] at h; exact h
        clear hwb1
        have hgr7 : Grow wz6 wx6 := by first | exact hgb1 | exact Grow.trans ((Grow.refl _).alloc _) hgb1 | exact Grow.trans (((Grow.refl _).alloc _).alloc _) hgb1 | exact Grow.trans ((((Grow.refl _).alloc _).alloc _).alloc _) hgb1 | exact Grow.trans (((((Grow.refl _).alloc _).alloc _).alloc _).alloc _) hgb1 | exact Grow.trans ((Grow.refl _).drewN _) hgb1
        have HP_7 := Lib.hid (HP_6.out.grow hgr7)
        have HL_7 := Lib.hid (HL_6.out.grow hgr7)
        have HXA_7 := Lib.hid (HXA_6.out.grow hgr7)
        have HXB_7 := Lib.hid (HXB_6.out.grow hgr7)
        have GCH7 := Lib.hid (GCH6.out.trans hgr7)
        have hbx_7 := hgr7.blk HBX0_6.out
        clear ea0 ea1 za
        obtain ⟨ea0, ea1⟩ := box2 hbx_7
        have za := lt_of_block hbx_7
        have HBX0_7 := Lib.hid hbx_7
        clear hbx_7
        clear hgb1 hgr7 HP_6 HL_6 HXA_6 HXB_6 GCH6 HBX0_6
        obtain ⟨eb0, eb1⟩ := box2 hbb1
        have zb := lt_of_block hbb1
        have HBB1 := Lib.hid hbb1
        clear hbb1
        refine rsameE_any A A _ _ _ (by first | exact HXA_7.out | exact HXA_7.out.grow ((Grow.refl _).alloc _) | exact HXA_7.out.grow (((Grow.refl _).alloc _).alloc _) | exact HXA_7.out.grow ((((Grow.refl _).alloc _).alloc _).alloc _) | exact HXA_7.out.grow (((((Grow.refl _).alloc _).alloc _).alloc _).alloc _) | exact HXA_7.out.grow ((Grow.refl _).drewN _)) (by first | exact HXB_7.out | exact HXB_7.out.grow ((Grow.refl _).alloc _) | exact HXB_7.out.grow (((Grow.refl _).alloc _).alloc _) | exact HXB_7.out.grow ((((Grow.refl _).alloc _).alloc _).alloc _) | exact HXB_7.out.grow (((((Grow.refl _).alloc _).alloc _).alloc _).alloc _) | exact HXB_7.out.grow ((Grow.refl _).drewN _)) _ ?_
        intro wz8 hg8 
        have hgr8 : Grow wx6 wz8 := by first | exact hg8 | exact Grow.trans ((Grow.refl _).alloc _) hg8 | exact Grow.trans (((Grow.refl _).alloc _).alloc _) hg8 | exact Grow.trans ((((Grow.refl _).alloc _).alloc _).alloc _) hg8 | exact Grow.trans (((((Grow.refl _).alloc _).alloc _).alloc _).alloc _) hg8 | exact Grow.trans ((Grow.refl _).drewN _) hg8
        have HP_8 := Lib.hid (HP_7.out.grow hgr8)
        have HL_8 := Lib.hid (HL_7.out.grow hgr8)
        have HXA_8 := Lib.hid (HXA_7.out.grow hgr8)
        have HXB_8 := Lib.hid (HXB_7.out.grow hgr8)
        have GCH8 := Lib.hid (GCH7.out.trans hgr8)
        have hbx_8 := hgr8.blk HBX0_7.out
        clear ea0 ea1 za
        obtain ⟨ea0, ea1⟩ := box2 hbx_8
        have za := lt_of_block hbx_8
        have HBX0_8 := Lib.hid hbx_8
        clear hbx_8
        have hbx_8 := hgr8.blk HBB1.out
        clear eb0 eb1 zb
        obtain ⟨eb0, eb1⟩ := box2 hbx_8
        have zb := lt_of_block hbx_8
        have HBX1_8 := Lib.hid hbx_8
        clear hbx_8
        clear hg8 hgr8 HP_7 HL_7 HXA_7 HXB_7 GCH7 HBX0_7 HBB1
        rw [show decide (A = A) = true from decide_eq_true rfl]
        go_wp2_with fail
        refine ssame_any _ _ ?_
        intro wz9 hg9 
        have hgr9 : Grow wz8 wz9 := by first | exact hg9 | exact Grow.trans ((Grow.refl _).alloc _) hg9 | exact Grow.trans (((Grow.refl _).alloc _).alloc _) hg9 | exact Grow.trans ((((Grow.refl _).alloc _).alloc _).alloc _) hg9 | exact Grow.trans (((((Grow.refl _).alloc _).alloc _).alloc _).alloc _) hg9 | exact Grow.trans ((Grow.refl _).drewN _) hg9
        have HP_9 := Lib.hid (HP_8.out.grow hgr9)
        have HL_9 := Lib.hid (HL_8.out.grow hgr9)
        have HXA_9 := Lib.hid (HXA_8.out.grow hgr9)
        have HXB_9 := Lib.hid (HXB_8.out.grow hgr9)
        have GCH9 := Lib.hid (GCH8.out.trans hgr9)
        have hbx_9 := hgr9.blk HBX0_8.out
        clear ea0 ea1 za
        obtain ⟨ea0, ea1⟩ := box2 hbx_9
        have za := lt_of_block hbx_9
        have HBX0_9 := Lib.hid hbx_9
        clear hbx_9
        have hbx_9 := hgr9.blk HBX1_8.out
        clear eb0 eb1 zb
        obtain ⟨eb0, eb1⟩ := box2 hbx_9
        have zb := lt_of_block hbx_9
        have HBX1_9 := Lib.hid hbx_9
        clear hbx_9
        clear hg9 hgr9 HP_8 HL_8 HXA_8 HXB_8 GCH8 HBX0_8 HBX1_8
        go_wp2_with fail
        first | exact HR.out _ (GCH9.out) | exact HR.out _ (Grow.trans GCH9.out ((Grow.refl _).alloc _)) | exact HR.out _ (Grow.trans GCH9.out (((Grow.refl _).alloc _).alloc _)) | exact HR.out _ (Grow.trans GCH9.out ((((Grow.refl _).alloc _).alloc _).alloc _)) | exact HR.out _ (Grow.trans GCH9.out (((((Grow.refl _).alloc _).alloc _).alloc _).alloc _)) | exact HR.out _ (Grow.trans GCH9.out ((Grow.refl _).drewN _))
      obtain ⟨j, hj⟩ : ∃ j, l.length = j + 1 := ⟨l.length - 1, by omega⟩
      obtain ⟨hc2, ⟨b1, b2⟩, ⟨b3, b4⟩, b5, b6, b7⟩ := hlaw rfl j (by omega)
      obtain ⟨sn2, hsn2⟩ : ∃ z, scN p (l.take j) = z := ⟨_, rfl⟩
      rw [hsn2] at b5 b7
      have HSN2 := Lib.hid hsn2
      obtain ⟨sd2, hsd2⟩ : ∃ z, scD p (l.take j) = z := ⟨_, rfl⟩
      rw [hsd2] at b1 b2 b7
      have HSD2 := Lib.hid hsd2
      have HC2 := Lib.hid hc2
      clear hsn2 hsd2 hc2 hlaw
      have t4 : ((l.length : Int) == 0) = false := beq_eq_false_iff_ne.2 (by omega)
      have t5 : ¬ (l.length : Int) = 0 := by omega
      have t6 : (l.length : Int) - 1 = (j : Int) := by omega
      have t7 : IntKind.i64.wrap ((l.length : Int) - 1) = (j : Int) := by rw [t6]; exact IntWalk.i64_in _ (by omega)
      have c1 : (sd2 : Int) ≥ 1 := by omega
      have c2 : (sd2 : Int) ≤ 1000 := by omega
      have c3 : (sd : Int) ≥ 1 := by omega
      have c4 : (sd : Int) ≤ 1000 := by omega
      have c5 : (sn2 : Int) ≥ 0 := by omega
      have c6 : (sn2 : Int) ≤ 1000 := by omega
      have c7 : (sn : Int) ≥ 0 := by omega
      have c8 : (sn : Int) ≤ (sd : Int) := by omega
      have m1 : sn2 * sd ≤ 1000 * 1000 := Nat.mul_le_mul b5 b4
      have m2 : sn * sd2 ≤ 1000 * 1000 := Nat.mul_le_mul (Nat.le_trans b6 b4) b2
      have n1 : (sn2 : Int) * (sd : Int) = ((sn2 * sd : Nat) : Int) := by rw [Int.natCast_mul]
      have n2 : (sn : Int) * (sd2 : Int) = ((sn * sd2 : Nat) : Int) := by rw [Int.natCast_mul]
      have HB7 := Lib.hid (show (sn2 : Int) * (sd : Int) ≤ (sn : Int) * (sd2 : Int) by rw [n1, n2]; exact Int.ofNat_le.2 b7)
      have HW1 := Lib.hid (show IntKind.i64.wrap ((sn2 : Int) * (sd : Int)) = (sn2 : Int) * (sd : Int) by have h0 := Int.natCast_nonneg (sn2 * sd); rw [n1]; exact IntWalk.i64_in ((sn2 * sd : Nat) : Int) (by omega))
      have HW2 := Lib.hid (show IntKind.i64.wrap ((sn : Int) * (sd2 : Int)) = (sn : Int) * (sd2 : Int) by have h0 := Int.natCast_nonneg (sn * sd2); rw [n2]; exact IntWalk.i64_in ((sn * sd2 : Nat) : Int) (by omega))
      clear n1 n2 m1 m2 b7 h1
      have HJ := Lib.hid hj
      have hjl : (j : Int) ≤ (l.length : Int) := by omega
      have hj0 : (0 : Int) ≤ (j : Int) := by omega
      clear hj
      go_enter Tryz.func4, Tryz.ntmps4
      go_wp2_with fail
      refine long4_any p _ _ (by first | exact HP_.out | exact HP_.out.grow ((Grow.refl _).alloc _) | exact HP_.out.grow (((Grow.refl _).alloc _).alloc _) | exact HP_.out.grow ((((Grow.refl _).alloc _).alloc _).alloc _) | exact HP_.out.grow (((((Grow.refl _).alloc _).alloc _).alloc _).alloc _) | exact HP_.out.grow ((Grow.refl _).drewN _)) _ ?_
      rw [HD0.out]
      go_wp2_with fail
      refine many_any l _ _ (by first | exact HL_.out | exact HL_.out.grow ((Grow.refl _).alloc _) | exact HL_.out.grow (((Grow.refl _).alloc _).alloc _) | exact HL_.out.grow ((((Grow.refl _).alloc _).alloc _).alloc _) | exact HL_.out.grow (((((Grow.refl _).alloc _).alloc _).alloc _).alloc _) | exact HL_.out.grow ((Grow.refl _).drewN _)) _ ?_
      intro wz1 hg1 
      have hgr1 : Grow w wz1 := by first | exact hg1 | exact Grow.trans ((Grow.refl _).alloc _) hg1 | exact Grow.trans (((Grow.refl _).alloc _).alloc _) hg1 | exact Grow.trans ((((Grow.refl _).alloc _).alloc _).alloc _) hg1 | exact Grow.trans (((((Grow.refl _).alloc _).alloc _).alloc _).alloc _) hg1 | exact Grow.trans ((Grow.refl _).drewN _) hg1
      have HP_1 := Lib.hid (HP_.out.grow hgr1)
      have HL_1 := Lib.hid (HL_.out.grow hgr1)
      have GCH1 := Lib.hid hgr1
      clear hg1 hgr1 HP_ HL_
      rw [HMB.out]
      go_wp2_with fail
      refine Alive_any p l _ _ _ (by first | exact HP_1.out | exact HP_1.out.grow ((Grow.refl _).alloc _) | exact HP_1.out.grow (((Grow.refl _).alloc _).alloc _) | exact HP_1.out.grow ((((Grow.refl _).alloc _).alloc _).alloc _) | exact HP_1.out.grow (((((Grow.refl _).alloc _).alloc _).alloc _).alloc _) | exact HP_1.out.grow ((Grow.refl _).drewN _)) (by first | exact HL_1.out | exact HL_1.out.grow ((Grow.refl _).alloc _) | exact HL_1.out.grow (((Grow.refl _).alloc _).alloc _) | exact HL_1.out.grow ((((Grow.refl _).alloc _).alloc _).alloc _) | exact HL_1.out.grow (((((Grow.refl _).alloc _).alloc _).alloc _).alloc _) | exact HL_1.out.grow ((Grow.refl _).drewN _)) _ ?_
      intro wz2 x2_0 hg2 hx2_0
      have hgr2 : Grow wz1 wz2 := by first | exact hg2 | exact Grow.trans ((Grow.refl _).alloc _) hg2 | exact Grow.trans (((Grow.refl _).alloc _).alloc _) hg2 | exact Grow.trans ((((Grow.refl _).alloc _).alloc _).alloc _) hg2 | exact Grow.trans (((((Grow.refl _).alloc _).alloc _).alloc _).alloc _) hg2 | exact Grow.trans ((Grow.refl _).drewN _) hg2
      have HP_2 := Lib.hid (HP_1.out.grow hgr2)
      have HL_2 := Lib.hid (HL_1.out.grow hgr2)
      have GCH2 := Lib.hid (GCH1.out.trans hgr2)
      clear hg2 hgr2 HP_1 HL_1 GCH1
      rw [HAA.out] at hx2_0
      have hyHXA_2 := hx2_0
      have HXA_2 := Lib.hid hyHXA_2
      obtain ⟨aHXA_2, cHXA_2, rfl, qHXA_21, qHXA_22, _⟩ := hyHXA_2
      clear hx2_0
      rw [HE.out]
      go_wp2_with fail
      refine r5Alive_any p l _ _ _ (by first | exact HP_2.out | exact HP_2.out.grow ((Grow.refl _).alloc _) | exact HP_2.out.grow (((Grow.refl _).alloc _).alloc _) | exact HP_2.out.grow ((((Grow.refl _).alloc _).alloc _).alloc _) | exact HP_2.out.grow (((((Grow.refl _).alloc _).alloc _).alloc _).alloc _) | exact HP_2.out.grow ((Grow.refl _).drewN _)) (by first | exact HL_2.out | exact HL_2.out.grow ((Grow.refl _).alloc _) | exact HL_2.out.grow (((Grow.refl _).alloc _).alloc _) | exact HL_2.out.grow ((((Grow.refl _).alloc _).alloc _).alloc _) | exact HL_2.out.grow (((((Grow.refl _).alloc _).alloc _).alloc _).alloc _) | exact HL_2.out.grow ((Grow.refl _).drewN _)) _ ?_
      intro wz3 x3_0 hg3 hx3_0
      have hgr3 : Grow wz2 wz3 := by first | exact hg3 | exact Grow.trans ((Grow.refl _).alloc _) hg3 | exact Grow.trans (((Grow.refl _).alloc _).alloc _) hg3 | exact Grow.trans ((((Grow.refl _).alloc _).alloc _).alloc _) hg3 | exact Grow.trans (((((Grow.refl _).alloc _).alloc _).alloc _).alloc _) hg3 | exact Grow.trans ((Grow.refl _).drewN _) hg3
      have HP_3 := Lib.hid (HP_2.out.grow hgr3)
      have HL_3 := Lib.hid (HL_2.out.grow hgr3)
      have HXA_3 := Lib.hid (HXA_2.out.grow hgr3)
      have GCH3 := Lib.hid (GCH2.out.trans hgr3)
      clear hg3 hgr3 HP_2 HL_2 HXA_2 GCH2
      rw [HAA.out] at hx3_0
      have hyHXB_3 := hx3_0
      have HXB_3 := Lib.hid hyHXB_3
      obtain ⟨aHXB_3, cHXB_3, rfl, qHXB_31, qHXB_32, _⟩ := hyHXB_3
      clear hx3_0
      rw [HE.out]
      go_wp2_with fail
      refine Score_any p l _ _ _ (by first | exact HP_3.out | exact HP_3.out.grow ((Grow.refl _).alloc _) | exact HP_3.out.grow (((Grow.refl _).alloc _).alloc _) | exact HP_3.out.grow ((((Grow.refl _).alloc _).alloc _).alloc _) | exact HP_3.out.grow (((((Grow.refl _).alloc _).alloc _).alloc _).alloc _) | exact HP_3.out.grow ((Grow.refl _).drewN _)) (by first | exact HL_3.out | exact HL_3.out.grow ((Grow.refl _).alloc _) | exact HL_3.out.grow (((Grow.refl _).alloc _).alloc _) | exact HL_3.out.grow ((((Grow.refl _).alloc _).alloc _).alloc _) | exact HL_3.out.grow (((((Grow.refl _).alloc _).alloc _).alloc _).alloc _) | exact HL_3.out.grow ((Grow.refl _).drewN _)) _ ?_
      intro wz4 hg4 
      have hgr4 : Grow wz3 wz4 := by first | exact hg4 | exact Grow.trans ((Grow.refl _).alloc _) hg4 | exact Grow.trans (((Grow.refl _).alloc _).alloc _) hg4 | exact Grow.trans ((((Grow.refl _).alloc _).alloc _).alloc _) hg4 | exact Grow.trans (((((Grow.refl _).alloc _).alloc _).alloc _).alloc _) hg4 | exact Grow.trans ((Grow.refl _).drewN _) hg4
      have HP_4 := Lib.hid (HP_3.out.grow hgr4)
      have HL_4 := Lib.hid (HL_3.out.grow hgr4)
      have HXA_4 := Lib.hid (HXA_3.out.grow hgr4)
      have HXB_4 := Lib.hid (HXB_3.out.grow hgr4)
      have GCH4 := Lib.hid (GCH3.out.trans hgr4)
      clear hg4 hgr4 HP_3 HL_3 HXA_3 HXB_3 GCH3
      rw [HSE.out, HSN.out, HSD.out]
      go_wp2_with fail
      obtain ⟨wx4, hwb0⟩ : ∃ W, wz4.alloc (.cells #[.int .i64 (sn : Int), .int .i64 (sd : Int)] 44) = W := ⟨_, rfl⟩
      rw [hwb0]
      have hgb0 : Grow wz4 wx4 := hwb0 ▸ (Grow.refl wz4).alloc _
      have hbb0 : wx4.heap[wz4.heap.size]? = some (.cells #[.int .i64 (sn : Int), .int .i64 (sd : Int)] 44 (0, 0)) := by have h := heap_alloc_new wz4 (.cells #[.int .i64 (sn : Int), .int .i64 (sd : Int)] 44); rw [hwb0] at h; exact h
      clear hwb0
      have hgr5 : Grow wz4 wx4 := by first | exact hgb0 | exact Grow.trans ((Grow.refl _).alloc _) hgb0 | exact Grow.trans (((Grow.refl _).alloc _).alloc _) hgb0 | exact Grow.trans ((((Grow.refl _).alloc _).alloc _).alloc _) hgb0 | exact Grow.trans (((((Grow.refl _).alloc _).alloc _).alloc _).alloc _) hgb0 | exact Grow.trans ((Grow.refl _).drewN _) hgb0
      have HP_5 := Lib.hid (HP_4.out.grow hgr5)
      have HL_5 := Lib.hid (HL_4.out.grow hgr5)
      have HXA_5 := Lib.hid (HXA_4.out.grow hgr5)
      have HXB_5 := Lib.hid (HXB_4.out.grow hgr5)
      have GCH5 := Lib.hid (GCH4.out.trans hgr5)
      clear hgb0 hgr5 HP_4 HL_4 HXA_4 HXB_4 GCH4
      obtain ⟨ea0, ea1⟩ := box2 hbb0
      have za := lt_of_block hbb0
      have HBB0 := Lib.hid hbb0
      clear hbb0
      refine r5Score_any p l _ _ _ (by first | exact HP_5.out | exact HP_5.out.grow ((Grow.refl _).alloc _) | exact HP_5.out.grow (((Grow.refl _).alloc _).alloc _) | exact HP_5.out.grow ((((Grow.refl _).alloc _).alloc _).alloc _) | exact HP_5.out.grow (((((Grow.refl _).alloc _).alloc _).alloc _).alloc _) | exact HP_5.out.grow ((Grow.refl _).drewN _)) (by first | exact HL_5.out | exact HL_5.out.grow ((Grow.refl _).alloc _) | exact HL_5.out.grow (((Grow.refl _).alloc _).alloc _) | exact HL_5.out.grow ((((Grow.refl _).alloc _).alloc _).alloc _) | exact HL_5.out.grow (((((Grow.refl _).alloc _).alloc _).alloc _).alloc _) | exact HL_5.out.grow ((Grow.refl _).drewN _)) _ ?_
      intro wz6 hg6 
      have hgr6 : Grow wx4 wz6 := by first | exact hg6 | exact Grow.trans ((Grow.refl _).alloc _) hg6 | exact Grow.trans (((Grow.refl _).alloc _).alloc _) hg6 | exact Grow.trans ((((Grow.refl _).alloc _).alloc _).alloc _) hg6 | exact Grow.trans (((((Grow.refl _).alloc _).alloc _).alloc _).alloc _) hg6 | exact Grow.trans ((Grow.refl _).drewN _) hg6
      have HP_6 := Lib.hid (HP_5.out.grow hgr6)
      have HL_6 := Lib.hid (HL_5.out.grow hgr6)
      have HXA_6 := Lib.hid (HXA_5.out.grow hgr6)
      have HXB_6 := Lib.hid (HXB_5.out.grow hgr6)
      have GCH6 := Lib.hid (GCH5.out.trans hgr6)
      have hbx_6 := hgr6.blk HBB0.out
      clear ea0 ea1 za
      obtain ⟨ea0, ea1⟩ := box2 hbx_6
      have za := lt_of_block hbx_6
      have HBX0_6 := Lib.hid hbx_6
      clear hbx_6
      clear hg6 hgr6 HP_5 HL_5 HXA_5 HXB_5 GCH5 HBB0
      rw [HSE.out, HSN.out, HSD.out]
      go_wp2_with fail
      obtain ⟨wx6, hwb1⟩ : ∃ W, wz6.alloc (.cells #[.int .i64 (sn : Int), .int .i64 (sd : Int)] 44) = W := ⟨_, rfl⟩
      rw [hwb1]
      have hgb1 : Grow wz6 wx6 := hwb1 ▸ (Grow.refl wz6).alloc _
      have hbb1 : wx6.heap[wz6.heap.size]? = some (.cells #[.int .i64 (sn : Int), .int .i64 (sd : Int)] 44 (0, 0)) := by have h := heap_alloc_new wz6 (.cells #[.int .i64 (sn : Int), .int .i64 (sd : Int)] 44); rw [hwb1] at h; exact h
      clear hwb1
      have hgr7 : Grow wz6 wx6 := by first | exact hgb1 | exact Grow.trans ((Grow.refl _).alloc _) hgb1 | exact Grow.trans (((Grow.refl _).alloc _).alloc _) hgb1 | exact Grow.trans ((((Grow.refl _).alloc _).alloc _).alloc _) hgb1 | exact Grow.trans (((((Grow.refl _).alloc _).alloc _).alloc _).alloc _) hgb1 | exact Grow.trans ((Grow.refl _).drewN _) hgb1
      have HP_7 := Lib.hid (HP_6.out.grow hgr7)
      have HL_7 := Lib.hid (HL_6.out.grow hgr7)
      have HXA_7 := Lib.hid (HXA_6.out.grow hgr7)
      have HXB_7 := Lib.hid (HXB_6.out.grow hgr7)
      have GCH7 := Lib.hid (GCH6.out.trans hgr7)
      have hbx_7 := hgr7.blk HBX0_6.out
      clear ea0 ea1 za
      obtain ⟨ea0, ea1⟩ := box2 hbx_7
      have za := lt_of_block hbx_7
      have HBX0_7 := Lib.hid hbx_7
      clear hbx_7
      clear hgb1 hgr7 HP_6 HL_6 HXA_6 HXB_6 GCH6 HBX0_6
      obtain ⟨eb0, eb1⟩ := box2 hbb1
      have zb := lt_of_block hbb1
      have HBB1 := Lib.hid hbb1
      clear hbb1
      refine rsameE_any A A _ _ _ (by first | exact HXA_7.out | exact HXA_7.out.grow ((Grow.refl _).alloc _) | exact HXA_7.out.grow (((Grow.refl _).alloc _).alloc _) | exact HXA_7.out.grow ((((Grow.refl _).alloc _).alloc _).alloc _) | exact HXA_7.out.grow (((((Grow.refl _).alloc _).alloc _).alloc _).alloc _) | exact HXA_7.out.grow ((Grow.refl _).drewN _)) (by first | exact HXB_7.out | exact HXB_7.out.grow ((Grow.refl _).alloc _) | exact HXB_7.out.grow (((Grow.refl _).alloc _).alloc _) | exact HXB_7.out.grow ((((Grow.refl _).alloc _).alloc _).alloc _) | exact HXB_7.out.grow (((((Grow.refl _).alloc _).alloc _).alloc _).alloc _) | exact HXB_7.out.grow ((Grow.refl _).drewN _)) _ ?_
      intro wz8 hg8 
      have hgr8 : Grow wx6 wz8 := by first | exact hg8 | exact Grow.trans ((Grow.refl _).alloc _) hg8 | exact Grow.trans (((Grow.refl _).alloc _).alloc _) hg8 | exact Grow.trans ((((Grow.refl _).alloc _).alloc _).alloc _) hg8 | exact Grow.trans (((((Grow.refl _).alloc _).alloc _).alloc _).alloc _) hg8 | exact Grow.trans ((Grow.refl _).drewN _) hg8
      have HP_8 := Lib.hid (HP_7.out.grow hgr8)
      have HL_8 := Lib.hid (HL_7.out.grow hgr8)
      have HXA_8 := Lib.hid (HXA_7.out.grow hgr8)
      have HXB_8 := Lib.hid (HXB_7.out.grow hgr8)
      have GCH8 := Lib.hid (GCH7.out.trans hgr8)
      have hbx_8 := hgr8.blk HBX0_7.out
      clear ea0 ea1 za
      obtain ⟨ea0, ea1⟩ := box2 hbx_8
      have za := lt_of_block hbx_8
      have HBX0_8 := Lib.hid hbx_8
      clear hbx_8
      have hbx_8 := hgr8.blk HBB1.out
      clear eb0 eb1 zb
      obtain ⟨eb0, eb1⟩ := box2 hbx_8
      have zb := lt_of_block hbx_8
      have HBX1_8 := Lib.hid hbx_8
      clear hbx_8
      clear hg8 hgr8 HP_7 HL_7 HXA_7 HXB_7 GCH7 HBX0_7 HBB1
      rw [show decide (A = A) = true from decide_eq_true rfl]
      go_wp2_with fail
      have htk := tests_take (by first | exact HL_8.out | exact HL_8.out.grow ((Grow.refl _).alloc _) | exact HL_8.out.grow (((Grow.refl _).alloc _).alloc _) | exact HL_8.out.grow ((((Grow.refl _).alloc _).alloc _).alloc _) | exact HL_8.out.grow (((((Grow.refl _).alloc _).alloc _).alloc _).alloc _) | exact HL_8.out.grow ((Grow.refl _).drewN _)) j (by have := HJ.out; omega)
      have HTK := Lib.hid htk
      clear htk
      have hb7 := HB7.out
      have hw1 := HW1.out
      have hw2 := HW2.out
      refine Score_any p (l.take j) _ _ _ (by first | exact HP_8.out | exact HP_8.out.grow ((Grow.refl _).alloc _) | exact HP_8.out.grow (((Grow.refl _).alloc _).alloc _) | exact HP_8.out.grow ((((Grow.refl _).alloc _).alloc _).alloc _) | exact HP_8.out.grow (((((Grow.refl _).alloc _).alloc _).alloc _).alloc _) | exact HP_8.out.grow ((Grow.refl _).drewN _)) HTK.out _ ?_
      intro wz9 hg9 
      have hgr9 : Grow wz8 wz9 := by first | exact hg9 | exact Grow.trans ((Grow.refl _).alloc _) hg9 | exact Grow.trans (((Grow.refl _).alloc _).alloc _) hg9 | exact Grow.trans ((((Grow.refl _).alloc _).alloc _).alloc _) hg9 | exact Grow.trans (((((Grow.refl _).alloc _).alloc _).alloc _).alloc _) hg9 | exact Grow.trans ((Grow.refl _).drewN _) hg9
      have HP_9 := Lib.hid (HP_8.out.grow hgr9)
      have HL_9 := Lib.hid (HL_8.out.grow hgr9)
      have HXA_9 := Lib.hid (HXA_8.out.grow hgr9)
      have HXB_9 := Lib.hid (HXB_8.out.grow hgr9)
      have GCH9 := Lib.hid (GCH8.out.trans hgr9)
      have hbx_9 := hgr9.blk HBX0_8.out
      clear ea0 ea1 za
      obtain ⟨ea0, ea1⟩ := box2 hbx_9
      have za := lt_of_block hbx_9
      have HBX0_9 := Lib.hid hbx_9
      clear hbx_9
      have hbx_9 := hgr9.blk HBX1_8.out
      clear eb0 eb1 zb
      obtain ⟨eb0, eb1⟩ := box2 hbx_9
      have zb := lt_of_block hbx_9
      have HBX1_9 := Lib.hid hbx_9
      clear hbx_9
      clear hg9 hgr9 HP_8 HL_8 HXA_8 HXB_8 GCH8 HBX0_8 HBX1_8
      rw [HC2.out, HSN2.out, HSD2.out]
      go_wp2_with fail
      obtain ⟨wx9, hwb2⟩ : ∃ W, wz9.alloc (.cells #[.int .i64 (sn2 : Int), .int .i64 (sd2 : Int)] 44) = W := ⟨_, rfl⟩
      rw [hwb2]
      have hgb2 : Grow wz9 wx9 := hwb2 ▸ (Grow.refl wz9).alloc _
      have hbb2 : wx9.heap[wz9.heap.size]? = some (.cells #[.int .i64 (sn2 : Int), .int .i64 (sd2 : Int)] 44 (0, 0)) := by have h := heap_alloc_new wz9 (.cells #[.int .i64 (sn2 : Int), .int .i64 (sd2 : Int)] 44); rw [hwb2] at h; exact h
      clear hwb2
      have hgr10 : Grow wz9 wx9 := by first | exact hgb2 | exact Grow.trans ((Grow.refl _).alloc _) hgb2 | exact Grow.trans (((Grow.refl _).alloc _).alloc _) hgb2 | exact Grow.trans ((((Grow.refl _).alloc _).alloc _).alloc _) hgb2 | exact Grow.trans (((((Grow.refl _).alloc _).alloc _).alloc _).alloc _) hgb2 | exact Grow.trans ((Grow.refl _).drewN _) hgb2
      have HP_10 := Lib.hid (HP_9.out.grow hgr10)
      have HL_10 := Lib.hid (HL_9.out.grow hgr10)
      have HXA_10 := Lib.hid (HXA_9.out.grow hgr10)
      have HXB_10 := Lib.hid (HXB_9.out.grow hgr10)
      have GCH10 := Lib.hid (GCH9.out.trans hgr10)
      have hbx_10 := hgr10.blk HBX0_9.out
      clear ea0 ea1 za
      obtain ⟨ea0, ea1⟩ := box2 hbx_10
      have za := lt_of_block hbx_10
      have HBX0_10 := Lib.hid hbx_10
      clear hbx_10
      have hbx_10 := hgr10.blk HBX1_9.out
      clear eb0 eb1 zb
      obtain ⟨eb0, eb1⟩ := box2 hbx_10
      have zb := lt_of_block hbx_10
      have HBX1_10 := Lib.hid hbx_10
      clear hbx_10
      clear hgb2 hgr10 HP_9 HL_9 HXA_9 HXB_9 GCH9 HBX0_9 HBX1_9
      obtain ⟨ec0, ec1⟩ := box2 hbb2
      have zc := lt_of_block hbb2
      have HBB2 := Lib.hid hbb2
      clear hbb2
      refine ssame_any _ _ ?_
      intro wz11 hg11 
      have hgr11 : Grow wx9 wz11 := by first | exact hg11 | exact Grow.trans ((Grow.refl _).alloc _) hg11 | exact Grow.trans (((Grow.refl _).alloc _).alloc _) hg11 | exact Grow.trans ((((Grow.refl _).alloc _).alloc _).alloc _) hg11 | exact Grow.trans (((((Grow.refl _).alloc _).alloc _).alloc _).alloc _) hg11 | exact Grow.trans ((Grow.refl _).drewN _) hg11
      have HP_11 := Lib.hid (HP_10.out.grow hgr11)
      have HL_11 := Lib.hid (HL_10.out.grow hgr11)
      have HXA_11 := Lib.hid (HXA_10.out.grow hgr11)
      have HXB_11 := Lib.hid (HXB_10.out.grow hgr11)
      have GCH11 := Lib.hid (GCH10.out.trans hgr11)
      have hbx_11 := hgr11.blk HBX0_10.out
      clear ea0 ea1 za
      obtain ⟨ea0, ea1⟩ := box2 hbx_11
      have za := lt_of_block hbx_11
      have HBX0_11 := Lib.hid hbx_11
      clear hbx_11
      have hbx_11 := hgr11.blk HBX1_10.out
      clear eb0 eb1 zb
      obtain ⟨eb0, eb1⟩ := box2 hbx_11
      have zb := lt_of_block hbx_11
      have HBX1_11 := Lib.hid hbx_11
      clear hbx_11
      have hbx_11 := hgr11.blk HBB2.out
      clear ec0 ec1 zc
      obtain ⟨ec0, ec1⟩ := box2 hbx_11
      have zc := lt_of_block hbx_11
      have HBX2_11 := Lib.hid hbx_11
      clear hbx_11
      clear hg11 hgr11 HP_10 HL_10 HXA_10 HXB_10 GCH10 HBX0_10 HBX1_10 HBB2
      go_wp2_with fail
      first | exact HR.out _ (GCH11.out) | exact HR.out _ (Grow.trans GCH11.out ((Grow.refl _).alloc _)) | exact HR.out _ (Grow.trans GCH11.out (((Grow.refl _).alloc _).alloc _)) | exact HR.out _ (Grow.trans GCH11.out ((((Grow.refl _).alloc _).alloc _).alloc _)) | exact HR.out _ (Grow.trans GCH11.out (((((Grow.refl _).alloc _).alloc _).alloc _).alloc _)) | exact HR.out _ (Grow.trans GCH11.out ((Grow.refl _).drewN _))
end Go.Proofs.YtbccbokjecdaaaaGreat

namespace Go.Proofs.YtbccbokjecdaaaaGreat
open Go.ChangeShapes Go.WideShapes Go.ChangeAt Go.RowKit

theorem Tryz.own : ownKnob Tryz.prog.godebug = none := by kernel_rfl
theorem Tryz.laidOut : laidOutB Tryz.prog = true := by kernel_rfl

set_option maxRecDepth 100000 in
set_option maxHeartbeats 4000000 in
theorem seekScores_lifted (os : Os) (started : os.Started) (H : Type) (enc : TypeId × Value → H) :
    ReturnsInHanded {} Tryz.checked os 4 .any (Rows.seekScoresSpec.pre6 enc Tryz.prog Tryz.f4 Rows.seekScoresRow.domain false) (Rows.seekScoresSpec.post enc Tryz.prog Tryz.f4 false true false false) := by
  refine returnsInHanded_of_change (C := Tryz.checked) Tryz.own started (by kernel_rfl) Tryz.func4
    (ChangeSpec.witness6 (enc := enc) (C := Tryz.checked) false ⟨#[], #[.slice none 0 0, .slice none 0 0], []⟩ 8 (by kernel_rfl) (by kernel_rfl) (by kernel_rfl) (by kernel_rfl)) ?_
  intro W base args ds gs before hval0 hW hcnd _
  have hval : ∀ (j : Nat) t v, Tryz.f4.params[j]? = some t → args[j]? = some v → Value.okWide Tryz.prog W .any base t v := hval0
  have hW' := hW
  obtain ⟨p, q, hA0, hV, rfl, hfz, hnd⟩ := hW
  have hA : DataW.TrodAll enc Tryz.prog W 0 (fun _ => true) true Tryz.f4.params.toList args.toList ds p := hA0
  rw [Tryz.params4] at hA hval
  obtain ⟨v0, v1, d0, d1, p0, p1, rfl, rfl, rfl, h0, h1⟩ := trodAll_two hA
  obtain ⟨rfl, rfl⟩ := trodVars_none hV
  have hk0 := h0
  have hk1 := h1
  obtain ⟨x0, hx0⟩ := arg_lines (hval 0 22 v0 rfl rfl) h0
  obtain ⟨x1, hx1⟩ := arg_tests (hval 1 23 v1 rfl rfl) h1
  clear hA0 hval0
  refine Calls.mono (seekScores_any x0 x1 W v0 v1 hx0 hx1 (fun e W' => e = .returned (.bool true) ∧ Grow W W') (fun W' hg => ⟨rfl, hg⟩)) fun e W' ⟨he, hB⟩ => ?_
  subst he
  have hlt0 : ∀ x ∈ p0, x.block < W.heap.size := fun x hx => hW'.lt x (List.mem_append_left _ (List.mem_append_left _ (hx)))
  have ht0 := Below.trod Tryz.laidOut (by kernel_rfl) (of_decide_eq_true (by kernel_rfl)) hk0 hB hlt0
  have hlt1 : ∀ x ∈ p1, x.block < W.heap.size := fun x hx => hW'.lt x (List.mem_append_left _ (List.mem_append_right _ hx))
  have ht1 := Below.trod Tryz.laidOut (by kernel_rfl) (of_decide_eq_true (by kernel_rfl)) hk1 hB hlt1
  exact ⟨_, rfl, _, _, _, [], _, [], hW', trodAll_mk1 (shut_bool Tryz.underlying4 true), trodAll_mk2 ht0 ht1, rfl, hB.frame _, fun h => by cases h⟩

theorem seekScores_holds : Rows.SeekScoresSaid :=
  OpenClaim.holds_of_wide 4 Tryz.f4 rfl rfl rfl rfl rfl rfl rfl ⟨rfl, rfl, rfl, rfl, rfl⟩ rfl rfl rfl rfl rfl (by kernel_rfl) Tryz.func4 (by kernel_rfl)
    (of_decide_eq_true (by kernel_rfl)) (by unfold Func.isWrapper; first | (rw [if_pos (by decide +kernel)]; kernel_rfl) | (rw [if_neg (by decide +kernel)]; exact ⟨rfl, rfl⟩))
    (fun os started H enc _ => seekScores_lifted os started H enc)

end Go.Proofs.YtbccbokjecdaaaaGreat
