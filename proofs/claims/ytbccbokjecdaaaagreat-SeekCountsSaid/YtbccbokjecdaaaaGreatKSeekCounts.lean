/-
The statement SeekCounts: how many single repairs there are, and at which places, is what the document says, for all programs, tests and kinds. No condition.
-/
import Derived.Test.YtbccbokjecdaaaaGreatB22
import Derived.Test.YtbccbokjecdaaaaGreatB35
import Derived.Test.YtbccbokjecdaaaaGreatB36
import Derived.Test.YtbccbokjecdaaaaGreatB37
import Derived.ProofKit
import Derived.Lib.SmallJoins
import Derived.Test.YtbccbokjecdaaaaGreatB34
namespace Go.Proofs.YtbccbokjecdaaaaGreat
open Go.RowKit

set_option maxRecDepth 100000 in
set_option maxHeartbeats 16000000 in
theorem seekCounts_any (p : List Ln) (l : List Tst) (x : Int) (w : World) (vp vl : Value) (hp : LinesAt w vp p) (hl : TestsAt w vl l) (R : Ending → World → Prop) (hR : ∀ w', Grow w w' → R (.returned (.bool true)) w') :
    Calls Tryz.prog 7 #[vp, vl, .int .i64 x] w R := by
  have HR := Lib.hid hR
  have HP_ := Lib.hid hp
  obtain ⟨adp, cpp, rfl, qp1, qp2, _⟩ := hp
  have HL_ := Lib.hid hl
  obtain ⟨⟨adl, cpl, rfl, ql1, ql2, _⟩, _⟩ := hl
  clear hR
  by_cases gd0 : 100 < p.length
  · have hd0 : decide (100 < p.length) = true := decide_eq_true gd0
    have HD0 := Lib.hid hd0
    clear hd0 gd0
    go_enter Tryz.func7, Tryz.ntmps7
    go_wp2_with fail
    refine long4_any p _ _ (by first | exact HP_.out | exact HP_.out.grow ((Grow.refl _).alloc _) | exact HP_.out.grow (((Grow.refl _).alloc _).alloc _) | exact HP_.out.grow ((((Grow.refl _).alloc _).alloc _).alloc _) | exact HP_.out.grow (((((Grow.refl _).alloc _).alloc _).alloc _).alloc _) | exact HP_.out.grow ((Grow.refl _).drewN _)) _ ?_
    rw [HD0.out]
    go_wp2_with fail
    refine ssame_any _ _ ?_
    intro wz1 hg1 
    have hgr1 : Grow w wz1 := by first | exact hg1 | exact Grow.trans ((Grow.refl _).alloc _) hg1 | exact Grow.trans (((Grow.refl _).alloc _).alloc _) hg1 | exact Grow.trans ((((Grow.refl _).alloc _).alloc _).alloc _) hg1 | exact Grow.trans (((((Grow.refl _).alloc _).alloc _).alloc _).alloc _) hg1 | exact Grow.trans ((Grow.refl _).drewN _) hg1
    have HP_1 := Lib.hid (HP_.out.grow hgr1)
    have HL_1 := Lib.hid (HL_.out.grow hgr1)
    have GCH1 := Lib.hid hgr1
    clear hg1 hgr1 HP_ HL_
    go_wp2_with fail
    first | exact HR.out _ (GCH1.out) | exact HR.out _ (Grow.trans GCH1.out ((Grow.refl _).alloc _)) | exact HR.out _ (Grow.trans GCH1.out (((Grow.refl _).alloc _).alloc _)) | exact HR.out _ (Grow.trans GCH1.out ((((Grow.refl _).alloc _).alloc _).alloc _)) | exact HR.out _ (Grow.trans GCH1.out (((((Grow.refl _).alloc _).alloc _).alloc _).alloc _)) | exact HR.out _ (Grow.trans GCH1.out ((Grow.refl _).drewN _))
  · have hd0 : decide (100 < p.length) = false := decide_eq_false gd0
    have HD0 := Lib.hid hd0
    clear hd0
    obtain ⟨mb, hmb⟩ : ∃ z, manyB l = z := ⟨_, rfl⟩
    have HMB := Lib.hid hmb
    clear hmb
    cases mb with
    | true =>
      go_enter Tryz.func7, Tryz.ntmps7
      go_wp2_with fail
      refine long4_any p _ _ (by first | exact HP_.out | exact HP_.out.grow ((Grow.refl _).alloc _) | exact HP_.out.grow (((Grow.refl _).alloc _).alloc _) | exact HP_.out.grow ((((Grow.refl _).alloc _).alloc _).alloc _) | exact HP_.out.grow (((((Grow.refl _).alloc _).alloc _).alloc _).alloc _) | exact HP_.out.grow ((Grow.refl _).drewN _)) _ ?_
      rw [HD0.out]
      go_wp2_with fail
      refine many_any l _ _ (by first | exact HL_.out | exact HL_.out.grow ((Grow.refl _).alloc _) | exact HL_.out.grow (((Grow.refl _).alloc _).alloc _) | exact HL_.out.grow ((((Grow.refl _).alloc _).alloc _).alloc _) | exact HL_.out.grow (((((Grow.refl _).alloc _).alloc _).alloc _).alloc _) | exact HL_.out.grow ((Grow.refl _).drewN _)) _ ?_
      intro wz1 hg1 
      have hgr1 : Grow w wz1 := by first | exact hg1 | exact Grow.trans ((Grow.refl _).alloc _) hg1 | exact Grow.trans (((Grow.refl _).alloc _).alloc _) hg1 | exact Grow.trans ((((Grow.refl _).alloc _).alloc _).alloc _) hg1 | exact Grow.trans (((((Grow.refl _).alloc _).alloc _).alloc _).alloc _) hg1 | exact Grow.trans ((Grow.refl _).drewN _) hg1
      have HP_1 := Lib.hid (HP_.out.grow hgr1)
      have HL_1 := Lib.hid (HL_.out.grow hgr1)
      have GCH1 := Lib.hid hgr1
      clear hg1 hgr1 HP_ HL_
      rw [HMB.out]
      go_wp2_with fail
      refine ssame_any _ _ ?_
      intro wz2 hg2 
      have hgr2 : Grow wz1 wz2 := by first | exact hg2 | exact Grow.trans ((Grow.refl _).alloc _) hg2 | exact Grow.trans (((Grow.refl _).alloc _).alloc _) hg2 | exact Grow.trans ((((Grow.refl _).alloc _).alloc _).alloc _) hg2 | exact Grow.trans (((((Grow.refl _).alloc _).alloc _).alloc _).alloc _) hg2 | exact Grow.trans ((Grow.refl _).drewN _) hg2
      have HP_2 := Lib.hid (HP_1.out.grow hgr2)
      have HL_2 := Lib.hid (HL_1.out.grow hgr2)
      have GCH2 := Lib.hid (GCH1.out.trans hgr2)
      clear hg2 hgr2 HP_1 HL_1 GCH1
      go_wp2_with fail
      first | exact HR.out _ (GCH2.out) | exact HR.out _ (Grow.trans GCH2.out ((Grow.refl _).alloc _)) | exact HR.out _ (Grow.trans GCH2.out (((Grow.refl _).alloc _).alloc _)) | exact HR.out _ (Grow.trans GCH2.out ((((Grow.refl _).alloc _).alloc _).alloc _)) | exact HR.out _ (Grow.trans GCH2.out (((((Grow.refl _).alloc _).alloc _).alloc _).alloc _)) | exact HR.out _ (Grow.trans GCH2.out ((Grow.refl _).drewN _))
    | false =>
      have hcp := cnt_plc p l x p.length
      have hco : cntO p l x = if sgtE p l x = 0 then cntR p l x p.length else 0 := rfl
      have hpo : plcO p l x = if sgtE p l x = 0 then plcR p l x p.length else [] := rfl
      obtain ⟨e, he⟩ : ∃ z, sgtE p l x = z := ⟨_, rfl⟩
      rw [he] at hco hpo
      have HE := Lib.hid he
      clear he
      obtain ⟨N, hN⟩ : ∃ z, cntO p l x = z := ⟨_, rfl⟩
      obtain ⟨A, hA⟩ : ∃ z, plcO p l x = z := ⟨_, rfl⟩
      have hA8 : e = 0 → A.length ≤ N ∧ (0 < N ↔ 0 < A.length) := fun h => by rw [← hN, ← hA, hco, hpo, if_pos h, if_pos h]; exact hcp
      have HNN := Lib.hid hN
      have HAA := Lib.hid hA
      clear hN hA hco hpo hcp
      have t3 : (e == e) = true := by simp
      by_cases h0 : e = 0
      rotate_left
      · have t1 : (e != 0) = true := by simpa using h0
        clear h0 hA8
        go_enter Tryz.func7, Tryz.ntmps7
        go_wp2_with fail
        refine long4_any p _ _ (by first | exact HP_.out | exact HP_.out.grow ((Grow.refl _).alloc _) | exact HP_.out.grow (((Grow.refl _).alloc _).alloc _) | exact HP_.out.grow ((((Grow.refl _).alloc _).alloc _).alloc _) | exact HP_.out.grow (((((Grow.refl _).alloc _).alloc _).alloc _).alloc _) | exact HP_.out.grow ((Grow.refl _).drewN _)) _ ?_
        rw [HD0.out]
        go_wp2_with fail
        refine many_any l _ _ (by first | exact HL_.out | exact HL_.out.grow ((Grow.refl _).alloc _) | exact HL_.out.grow (((Grow.refl _).alloc _).alloc _) | exact HL_.out.grow ((((Grow.refl _).alloc _).alloc _).alloc _) | exact HL_.out.grow (((((Grow.refl _).alloc _).alloc _).alloc _).alloc _) | exact HL_.out.grow ((Grow.refl _).drewN _)) _ ?_
        intro wz1 hg1 
        have hgr1 : Grow w wz1 := by first | exact hg1 | exact Grow.trans ((Grow.refl _).alloc _) hg1 | exact Grow.trans (((Grow.refl _).alloc _).alloc _) hg1 | exact Grow.trans ((((Grow.refl _).alloc _).alloc _).alloc _) hg1 | exact Grow.trans (((((Grow.refl _).alloc _).alloc _).alloc _).alloc _) hg1 | exact Grow.trans ((Grow.refl _).drewN _) hg1
        have HP_1 := Lib.hid (HP_.out.grow hgr1)
        have HL_1 := Lib.hid (HL_.out.grow hgr1)
        have GCH1 := Lib.hid hgr1
        clear hg1 hgr1 HP_ HL_
        rw [HMB.out]
        go_wp2_with fail
        refine Count_any p l x _ _ _ (by first | exact HP_1.out | exact HP_1.out.grow ((Grow.refl _).alloc _) | exact HP_1.out.grow (((Grow.refl _).alloc _).alloc _) | exact HP_1.out.grow ((((Grow.refl _).alloc _).alloc _).alloc _) | exact HP_1.out.grow (((((Grow.refl _).alloc _).alloc _).alloc _).alloc _) | exact HP_1.out.grow ((Grow.refl _).drewN _)) (by first | exact HL_1.out | exact HL_1.out.grow ((Grow.refl _).alloc _) | exact HL_1.out.grow (((Grow.refl _).alloc _).alloc _) | exact HL_1.out.grow ((((Grow.refl _).alloc _).alloc _).alloc _) | exact HL_1.out.grow (((((Grow.refl _).alloc _).alloc _).alloc _).alloc _) | exact HL_1.out.grow ((Grow.refl _).drewN _)) _ ?_
        intro wz2 hg2 
        have hgr2 : Grow wz1 wz2 := by first | exact hg2 | exact Grow.trans ((Grow.refl _).alloc _) hg2 | exact Grow.trans (((Grow.refl _).alloc _).alloc _) hg2 | exact Grow.trans ((((Grow.refl _).alloc _).alloc _).alloc _) hg2 | exact Grow.trans (((((Grow.refl _).alloc _).alloc _).alloc _).alloc _) hg2 | exact Grow.trans ((Grow.refl _).drewN _) hg2
        have HP_2 := Lib.hid (HP_1.out.grow hgr2)
        have HL_2 := Lib.hid (HL_1.out.grow hgr2)
        have GCH2 := Lib.hid (GCH1.out.trans hgr2)
        clear hg2 hgr2 HP_1 HL_1 GCH1
        rw [HE.out, HNN.out]
        go_wp2_with fail
        refine r5Count_any p l x _ _ _ (by first | exact HP_2.out | exact HP_2.out.grow ((Grow.refl _).alloc _) | exact HP_2.out.grow (((Grow.refl _).alloc _).alloc _) | exact HP_2.out.grow ((((Grow.refl _).alloc _).alloc _).alloc _) | exact HP_2.out.grow (((((Grow.refl _).alloc _).alloc _).alloc _).alloc _) | exact HP_2.out.grow ((Grow.refl _).drewN _)) (by first | exact HL_2.out | exact HL_2.out.grow ((Grow.refl _).alloc _) | exact HL_2.out.grow (((Grow.refl _).alloc _).alloc _) | exact HL_2.out.grow ((((Grow.refl _).alloc _).alloc _).alloc _) | exact HL_2.out.grow (((((Grow.refl _).alloc _).alloc _).alloc _).alloc _) | exact HL_2.out.grow ((Grow.refl _).drewN _)) _ ?_
        intro wz3 hg3 
        have hgr3 : Grow wz2 wz3 := by first | exact hg3 | exact Grow.trans ((Grow.refl _).alloc _) hg3 | exact Grow.trans (((Grow.refl _).alloc _).alloc _) hg3 | exact Grow.trans ((((Grow.refl _).alloc _).alloc _).alloc _) hg3 | exact Grow.trans (((((Grow.refl _).alloc _).alloc _).alloc _).alloc _) hg3 | exact Grow.trans ((Grow.refl _).drewN _) hg3
        have HP_3 := Lib.hid (HP_2.out.grow hgr3)
        have HL_3 := Lib.hid (HL_2.out.grow hgr3)
        have GCH3 := Lib.hid (GCH2.out.trans hgr3)
        clear hg3 hgr3 HP_2 HL_2 GCH2
        rw [HE.out, HNN.out]
        go_wp2_with fail
        refine Places_any p l x _ _ _ (by first | exact HP_3.out | exact HP_3.out.grow ((Grow.refl _).alloc _) | exact HP_3.out.grow (((Grow.refl _).alloc _).alloc _) | exact HP_3.out.grow ((((Grow.refl _).alloc _).alloc _).alloc _) | exact HP_3.out.grow (((((Grow.refl _).alloc _).alloc _).alloc _).alloc _) | exact HP_3.out.grow ((Grow.refl _).drewN _)) (by first | exact HL_3.out | exact HL_3.out.grow ((Grow.refl _).alloc _) | exact HL_3.out.grow (((Grow.refl _).alloc _).alloc _) | exact HL_3.out.grow ((((Grow.refl _).alloc _).alloc _).alloc _) | exact HL_3.out.grow (((((Grow.refl _).alloc _).alloc _).alloc _).alloc _) | exact HL_3.out.grow ((Grow.refl _).drewN _)) _ ?_
        intro wz4 x4_0 hg4 hx4_0
        have hgr4 : Grow wz3 wz4 := by first | exact hg4 | exact Grow.trans ((Grow.refl _).alloc _) hg4 | exact Grow.trans (((Grow.refl _).alloc _).alloc _) hg4 | exact Grow.trans ((((Grow.refl _).alloc _).alloc _).alloc _) hg4 | exact Grow.trans (((((Grow.refl _).alloc _).alloc _).alloc _).alloc _) hg4 | exact Grow.trans ((Grow.refl _).drewN _) hg4
        have HP_4 := Lib.hid (HP_3.out.grow hgr4)
        have HL_4 := Lib.hid (HL_3.out.grow hgr4)
        have GCH4 := Lib.hid (GCH3.out.trans hgr4)
        clear hg4 hgr4 HP_3 HL_3 GCH3
        rw [HAA.out] at hx4_0
        have hyHXA_4 := hx4_0
        have HXA_4 := Lib.hid hyHXA_4
        obtain ⟨aHXA_4, cHXA_4, rfl, qHXA_41, qHXA_42, _⟩ := hyHXA_4
        clear hx4_0
        rw [HE.out]
        go_wp2_with fail
        refine r5Places_any p l x _ _ _ (by first | exact HP_4.out | exact HP_4.out.grow ((Grow.refl _).alloc _) | exact HP_4.out.grow (((Grow.refl _).alloc _).alloc _) | exact HP_4.out.grow ((((Grow.refl _).alloc _).alloc _).alloc _) | exact HP_4.out.grow (((((Grow.refl _).alloc _).alloc _).alloc _).alloc _) | exact HP_4.out.grow ((Grow.refl _).drewN _)) (by first | exact HL_4.out | exact HL_4.out.grow ((Grow.refl _).alloc _) | exact HL_4.out.grow (((Grow.refl _).alloc _).alloc _) | exact HL_4.out.grow ((((Grow.refl _).alloc _).alloc _).alloc _) | exact HL_4.out.grow (((((Grow.refl _).alloc _).alloc _).alloc _).alloc _) | exact HL_4.out.grow ((Grow.refl _).drewN _)) _ ?_
        intro wz5 x5_0 hg5 hx5_0
        have hgr5 : Grow wz4 wz5 := by first | exact hg5 | exact Grow.trans ((Grow.refl _).alloc _) hg5 | exact Grow.trans (((Grow.refl _).alloc _).alloc _) hg5 | exact Grow.trans ((((Grow.refl _).alloc _).alloc _).alloc _) hg5 | exact Grow.trans (((((Grow.refl _).alloc _).alloc _).alloc _).alloc _) hg5 | exact Grow.trans ((Grow.refl _).drewN _) hg5
        have HP_5 := Lib.hid (HP_4.out.grow hgr5)
        have HL_5 := Lib.hid (HL_4.out.grow hgr5)
        have HXA_5 := Lib.hid (HXA_4.out.grow hgr5)
        have GCH5 := Lib.hid (GCH4.out.trans hgr5)
        clear hg5 hgr5 HP_4 HL_4 HXA_4 GCH4
        rw [HAA.out] at hx5_0
        have hyHXB_5 := hx5_0
        have HXB_5 := Lib.hid hyHXB_5
        obtain ⟨aHXB_5, cHXB_5, rfl, qHXB_51, qHXB_52, _⟩ := hyHXB_5
        clear hx5_0
        rw [HE.out]
        go_wp2_with fail
        refine rsameI4_any A A _ _ _ (by first | exact HXA_5.out | exact HXA_5.out.grow ((Grow.refl _).alloc _) | exact HXA_5.out.grow (((Grow.refl _).alloc _).alloc _) | exact HXA_5.out.grow ((((Grow.refl _).alloc _).alloc _).alloc _) | exact HXA_5.out.grow (((((Grow.refl _).alloc _).alloc _).alloc _).alloc _) | exact HXA_5.out.grow ((Grow.refl _).drewN _)) (by first | exact HXB_5.out | exact HXB_5.out.grow ((Grow.refl _).alloc _) | exact HXB_5.out.grow (((Grow.refl _).alloc _).alloc _) | exact HXB_5.out.grow ((((Grow.refl _).alloc _).alloc _).alloc _) | exact HXB_5.out.grow (((((Grow.refl _).alloc _).alloc _).alloc _).alloc _) | exact HXB_5.out.grow ((Grow.refl _).drewN _)) _ ?_
        intro wz6 hg6 
        have hgr6 : Grow wz5 wz6 := by first | exact hg6 | exact Grow.trans ((Grow.refl _).alloc _) hg6 | exact Grow.trans (((Grow.refl _).alloc _).alloc _) hg6 | exact Grow.trans ((((Grow.refl _).alloc _).alloc _).alloc _) hg6 | exact Grow.trans (((((Grow.refl _).alloc _).alloc _).alloc _).alloc _) hg6 | exact Grow.trans ((Grow.refl _).drewN _) hg6
        have HP_6 := Lib.hid (HP_5.out.grow hgr6)
        have HL_6 := Lib.hid (HL_5.out.grow hgr6)
        have HXA_6 := Lib.hid (HXA_5.out.grow hgr6)
        have HXB_6 := Lib.hid (HXB_5.out.grow hgr6)
        have GCH6 := Lib.hid (GCH5.out.trans hgr6)
        clear hg6 hgr6 HP_5 HL_5 HXA_5 HXB_5 GCH5
        rw [show decide (A = A) = true from decide_eq_true rfl]
        go_wp2_with fail
        refine ssame_any _ _ ?_
        intro wz7 hg7 
        have hgr7 : Grow wz6 wz7 := by first | exact hg7 | exact Grow.trans ((Grow.refl _).alloc _) hg7 | exact Grow.trans (((Grow.refl _).alloc _).alloc _) hg7 | exact Grow.trans ((((Grow.refl _).alloc _).alloc _).alloc _) hg7 | exact Grow.trans (((((Grow.refl _).alloc _).alloc _).alloc _).alloc _) hg7 | exact Grow.trans ((Grow.refl _).drewN _) hg7
        have HP_7 := Lib.hid (HP_6.out.grow hgr7)
        have HL_7 := Lib.hid (HL_6.out.grow hgr7)
        have HXA_7 := Lib.hid (HXA_6.out.grow hgr7)
        have HXB_7 := Lib.hid (HXB_6.out.grow hgr7)
        have GCH7 := Lib.hid (GCH6.out.trans hgr7)
        clear hg7 hgr7 HP_6 HL_6 HXA_6 HXB_6 GCH6
        go_wp2_with fail
        first | exact HR.out _ (GCH7.out) | exact HR.out _ (Grow.trans GCH7.out ((Grow.refl _).alloc _)) | exact HR.out _ (Grow.trans GCH7.out (((Grow.refl _).alloc _).alloc _)) | exact HR.out _ (Grow.trans GCH7.out ((((Grow.refl _).alloc _).alloc _).alloc _)) | exact HR.out _ (Grow.trans GCH7.out (((((Grow.refl _).alloc _).alloc _).alloc _).alloc _)) | exact HR.out _ (Grow.trans GCH7.out ((Grow.refl _).drewN _))
      obtain ⟨hle, hiff⟩ := hA8 h0
      subst h0
      clear hA8
      by_cases hN : 0 < N
      · have hA1 := hiff.1 hN
        have t1 : (N : Int) > 0 := by omega
        have t2 : (A.length : Int) > 0 := by omega
        have t4 : (N : Int) ≥ (A.length : Int) := by omega
        clear hiff hle
        go_enter Tryz.func7, Tryz.ntmps7
        go_wp2_with fail
        refine long4_any p _ _ (by first | exact HP_.out | exact HP_.out.grow ((Grow.refl _).alloc _) | exact HP_.out.grow (((Grow.refl _).alloc _).alloc _) | exact HP_.out.grow ((((Grow.refl _).alloc _).alloc _).alloc _) | exact HP_.out.grow (((((Grow.refl _).alloc _).alloc _).alloc _).alloc _) | exact HP_.out.grow ((Grow.refl _).drewN _)) _ ?_
        rw [HD0.out]
        go_wp2_with fail
        refine many_any l _ _ (by first | exact HL_.out | exact HL_.out.grow ((Grow.refl _).alloc _) | exact HL_.out.grow (((Grow.refl _).alloc _).alloc _) | exact HL_.out.grow ((((Grow.refl _).alloc _).alloc _).alloc _) | exact HL_.out.grow (((((Grow.refl _).alloc _).alloc _).alloc _).alloc _) | exact HL_.out.grow ((Grow.refl _).drewN _)) _ ?_
        intro wz1 hg1 
        have hgr1 : Grow w wz1 := by first | exact hg1 | exact Grow.trans ((Grow.refl _).alloc _) hg1 | exact Grow.trans (((Grow.refl _).alloc _).alloc _) hg1 | exact Grow.trans ((((Grow.refl _).alloc _).alloc _).alloc _) hg1 | exact Grow.trans (((((Grow.refl _).alloc _).alloc _).alloc _).alloc _) hg1 | exact Grow.trans ((Grow.refl _).drewN _) hg1
        have HP_1 := Lib.hid (HP_.out.grow hgr1)
        have HL_1 := Lib.hid (HL_.out.grow hgr1)
        have GCH1 := Lib.hid hgr1
        clear hg1 hgr1 HP_ HL_
        rw [HMB.out]
        go_wp2_with fail
        refine Count_any p l x _ _ _ (by first | exact HP_1.out | exact HP_1.out.grow ((Grow.refl _).alloc _) | exact HP_1.out.grow (((Grow.refl _).alloc _).alloc _) | exact HP_1.out.grow ((((Grow.refl _).alloc _).alloc _).alloc _) | exact HP_1.out.grow (((((Grow.refl _).alloc _).alloc _).alloc _).alloc _) | exact HP_1.out.grow ((Grow.refl _).drewN _)) (by first | exact HL_1.out | exact HL_1.out.grow ((Grow.refl _).alloc _) | exact HL_1.out.grow (((Grow.refl _).alloc _).alloc _) | exact HL_1.out.grow ((((Grow.refl _).alloc _).alloc _).alloc _) | exact HL_1.out.grow (((((Grow.refl _).alloc _).alloc _).alloc _).alloc _) | exact HL_1.out.grow ((Grow.refl _).drewN _)) _ ?_
        intro wz2 hg2 
        have hgr2 : Grow wz1 wz2 := by first | exact hg2 | exact Grow.trans ((Grow.refl _).alloc _) hg2 | exact Grow.trans (((Grow.refl _).alloc _).alloc _) hg2 | exact Grow.trans ((((Grow.refl _).alloc _).alloc _).alloc _) hg2 | exact Grow.trans (((((Grow.refl _).alloc _).alloc _).alloc _).alloc _) hg2 | exact Grow.trans ((Grow.refl _).drewN _) hg2
        have HP_2 := Lib.hid (HP_1.out.grow hgr2)
        have HL_2 := Lib.hid (HL_1.out.grow hgr2)
        have GCH2 := Lib.hid (GCH1.out.trans hgr2)
        clear hg2 hgr2 HP_1 HL_1 GCH1
        rw [HE.out, HNN.out]
        go_wp2_with fail
        refine r5Count_any p l x _ _ _ (by first | exact HP_2.out | exact HP_2.out.grow ((Grow.refl _).alloc _) | exact HP_2.out.grow (((Grow.refl _).alloc _).alloc _) | exact HP_2.out.grow ((((Grow.refl _).alloc _).alloc _).alloc _) | exact HP_2.out.grow (((((Grow.refl _).alloc _).alloc _).alloc _).alloc _) | exact HP_2.out.grow ((Grow.refl _).drewN _)) (by first | exact HL_2.out | exact HL_2.out.grow ((Grow.refl _).alloc _) | exact HL_2.out.grow (((Grow.refl _).alloc _).alloc _) | exact HL_2.out.grow ((((Grow.refl _).alloc _).alloc _).alloc _) | exact HL_2.out.grow (((((Grow.refl _).alloc _).alloc _).alloc _).alloc _) | exact HL_2.out.grow ((Grow.refl _).drewN _)) _ ?_
        intro wz3 hg3 
        have hgr3 : Grow wz2 wz3 := by first | exact hg3 | exact Grow.trans ((Grow.refl _).alloc _) hg3 | exact Grow.trans (((Grow.refl _).alloc _).alloc _) hg3 | exact Grow.trans ((((Grow.refl _).alloc _).alloc _).alloc _) hg3 | exact Grow.trans (((((Grow.refl _).alloc _).alloc _).alloc _).alloc _) hg3 | exact Grow.trans ((Grow.refl _).drewN _) hg3
        have HP_3 := Lib.hid (HP_2.out.grow hgr3)
        have HL_3 := Lib.hid (HL_2.out.grow hgr3)
        have GCH3 := Lib.hid (GCH2.out.trans hgr3)
        clear hg3 hgr3 HP_2 HL_2 GCH2
        rw [HE.out, HNN.out]
        go_wp2_with fail
        refine Places_any p l x _ _ _ (by first | exact HP_3.out | exact HP_3.out.grow ((Grow.refl _).alloc _) | exact HP_3.out.grow (((Grow.refl _).alloc _).alloc _) | exact HP_3.out.grow ((((Grow.refl _).alloc _).alloc _).alloc _) | exact HP_3.out.grow (((((Grow.refl _).alloc _).alloc _).alloc _).alloc _) | exact HP_3.out.grow ((Grow.refl _).drewN _)) (by first | exact HL_3.out | exact HL_3.out.grow ((Grow.refl _).alloc _) | exact HL_3.out.grow (((Grow.refl _).alloc _).alloc _) | exact HL_3.out.grow ((((Grow.refl _).alloc _).alloc _).alloc _) | exact HL_3.out.grow (((((Grow.refl _).alloc _).alloc _).alloc _).alloc _) | exact HL_3.out.grow ((Grow.refl _).drewN _)) _ ?_
        intro wz4 x4_0 hg4 hx4_0
        have hgr4 : Grow wz3 wz4 := by first | exact hg4 | exact Grow.trans ((Grow.refl _).alloc _) hg4 | exact Grow.trans (((Grow.refl _).alloc _).alloc _) hg4 | exact Grow.trans ((((Grow.refl _).alloc _).alloc _).alloc _) hg4 | exact Grow.trans (((((Grow.refl _).alloc _).alloc _).alloc _).alloc _) hg4 | exact Grow.trans ((Grow.refl _).drewN _) hg4
        have HP_4 := Lib.hid (HP_3.out.grow hgr4)
        have HL_4 := Lib.hid (HL_3.out.grow hgr4)
        have GCH4 := Lib.hid (GCH3.out.trans hgr4)
        clear hg4 hgr4 HP_3 HL_3 GCH3
        rw [HAA.out] at hx4_0
        have hyHXA_4 := hx4_0
        have HXA_4 := Lib.hid hyHXA_4
        obtain ⟨aHXA_4, cHXA_4, rfl, qHXA_41, qHXA_42, _⟩ := hyHXA_4
        clear hx4_0
        rw [HE.out]
        go_wp2_with fail
        refine r5Places_any p l x _ _ _ (by first | exact HP_4.out | exact HP_4.out.grow ((Grow.refl _).alloc _) | exact HP_4.out.grow (((Grow.refl _).alloc _).alloc _) | exact HP_4.out.grow ((((Grow.refl _).alloc _).alloc _).alloc _) | exact HP_4.out.grow (((((Grow.refl _).alloc _).alloc _).alloc _).alloc _) | exact HP_4.out.grow ((Grow.refl _).drewN _)) (by first | exact HL_4.out | exact HL_4.out.grow ((Grow.refl _).alloc _) | exact HL_4.out.grow (((Grow.refl _).alloc _).alloc _) | exact HL_4.out.grow ((((Grow.refl _).alloc _).alloc _).alloc _) | exact HL_4.out.grow (((((Grow.refl _).alloc _).alloc _).alloc _).alloc _) | exact HL_4.out.grow ((Grow.refl _).drewN _)) _ ?_
        intro wz5 x5_0 hg5 hx5_0
        have hgr5 : Grow wz4 wz5 := by first | exact hg5 | exact Grow.trans ((Grow.refl _).alloc _) hg5 | exact Grow.trans (((Grow.refl _).alloc _).alloc _) hg5 | exact Grow.trans ((((Grow.refl _).alloc _).alloc _).alloc _) hg5 | exact Grow.trans (((((Grow.refl _).alloc _).alloc _).alloc _).alloc _) hg5 | exact Grow.trans ((Grow.refl _).drewN _) hg5
        have HP_5 := Lib.hid (HP_4.out.grow hgr5)
        have HL_5 := Lib.hid (HL_4.out.grow hgr5)
        have HXA_5 := Lib.hid (HXA_4.out.grow hgr5)
        have GCH5 := Lib.hid (GCH4.out.trans hgr5)
        clear hg5 hgr5 HP_4 HL_4 HXA_4 GCH4
        rw [HAA.out] at hx5_0
        have hyHXB_5 := hx5_0
        have HXB_5 := Lib.hid hyHXB_5
        obtain ⟨aHXB_5, cHXB_5, rfl, qHXB_51, qHXB_52, _⟩ := hyHXB_5
        clear hx5_0
        rw [HE.out]
        go_wp2_with fail
        refine rsameI4_any A A _ _ _ (by first | exact HXA_5.out | exact HXA_5.out.grow ((Grow.refl _).alloc _) | exact HXA_5.out.grow (((Grow.refl _).alloc _).alloc _) | exact HXA_5.out.grow ((((Grow.refl _).alloc _).alloc _).alloc _) | exact HXA_5.out.grow (((((Grow.refl _).alloc _).alloc _).alloc _).alloc _) | exact HXA_5.out.grow ((Grow.refl _).drewN _)) (by first | exact HXB_5.out | exact HXB_5.out.grow ((Grow.refl _).alloc _) | exact HXB_5.out.grow (((Grow.refl _).alloc _).alloc _) | exact HXB_5.out.grow ((((Grow.refl _).alloc _).alloc _).alloc _) | exact HXB_5.out.grow (((((Grow.refl _).alloc _).alloc _).alloc _).alloc _) | exact HXB_5.out.grow ((Grow.refl _).drewN _)) _ ?_
        intro wz6 hg6 
        have hgr6 : Grow wz5 wz6 := by first | exact hg6 | exact Grow.trans ((Grow.refl _).alloc _) hg6 | exact Grow.trans (((Grow.refl _).alloc _).alloc _) hg6 | exact Grow.trans ((((Grow.refl _).alloc _).alloc _).alloc _) hg6 | exact Grow.trans (((((Grow.refl _).alloc _).alloc _).alloc _).alloc _) hg6 | exact Grow.trans ((Grow.refl _).drewN _) hg6
        have HP_6 := Lib.hid (HP_5.out.grow hgr6)
        have HL_6 := Lib.hid (HL_5.out.grow hgr6)
        have HXA_6 := Lib.hid (HXA_5.out.grow hgr6)
        have HXB_6 := Lib.hid (HXB_5.out.grow hgr6)
        have GCH6 := Lib.hid (GCH5.out.trans hgr6)
        clear hg6 hgr6 HP_5 HL_5 HXA_5 HXB_5 GCH5
        rw [show decide (A = A) = true from decide_eq_true rfl]
        go_wp2_with fail
        refine ssame_any _ _ ?_
        intro wz7 hg7 
        have hgr7 : Grow wz6 wz7 := by first | exact hg7 | exact Grow.trans ((Grow.refl _).alloc _) hg7 | exact Grow.trans (((Grow.refl _).alloc _).alloc _) hg7 | exact Grow.trans ((((Grow.refl _).alloc _).alloc _).alloc _) hg7 | exact Grow.trans (((((Grow.refl _).alloc _).alloc _).alloc _).alloc _) hg7 | exact Grow.trans ((Grow.refl _).drewN _) hg7
        have HP_7 := Lib.hid (HP_6.out.grow hgr7)
        have HL_7 := Lib.hid (HL_6.out.grow hgr7)
        have HXA_7 := Lib.hid (HXA_6.out.grow hgr7)
        have HXB_7 := Lib.hid (HXB_6.out.grow hgr7)
        have GCH7 := Lib.hid (GCH6.out.trans hgr7)
        clear hg7 hgr7 HP_6 HL_6 HXA_6 HXB_6 GCH6
        go_wp2_with fail
        first | exact HR.out _ (GCH7.out) | exact HR.out _ (Grow.trans GCH7.out ((Grow.refl _).alloc _)) | exact HR.out _ (Grow.trans GCH7.out (((Grow.refl _).alloc _).alloc _)) | exact HR.out _ (Grow.trans GCH7.out ((((Grow.refl _).alloc _).alloc _).alloc _)) | exact HR.out _ (Grow.trans GCH7.out (((((Grow.refl _).alloc _).alloc _).alloc _).alloc _)) | exact HR.out _ (Grow.trans GCH7.out ((Grow.refl _).drewN _))
      · have hA1 : ¬ 0 < A.length := fun h => hN (hiff.2 h)
        have t1 : ¬ (N : Int) > 0 := by omega
        have t2 : ¬ (A.length : Int) > 0 := by omega
        have t4 : (N : Int) ≥ (A.length : Int) := by omega
        clear hiff hle
        go_enter Tryz.func7, Tryz.ntmps7
        go_wp2_with fail
        refine long4_any p _ _ (by first | exact HP_.out | exact HP_.out.grow ((Grow.refl _).alloc _) | exact HP_.out.grow (((Grow.refl _).alloc _).alloc _) | exact HP_.out.grow ((((Grow.refl _).alloc _).alloc _).alloc _) | exact HP_.out.grow (((((Grow.refl _).alloc _).alloc _).alloc _).alloc _) | exact HP_.out.grow ((Grow.refl _).drewN _)) _ ?_
        rw [HD0.out]
        go_wp2_with fail
        refine many_any l _ _ (by first | exact HL_.out | exact HL_.out.grow ((Grow.refl _).alloc _) | exact HL_.out.grow (((Grow.refl _).alloc _).alloc _) | exact HL_.out.grow ((((Grow.refl _).alloc _).alloc _).alloc _) | exact HL_.out.grow (((((Grow.refl _).alloc _).alloc _).alloc _).alloc _) | exact HL_.out.grow ((Grow.refl _).drewN _)) _ ?_
        intro wz1 hg1 
        have hgr1 : Grow w wz1 := by first | exact hg1 | exact Grow.trans ((Grow.refl _).alloc _) hg1 | exact Grow.trans (((Grow.refl _).alloc _).alloc _) hg1 | exact Grow.trans ((((Grow.refl _).alloc _).alloc _).alloc _) hg1 | exact Grow.trans (((((Grow.refl _).alloc _).alloc _).alloc _).alloc _) hg1 | exact Grow.trans ((Grow.refl _).drewN _) hg1
        have HP_1 := Lib.hid (HP_.out.grow hgr1)
        have HL_1 := Lib.hid (HL_.out.grow hgr1)
        have GCH1 := Lib.hid hgr1
        clear hg1 hgr1 HP_ HL_
        rw [HMB.out]
        go_wp2_with fail
        refine Count_any p l x _ _ _ (by first | exact HP_1.out | exact HP_1.out.grow ((Grow.refl _).alloc _) | exact HP_1.out.grow (((Grow.refl _).alloc _).alloc _) | exact HP_1.out.grow ((((Grow.refl _).alloc _).alloc _).alloc _) | exact HP_1.out.grow (((((Grow.refl _).alloc _).alloc _).alloc _).alloc _) | exact HP_1.out.grow ((Grow.refl _).drewN _)) (by first | exact HL_1.out | exact HL_1.out.grow ((Grow.refl _).alloc _) | exact HL_1.out.grow (((Grow.refl _).alloc _).alloc _) | exact HL_1.out.grow ((((Grow.refl _).alloc _).alloc _).alloc _) | exact HL_1.out.grow (((((Grow.refl _).alloc _).alloc _).alloc _).alloc _) | exact HL_1.out.grow ((Grow.refl _).drewN _)) _ ?_
        intro wz2 hg2 
        have hgr2 : Grow wz1 wz2 := by first | exact hg2 | exact Grow.trans ((Grow.refl _).alloc _) hg2 | exact Grow.trans (((Grow.refl _).alloc _).alloc _) hg2 | exact Grow.trans ((((Grow.refl _).alloc _).alloc _).alloc _) hg2 | exact Grow.trans (((((Grow.refl _).alloc _).alloc _).alloc _).alloc _) hg2 | exact Grow.trans ((Grow.refl _).drewN _) hg2
        have HP_2 := Lib.hid (HP_1.out.grow hgr2)
        have HL_2 := Lib.hid (HL_1.out.grow hgr2)
        have GCH2 := Lib.hid (GCH1.out.trans hgr2)
        clear hg2 hgr2 HP_1 HL_1 GCH1
        rw [HE.out, HNN.out]
        go_wp2_with fail
        refine r5Count_any p l x _ _ _ (by first | exact HP_2.out | exact HP_2.out.grow ((Grow.refl _).alloc _) | exact HP_2.out.grow (((Grow.refl _).alloc _).alloc _) | exact HP_2.out.grow ((((Grow.refl _).alloc _).alloc _).alloc _) | exact HP_2.out.grow (((((Grow.refl _).alloc _).alloc _).alloc _).alloc _) | exact HP_2.out.grow ((Grow.refl _).drewN _)) (by first | exact HL_2.out | exact HL_2.out.grow ((Grow.refl _).alloc _) | exact HL_2.out.grow (((Grow.refl _).alloc _).alloc _) | exact HL_2.out.grow ((((Grow.refl _).alloc _).alloc _).alloc _) | exact HL_2.out.grow (((((Grow.refl _).alloc _).alloc _).alloc _).alloc _) | exact HL_2.out.grow ((Grow.refl _).drewN _)) _ ?_
        intro wz3 hg3 
        have hgr3 : Grow wz2 wz3 := by first | exact hg3 | exact Grow.trans ((Grow.refl _).alloc _) hg3 | exact Grow.trans (((Grow.refl _).alloc _).alloc _) hg3 | exact Grow.trans ((((Grow.refl _).alloc _).alloc _).alloc _) hg3 | exact Grow.trans (((((Grow.refl _).alloc _).alloc _).alloc _).alloc _) hg3 | exact Grow.trans ((Grow.refl _).drewN _) hg3
        have HP_3 := Lib.hid (HP_2.out.grow hgr3)
        have HL_3 := Lib.hid (HL_2.out.grow hgr3)
        have GCH3 := Lib.hid (GCH2.out.trans hgr3)
        clear hg3 hgr3 HP_2 HL_2 GCH2
        rw [HE.out, HNN.out]
        go_wp2_with fail
        refine Places_any p l x _ _ _ (by first | exact HP_3.out | exact HP_3.out.grow ((Grow.refl _).alloc _) | exact HP_3.out.grow (((Grow.refl _).alloc _).alloc _) | exact HP_3.out.grow ((((Grow.refl _).alloc _).alloc _).alloc _) | exact HP_3.out.grow (((((Grow.refl _).alloc _).alloc _).alloc _).alloc _) | exact HP_3.out.grow ((Grow.refl _).drewN _)) (by first | exact HL_3.out | exact HL_3.out.grow ((Grow.refl _).alloc _) | exact HL_3.out.grow (((Grow.refl _).alloc _).alloc _) | exact HL_3.out.grow ((((Grow.refl _).alloc _).alloc _).alloc _) | exact HL_3.out.grow (((((Grow.refl _).alloc _).alloc _).alloc _).alloc _) | exact HL_3.out.grow ((Grow.refl _).drewN _)) _ ?_
        intro wz4 x4_0 hg4 hx4_0
        have hgr4 : Grow wz3 wz4 := by first | exact hg4 | exact Grow.trans ((Grow.refl _).alloc _) hg4 | exact Grow.trans (((Grow.refl _).alloc _).alloc _) hg4 | exact Grow.trans ((((Grow.refl _).alloc _).alloc _).alloc _) hg4 | exact Grow.trans (((((Grow.refl _).alloc _).alloc _).alloc _).alloc _) hg4 | exact Grow.trans ((Grow.refl _).drewN _) hg4
        have HP_4 := Lib.hid (HP_3.out.grow hgr4)
        have HL_4 := Lib.hid (HL_3.out.grow hgr4)
        have GCH4 := Lib.hid (GCH3.out.trans hgr4)
        clear hg4 hgr4 HP_3 HL_3 GCH3
        rw [HAA.out] at hx4_0
        have hyHXA_4 := hx4_0
        have HXA_4 := Lib.hid hyHXA_4
        obtain ⟨aHXA_4, cHXA_4, rfl, qHXA_41, qHXA_42, _⟩ := hyHXA_4
        clear hx4_0
        rw [HE.out]
        go_wp2_with fail
        refine r5Places_any p l x _ _ _ (by first | exact HP_4.out | exact HP_4.out.grow ((Grow.refl _).alloc _) | exact HP_4.out.grow (((Grow.refl _).alloc _).alloc _) | exact HP_4.out.grow ((((Grow.refl _).alloc _).alloc _).alloc _) | exact HP_4.out.grow (((((Grow.refl _).alloc _).alloc _).alloc _).alloc _) | exact HP_4.out.grow ((Grow.refl _).drewN _)) (by first | exact HL_4.out | exact HL_4.out.grow ((Grow.refl _).alloc _) | exact HL_4.out.grow (((Grow.refl _).alloc _).alloc _) | exact HL_4.out.grow ((((Grow.refl _).alloc _).alloc _).alloc _) | exact HL_4.out.grow (((((Grow.refl _).alloc _).alloc _).alloc _).alloc _) | exact HL_4.out.grow ((Grow.refl _).drewN _)) _ ?_
        intro wz5 x5_0 hg5 hx5_0
        have hgr5 : Grow wz4 wz5 := by first | exact hg5 | exact Grow.trans ((Grow.refl _).alloc _) hg5 | exact Grow.trans (((Grow.refl _).alloc _).alloc _) hg5 | exact Grow.trans ((((Grow.refl _).alloc _).alloc _).alloc _) hg5 | exact Grow.trans (((((Grow.refl _).alloc _).alloc _).alloc _).alloc _) hg5 | exact Grow.trans ((Grow.refl _).drewN _) hg5
        have HP_5 := Lib.hid (HP_4.out.grow hgr5)
        have HL_5 := Lib.hid (HL_4.out.grow hgr5)
        have HXA_5 := Lib.hid (HXA_4.out.grow hgr5)
        have GCH5 := Lib.hid (GCH4.out.trans hgr5)
        clear hg5 hgr5 HP_4 HL_4 HXA_4 GCH4
        rw [HAA.out] at hx5_0
        have hyHXB_5 := hx5_0
        have HXB_5 := Lib.hid hyHXB_5
        obtain ⟨aHXB_5, cHXB_5, rfl, qHXB_51, qHXB_52, _⟩ := hyHXB_5
        clear hx5_0
        rw [HE.out]
        go_wp2_with fail
        refine rsameI4_any A A _ _ _ (by first | exact HXA_5.out | exact HXA_5.out.grow ((Grow.refl _).alloc _) | exact HXA_5.out.grow (((Grow.refl _).alloc _).alloc _) | exact HXA_5.out.grow ((((Grow.refl _).alloc _).alloc _).alloc _) | exact HXA_5.out.grow (((((Grow.refl _).alloc _).alloc _).alloc _).alloc _) | exact HXA_5.out.grow ((Grow.refl _).drewN _)) (by first | exact HXB_5.out | exact HXB_5.out.grow ((Grow.refl _).alloc _) | exact HXB_5.out.grow (((Grow.refl _).alloc _).alloc _) | exact HXB_5.out.grow ((((Grow.refl _).alloc _).alloc _).alloc _) | exact HXB_5.out.grow (((((Grow.refl _).alloc _).alloc _).alloc _).alloc _) | exact HXB_5.out.grow ((Grow.refl _).drewN _)) _ ?_
        intro wz6 hg6 
        have hgr6 : Grow wz5 wz6 := by first | exact hg6 | exact Grow.trans ((Grow.refl _).alloc _) hg6 | exact Grow.trans (((Grow.refl _).alloc _).alloc _) hg6 | exact Grow.trans ((((Grow.refl _).alloc _).alloc _).alloc _) hg6 | exact Grow.trans (((((Grow.refl _).alloc _).alloc _).alloc _).alloc _) hg6 | exact Grow.trans ((Grow.refl _).drewN _) hg6
        have HP_6 := Lib.hid (HP_5.out.grow hgr6)
        have HL_6 := Lib.hid (HL_5.out.grow hgr6)
        have HXA_6 := Lib.hid (HXA_5.out.grow hgr6)
        have HXB_6 := Lib.hid (HXB_5.out.grow hgr6)
        have GCH6 := Lib.hid (GCH5.out.trans hgr6)
        clear hg6 hgr6 HP_5 HL_5 HXA_5 HXB_5 GCH5
        rw [show decide (A = A) = true from decide_eq_true rfl]
        go_wp2_with fail
        refine ssame_any _ _ ?_
        intro wz7 hg7 
        have hgr7 : Grow wz6 wz7 := by first | exact hg7 | exact Grow.trans ((Grow.refl _).alloc _) hg7 | exact Grow.trans (((Grow.refl _).alloc _).alloc _) hg7 | exact Grow.trans ((((Grow.refl _).alloc _).alloc _).alloc _) hg7 | exact Grow.trans (((((Grow.refl _).alloc _).alloc _).alloc _).alloc _) hg7 | exact Grow.trans ((Grow.refl _).drewN _) hg7
        have HP_7 := Lib.hid (HP_6.out.grow hgr7)
        have HL_7 := Lib.hid (HL_6.out.grow hgr7)
        have HXA_7 := Lib.hid (HXA_6.out.grow hgr7)
        have HXB_7 := Lib.hid (HXB_6.out.grow hgr7)
        have GCH7 := Lib.hid (GCH6.out.trans hgr7)
        clear hg7 hgr7 HP_6 HL_6 HXA_6 HXB_6 GCH6
        go_wp2_with fail
        first | exact HR.out _ (GCH7.out) | exact HR.out _ (Grow.trans GCH7.out ((Grow.refl _).alloc _)) | exact HR.out _ (Grow.trans GCH7.out (((Grow.refl _).alloc _).alloc _)) | exact HR.out _ (Grow.trans GCH7.out ((((Grow.refl _).alloc _).alloc _).alloc _)) | exact HR.out _ (Grow.trans GCH7.out (((((Grow.refl _).alloc _).alloc _).alloc _).alloc _)) | exact HR.out _ (Grow.trans GCH7.out ((Grow.refl _).drewN _))
end Go.Proofs.YtbccbokjecdaaaaGreat

namespace Go.Proofs.YtbccbokjecdaaaaGreat
open Go.ChangeShapes Go.WideShapes Go.ChangeAt Go.RowKit

theorem Tryz.own : ownKnob Tryz.prog.godebug = none := by kernel_rfl
theorem Tryz.laidOut : laidOutB Tryz.prog = true := by kernel_rfl

set_option maxRecDepth 100000 in
set_option maxHeartbeats 4000000 in
theorem seekCounts_lifted (os : Os) (started : os.Started) (H : Type) (enc : TypeId × Value → H) :
    ReturnsInHanded {} Tryz.checked os 7 .any (Rows.seekCountsSpec.pre6 enc Tryz.prog Tryz.f7 Rows.seekCountsRow.domain false) (Rows.seekCountsSpec.post enc Tryz.prog Tryz.f7 false true false false) := by
  refine returnsInHanded_of_change (C := Tryz.checked) Tryz.own started (by kernel_rfl) Tryz.func7
    (ChangeSpec.witness6 (enc := enc) (C := Tryz.checked) false ⟨#[], #[.slice none 0 0, .slice none 0 0, .int .i64 0], []⟩ 8 (by kernel_rfl) (by kernel_rfl) (by kernel_rfl) (by kernel_rfl)) ?_
  intro W base args ds gs before hval0 hW hcnd _
  have hval : ∀ (j : Nat) t v, Tryz.f7.params[j]? = some t → args[j]? = some v → Value.okWide Tryz.prog W .any base t v := hval0
  have hW' := hW
  obtain ⟨p, q, hA0, hV, rfl, hfz, hnd⟩ := hW
  have hA : DataW.TrodAll enc Tryz.prog W 0 (fun _ => true) true Tryz.f7.params.toList args.toList ds p := hA0
  rw [Tryz.params7] at hA hval
  obtain ⟨v0, v1, v2, d0, d1, d2, p0, p1, p2, rfl, rfl, rfl, h0, h1, h2⟩ := trodAll_three hA
  obtain ⟨rfl, rfl⟩ := trodVars_none hV
  have hk0 := h0
  have hk1 := h1
  have hk2 := h2
  obtain ⟨x0, hx0⟩ := arg_lines (hval 0 22 v0 rfl rfl) h0
  obtain ⟨x1, hx1⟩ := arg_tests (hval 1 23 v1 rfl rfl) h1
  obtain ⟨x2, rfl, _, _, wx2⟩ := open_int Tryz.underlying3 (hval 2 3 v2 rfl rfl) h2
  clear hA0 hval0
  refine Calls.mono (seekCounts_any x0 x1 x2 W v0 v1 hx0 hx1 (fun e W' => e = .returned (.bool true) ∧ Grow W W') (fun W' hg => ⟨rfl, hg⟩)) fun e W' ⟨he, hB⟩ => ?_
  subst he
  have hlt0 : ∀ x ∈ p0, x.block < W.heap.size := fun x hx => hW'.lt x (List.mem_append_left _ (List.mem_append_left _ (List.mem_append_left _ (hx))))
  have ht0 := Below.trod Tryz.laidOut (by kernel_rfl) (of_decide_eq_true (by kernel_rfl)) hk0 hB hlt0
  have hlt1 : ∀ x ∈ p1, x.block < W.heap.size := fun x hx => hW'.lt x (List.mem_append_left _ (List.mem_append_left _ (List.mem_append_right _ hx)))
  have ht1 := Below.trod Tryz.laidOut (by kernel_rfl) (of_decide_eq_true (by kernel_rfl)) hk1 hB hlt1
  have hlt2 : ∀ x ∈ p2, x.block < W.heap.size := fun x hx => hW'.lt x (List.mem_append_left _ (List.mem_append_right _ hx))
  have ht2 := Below.trod Tryz.laidOut (by kernel_rfl) (of_decide_eq_true (by kernel_rfl)) hk2 hB hlt2
  exact ⟨_, rfl, _, _, _, [], _, [], hW', trodAll_mk1 (shut_bool Tryz.underlying4 true), trodAll_mk3 ht0 ht1 ht2, rfl, hB.frame _, fun h => by cases h⟩

theorem seekCounts_holds : Rows.SeekCountsSaid :=
  OpenClaim.holds_of_wide 7 Tryz.f7 rfl rfl rfl rfl rfl rfl rfl ⟨rfl, rfl, rfl, rfl, rfl⟩ rfl rfl rfl rfl rfl (by kernel_rfl) Tryz.func7 (by kernel_rfl)
    (of_decide_eq_true (by kernel_rfl)) (by unfold Func.isWrapper; first | (rw [if_pos (by decide +kernel)]; kernel_rfl) | (rw [if_neg (by decide +kernel)]; exact ⟨rfl, rfl⟩))
    (fun os started H enc _ => seekCounts_lifted os started H enc)

end Go.Proofs.YtbccbokjecdaaaaGreat
