/-
The statement BlameApart: the smallest sets that hit a family are what the document says, for all lists, and the first one does hit. No condition.
-/
import Derived.Test.YtmlbgfnddgbpbaaGreatD19
import Derived.Test.YtmlbgfnddgbpbaaGreatD37
import Derived.Test.YtmlbgfnddgbpbaaGreatD18
import Derived.Test.YtmlbgfnddgbpbaaGreatD14
import Derived.ProofKit
import Derived.Lib.SmallJoins
import Derived.Test.YtmlbgfnddgbpbaaGreatD23
namespace Go.Proofs.YtmlbgfnddgbpbaaGreat
open Go.RowKit
open Mk Bm

theorem apart_fs {f : List (List Int)} (h : fsB f = true) : (apE f).length ≤ (fsO f).length := by
  unfold fsB at h
  rw [Bool.and_eq_true, decide_eq_true_eq, decide_eq_true_eq] at h
  unfold apE fsO
  rw [h.1, ifOK_ok, ifOK_ok, nI_len]
  exact apart_le (mn_all (fun e => by rw [e] at h; cases h.2)).1
set_option maxRecDepth 100000 in
set_option maxHeartbeats 8000000 in
theorem blameApart_any (f : List (List Int)) (w : World) (vf : Value) (hf : FamAt w vf f) (R : Ending → World → Prop) (hR : ∀ w', Grow w w' → R (.returned (.bool true)) w') :
    Calls Tryz.prog 13 #[vf] w R := by
  have HR := Lib.hid hR
  have HF_ := Lib.hid hf
  obtain ⟨adf, cpf, rfl, qf1, qf2⟩ := FamAt.out hf
  clear hR
  obtain ⟨gq0, hgq0⟩ : ∃ z, longF f = z := ⟨_, rfl⟩
  have HGD0 := Lib.hid hgq0
  clear hgq0
  cases gq0 with
  | true =>
    go_enter Tryz.func13, Tryz.ntmps13
    go_wp2_with fail
    refine longF_any f _ _ (by first | exact HF_.out | exact HF_.out.grow ((Grow.refl _).alloc _) | exact HF_.out.grow (((Grow.refl _).alloc _).alloc _) | exact HF_.out.grow ((((Grow.refl _).alloc _).alloc _).alloc _) | exact HF_.out.grow (((((Grow.refl _).alloc _).alloc _).alloc _).alloc _) | exact HF_.out.grow ((Grow.refl _).drewN _)) _ ?_
    intro wz1 hg1 
    have hgr1 : Grow w wz1 := by first | exact hg1 | exact Grow.trans ((Grow.refl _).alloc _) hg1 | exact Grow.trans (((Grow.refl _).alloc _).alloc _) hg1 | exact Grow.trans ((((Grow.refl _).alloc _).alloc _).alloc _) hg1 | exact Grow.trans (((((Grow.refl _).alloc _).alloc _).alloc _).alloc _) hg1 | exact Grow.trans ((Grow.refl _).drewN _) hg1
    have HF_1 := Lib.hid (HF_.out.grow hgr1)
    have GCH1 := Lib.hid hgr1
    clear hg1 hgr1 HF_
    rw [HGD0.out]
    go_wp2_with fail
    refine known3_any _ _ ?_
    intro wz2 hg2 
    have hgr2 : Grow wz1 wz2 := by first | exact hg2 | exact Grow.trans ((Grow.refl _).alloc _) hg2 | exact Grow.trans (((Grow.refl _).alloc _).alloc _) hg2 | exact Grow.trans ((((Grow.refl _).alloc _).alloc _).alloc _) hg2 | exact Grow.trans (((((Grow.refl _).alloc _).alloc _).alloc _).alloc _) hg2 | exact Grow.trans ((Grow.refl _).drewN _) hg2
    have HF_2 := Lib.hid (HF_1.out.grow hgr2)
    have GCH2 := Lib.hid (GCH1.out.trans hgr2)
    clear hg2 hgr2 HF_1 GCH1
    go_wp2_with fail
    first | exact HR.out _ (GCH2.out) | exact HR.out _ (Grow.trans GCH2.out ((Grow.refl _).alloc _)) | exact HR.out _ (Grow.trans GCH2.out (((Grow.refl _).alloc _).alloc _)) | exact HR.out _ (Grow.trans GCH2.out ((((Grow.refl _).alloc _).alloc _).alloc _)) | exact HR.out _ (Grow.trans GCH2.out (((((Grow.refl _).alloc _).alloc _).alloc _).alloc _)) | exact HR.out _ (Grow.trans GCH2.out ((Grow.refl _).drewN _))
  | false =>
    have hle := apart_fs (f := f)
    obtain ⟨e, he⟩ : ∃ z, valF f = z := ⟨_, rfl⟩
    have HE := Lib.hid he
    obtain ⟨A, hA⟩ : ∃ z, apE f = z := ⟨_, rfl⟩
    have HA := Lib.hid hA
    obtain ⟨X, hX⟩ : ∃ z, fsO f = z := ⟨_, rfl⟩
    have HX := Lib.hid hX
    obtain ⟨q, hq⟩ : ∃ z, fsB f = z := ⟨_, rfl⟩
    have HQ := Lib.hid hq
    rw [hA, hX, hq] at hle
    clear he hA hX hq
    have t2 : (e != e) = false := by simp
    by_cases h0 : e = 0
    rotate_left
    · have t1 : (e != 0) = true := by simpa using h0
      clear h0 hle
      go_enter Tryz.func13, Tryz.ntmps13
      go_wp2_with fail
      refine longF_any f _ _ (by first | exact HF_.out | exact HF_.out.grow ((Grow.refl _).alloc _) | exact HF_.out.grow (((Grow.refl _).alloc _).alloc _) | exact HF_.out.grow ((((Grow.refl _).alloc _).alloc _).alloc _) | exact HF_.out.grow (((((Grow.refl _).alloc _).alloc _).alloc _).alloc _) | exact HF_.out.grow ((Grow.refl _).drewN _)) _ ?_
      intro wz1 hg1 
      have hgr1 : Grow w wz1 := by first | exact hg1 | exact Grow.trans ((Grow.refl _).alloc _) hg1 | exact Grow.trans (((Grow.refl _).alloc _).alloc _) hg1 | exact Grow.trans ((((Grow.refl _).alloc _).alloc _).alloc _) hg1 | exact Grow.trans (((((Grow.refl _).alloc _).alloc _).alloc _).alloc _) hg1 | exact Grow.trans ((Grow.refl _).drewN _) hg1
      have HF_1 := Lib.hid (HF_.out.grow hgr1)
      have GCH1 := Lib.hid hgr1
      clear hg1 hgr1 HF_
      rw [HGD0.out]
      go_wp2_with fail
      refine Apart_any f _ _ (by first | exact HF_1.out | exact HF_1.out.grow ((Grow.refl _).alloc _) | exact HF_1.out.grow (((Grow.refl _).alloc _).alloc _) | exact HF_1.out.grow ((((Grow.refl _).alloc _).alloc _).alloc _) | exact HF_1.out.grow (((((Grow.refl _).alloc _).alloc _).alloc _).alloc _) | exact HF_1.out.grow ((Grow.refl _).drewN _)) _ ?_
      intro wz2 x2_0 hg2 hx2_0
      have hgr2 : Grow wz1 wz2 := by first | exact hg2 | exact Grow.trans ((Grow.refl _).alloc _) hg2 | exact Grow.trans (((Grow.refl _).alloc _).alloc _) hg2 | exact Grow.trans ((((Grow.refl _).alloc _).alloc _).alloc _) hg2 | exact Grow.trans (((((Grow.refl _).alloc _).alloc _).alloc _).alloc _) hg2 | exact Grow.trans ((Grow.refl _).drewN _) hg2
      have HF_2 := Lib.hid (HF_1.out.grow hgr2)
      have GCH2 := Lib.hid (GCH1.out.trans hgr2)
      clear hg2 hgr2 HF_1 GCH1
      rw [HA.out] at hx2_0
      have hyHXA_2 := hx2_0.slc encI_len
      have HXA_2 := Lib.hid hyHXA_2
      obtain ⟨aHXA_2, cHXA_2, rfl, qHXA_21, qHXA_22, _⟩ := hyHXA_2
      clear hx2_0
      rw [HE.out]
      go_wp2_with fail
      refine r3Apart_any f _ _ (by first | exact HF_2.out | exact HF_2.out.grow ((Grow.refl _).alloc _) | exact HF_2.out.grow (((Grow.refl _).alloc _).alloc _) | exact HF_2.out.grow ((((Grow.refl _).alloc _).alloc _).alloc _) | exact HF_2.out.grow (((((Grow.refl _).alloc _).alloc _).alloc _).alloc _) | exact HF_2.out.grow ((Grow.refl _).drewN _)) _ ?_
      intro wz3 x3_0 hg3 hx3_0
      have hgr3 : Grow wz2 wz3 := by first | exact hg3 | exact Grow.trans ((Grow.refl _).alloc _) hg3 | exact Grow.trans (((Grow.refl _).alloc _).alloc _) hg3 | exact Grow.trans ((((Grow.refl _).alloc _).alloc _).alloc _) hg3 | exact Grow.trans (((((Grow.refl _).alloc _).alloc _).alloc _).alloc _) hg3 | exact Grow.trans ((Grow.refl _).drewN _) hg3
      have HF_3 := Lib.hid (HF_2.out.grow hgr3)
      have HXA_3 := Lib.hid (HXA_2.out.grow hgr3)
      have GCH3 := Lib.hid (GCH2.out.trans hgr3)
      clear hg3 hgr3 HF_2 HXA_2 GCH2
      rw [HA.out] at hx3_0
      have hyHXB_3 := hx3_0
      have HXB_3 := Lib.hid hyHXB_3
      obtain ⟨aHXB_3, cHXB_3, rfl, qHXB_31, qHXB_32, _⟩ := hyHXB_3
      clear hx3_0
      rw [HE.out]
      go_wp2_with fail
      refine sameInts_any A A _ _ _ (by first | exact HXA_3.out | exact HXA_3.out.grow ((Grow.refl _).alloc _) | exact HXA_3.out.grow (((Grow.refl _).alloc _).alloc _) | exact HXA_3.out.grow ((((Grow.refl _).alloc _).alloc _).alloc _) | exact HXA_3.out.grow (((((Grow.refl _).alloc _).alloc _).alloc _).alloc _) | exact HXA_3.out.grow ((Grow.refl _).drewN _)) (by first | exact HXB_3.out | exact HXB_3.out.grow ((Grow.refl _).alloc _) | exact HXB_3.out.grow (((Grow.refl _).alloc _).alloc _) | exact HXB_3.out.grow ((((Grow.refl _).alloc _).alloc _).alloc _) | exact HXB_3.out.grow (((((Grow.refl _).alloc _).alloc _).alloc _).alloc _) | exact HXB_3.out.grow ((Grow.refl _).drewN _)) _ ?_
      intro wz4 hg4 
      have hgr4 : Grow wz3 wz4 := by first | exact hg4 | exact Grow.trans ((Grow.refl _).alloc _) hg4 | exact Grow.trans (((Grow.refl _).alloc _).alloc _) hg4 | exact Grow.trans ((((Grow.refl _).alloc _).alloc _).alloc _) hg4 | exact Grow.trans (((((Grow.refl _).alloc _).alloc _).alloc _).alloc _) hg4 | exact Grow.trans ((Grow.refl _).drewN _) hg4
      have HF_4 := Lib.hid (HF_3.out.grow hgr4)
      have HXA_4 := Lib.hid (HXA_3.out.grow hgr4)
      have HXB_4 := Lib.hid (HXB_3.out.grow hgr4)
      have GCH4 := Lib.hid (GCH3.out.trans hgr4)
      clear hg4 hgr4 HF_3 HXA_3 HXB_3 GCH3
      rw [show decide (A = A) = true from decide_eq_true rfl]
      go_wp2_with fail
      refine Smallest_any f _ _ (by first | exact HF_4.out | exact HF_4.out.grow ((Grow.refl _).alloc _) | exact HF_4.out.grow (((Grow.refl _).alloc _).alloc _) | exact HF_4.out.grow ((((Grow.refl _).alloc _).alloc _).alloc _) | exact HF_4.out.grow (((((Grow.refl _).alloc _).alloc _).alloc _).alloc _) | exact HF_4.out.grow ((Grow.refl _).drewN _)) _ ?_
      intro wz5 hg5 
      have hgr5 : Grow wz4 wz5 := by first | exact hg5 | exact Grow.trans ((Grow.refl _).alloc _) hg5 | exact Grow.trans (((Grow.refl _).alloc _).alloc _) hg5 | exact Grow.trans ((((Grow.refl _).alloc _).alloc _).alloc _) hg5 | exact Grow.trans (((((Grow.refl _).alloc _).alloc _).alloc _).alloc _) hg5 | exact Grow.trans ((Grow.refl _).drewN _) hg5
      have HF_5 := Lib.hid (HF_4.out.grow hgr5)
      have HXA_5 := Lib.hid (HXA_4.out.grow hgr5)
      have HXB_5 := Lib.hid (HXB_4.out.grow hgr5)
      have GCH5 := Lib.hid (GCH4.out.trans hgr5)
      clear hg5 hgr5 HF_4 HXA_4 HXB_4 GCH4
      rw [HE.out, HQ.out, HX.out]
      go_wp2_with fail
      refine known3_any _ _ ?_
      intro wz6 hg6 
      have hgr6 : Grow wz5 wz6 := by first | exact hg6 | exact Grow.trans ((Grow.refl _).alloc _) hg6 | exact Grow.trans (((Grow.refl _).alloc _).alloc _) hg6 | exact Grow.trans ((((Grow.refl _).alloc _).alloc _).alloc _) hg6 | exact Grow.trans (((((Grow.refl _).alloc _).alloc _).alloc _).alloc _) hg6 | exact Grow.trans ((Grow.refl _).drewN _) hg6
      have HF_6 := Lib.hid (HF_5.out.grow hgr6)
      have HXA_6 := Lib.hid (HXA_5.out.grow hgr6)
      have HXB_6 := Lib.hid (HXB_5.out.grow hgr6)
      have GCH6 := Lib.hid (GCH5.out.trans hgr6)
      clear hg6 hgr6 HF_5 HXA_5 HXB_5 GCH5
      go_wp2_with fail
      first | exact HR.out _ (GCH6.out) | exact HR.out _ (Grow.trans GCH6.out ((Grow.refl _).alloc _)) | exact HR.out _ (Grow.trans GCH6.out (((Grow.refl _).alloc _).alloc _)) | exact HR.out _ (Grow.trans GCH6.out ((((Grow.refl _).alloc _).alloc _).alloc _)) | exact HR.out _ (Grow.trans GCH6.out (((((Grow.refl _).alloc _).alloc _).alloc _).alloc _)) | exact HR.out _ (Grow.trans GCH6.out ((Grow.refl _).drewN _))
    subst h0
    cases q with
    | false =>
      clear hle
      go_enter Tryz.func13, Tryz.ntmps13
      go_wp2_with fail
      refine longF_any f _ _ (by first | exact HF_.out | exact HF_.out.grow ((Grow.refl _).alloc _) | exact HF_.out.grow (((Grow.refl _).alloc _).alloc _) | exact HF_.out.grow ((((Grow.refl _).alloc _).alloc _).alloc _) | exact HF_.out.grow (((((Grow.refl _).alloc _).alloc _).alloc _).alloc _) | exact HF_.out.grow ((Grow.refl _).drewN _)) _ ?_
      intro wz1 hg1 
      have hgr1 : Grow w wz1 := by first | exact hg1 | exact Grow.trans ((Grow.refl _).alloc _) hg1 | exact Grow.trans (((Grow.refl _).alloc _).alloc _) hg1 | exact Grow.trans ((((Grow.refl _).alloc _).alloc _).alloc _) hg1 | exact Grow.trans (((((Grow.refl _).alloc _).alloc _).alloc _).alloc _) hg1 | exact Grow.trans ((Grow.refl _).drewN _) hg1
      have HF_1 := Lib.hid (HF_.out.grow hgr1)
      have GCH1 := Lib.hid hgr1
      clear hg1 hgr1 HF_
      rw [HGD0.out]
      go_wp2_with fail
      refine Apart_any f _ _ (by first | exact HF_1.out | exact HF_1.out.grow ((Grow.refl _).alloc _) | exact HF_1.out.grow (((Grow.refl _).alloc _).alloc _) | exact HF_1.out.grow ((((Grow.refl _).alloc _).alloc _).alloc _) | exact HF_1.out.grow (((((Grow.refl _).alloc _).alloc _).alloc _).alloc _) | exact HF_1.out.grow ((Grow.refl _).drewN _)) _ ?_
      intro wz2 x2_0 hg2 hx2_0
      have hgr2 : Grow wz1 wz2 := by first | exact hg2 | exact Grow.trans ((Grow.refl _).alloc _) hg2 | exact Grow.trans (((Grow.refl _).alloc _).alloc _) hg2 | exact Grow.trans ((((Grow.refl _).alloc _).alloc _).alloc _) hg2 | exact Grow.trans (((((Grow.refl _).alloc _).alloc _).alloc _).alloc _) hg2 | exact Grow.trans ((Grow.refl _).drewN _) hg2
      have HF_2 := Lib.hid (HF_1.out.grow hgr2)
      have GCH2 := Lib.hid (GCH1.out.trans hgr2)
      clear hg2 hgr2 HF_1 GCH1
      rw [HA.out] at hx2_0
      have hyHXA_2 := hx2_0.slc encI_len
      have HXA_2 := Lib.hid hyHXA_2
      obtain ⟨aHXA_2, cHXA_2, rfl, qHXA_21, qHXA_22, _⟩ := hyHXA_2
      clear hx2_0
      rw [HE.out]
      go_wp2_with fail
      refine r3Apart_any f _ _ (by first | exact HF_2.out | exact HF_2.out.grow ((Grow.refl _).alloc _) | exact HF_2.out.grow (((Grow.refl _).alloc _).alloc _) | exact HF_2.out.grow ((((Grow.refl _).alloc _).alloc _).alloc _) | exact HF_2.out.grow (((((Grow.refl _).alloc _).alloc _).alloc _).alloc _) | exact HF_2.out.grow ((Grow.refl _).drewN _)) _ ?_
      intro wz3 x3_0 hg3 hx3_0
      have hgr3 : Grow wz2 wz3 := by first | exact hg3 | exact Grow.trans ((Grow.refl _).alloc _) hg3 | exact Grow.trans (((Grow.refl _).alloc _).alloc _) hg3 | exact Grow.trans ((((Grow.refl _).alloc _).alloc _).alloc _) hg3 | exact Grow.trans (((((Grow.refl _).alloc _).alloc _).alloc _).alloc _) hg3 | exact Grow.trans ((Grow.refl _).drewN _) hg3
      have HF_3 := Lib.hid (HF_2.out.grow hgr3)
      have HXA_3 := Lib.hid (HXA_2.out.grow hgr3)
      have GCH3 := Lib.hid (GCH2.out.trans hgr3)
      clear hg3 hgr3 HF_2 HXA_2 GCH2
      rw [HA.out] at hx3_0
      have hyHXB_3 := hx3_0
      have HXB_3 := Lib.hid hyHXB_3
      obtain ⟨aHXB_3, cHXB_3, rfl, qHXB_31, qHXB_32, _⟩ := hyHXB_3
      clear hx3_0
      rw [HE.out]
      go_wp2_with fail
      refine sameInts_any A A _ _ _ (by first | exact HXA_3.out | exact HXA_3.out.grow ((Grow.refl _).alloc _) | exact HXA_3.out.grow (((Grow.refl _).alloc _).alloc _) | exact HXA_3.out.grow ((((Grow.refl _).alloc _).alloc _).alloc _) | exact HXA_3.out.grow (((((Grow.refl _).alloc _).alloc _).alloc _).alloc _) | exact HXA_3.out.grow ((Grow.refl _).drewN _)) (by first | exact HXB_3.out | exact HXB_3.out.grow ((Grow.refl _).alloc _) | exact HXB_3.out.grow (((Grow.refl _).alloc _).alloc _) | exact HXB_3.out.grow ((((Grow.refl _).alloc _).alloc _).alloc _) | exact HXB_3.out.grow (((((Grow.refl _).alloc _).alloc _).alloc _).alloc _) | exact HXB_3.out.grow ((Grow.refl _).drewN _)) _ ?_
      intro wz4 hg4 
      have hgr4 : Grow wz3 wz4 := by first | exact hg4 | exact Grow.trans ((Grow.refl _).alloc _) hg4 | exact Grow.trans (((Grow.refl _).alloc _).alloc _) hg4 | exact Grow.trans ((((Grow.refl _).alloc _).alloc _).alloc _) hg4 | exact Grow.trans (((((Grow.refl _).alloc _).alloc _).alloc _).alloc _) hg4 | exact Grow.trans ((Grow.refl _).drewN _) hg4
      have HF_4 := Lib.hid (HF_3.out.grow hgr4)
      have HXA_4 := Lib.hid (HXA_3.out.grow hgr4)
      have HXB_4 := Lib.hid (HXB_3.out.grow hgr4)
      have GCH4 := Lib.hid (GCH3.out.trans hgr4)
      clear hg4 hgr4 HF_3 HXA_3 HXB_3 GCH3
      rw [show decide (A = A) = true from decide_eq_true rfl]
      go_wp2_with fail
      refine Smallest_any f _ _ (by first | exact HF_4.out | exact HF_4.out.grow ((Grow.refl _).alloc _) | exact HF_4.out.grow (((Grow.refl _).alloc _).alloc _) | exact HF_4.out.grow ((((Grow.refl _).alloc _).alloc _).alloc _) | exact HF_4.out.grow (((((Grow.refl _).alloc _).alloc _).alloc _).alloc _) | exact HF_4.out.grow ((Grow.refl _).drewN _)) _ ?_
      intro wz5 hg5 
      have hgr5 : Grow wz4 wz5 := by first | exact hg5 | exact Grow.trans ((Grow.refl _).alloc _) hg5 | exact Grow.trans (((Grow.refl _).alloc _).alloc _) hg5 | exact Grow.trans ((((Grow.refl _).alloc _).alloc _).alloc _) hg5 | exact Grow.trans (((((Grow.refl _).alloc _).alloc _).alloc _).alloc _) hg5 | exact Grow.trans ((Grow.refl _).drewN _) hg5
      have HF_5 := Lib.hid (HF_4.out.grow hgr5)
      have HXA_5 := Lib.hid (HXA_4.out.grow hgr5)
      have HXB_5 := Lib.hid (HXB_4.out.grow hgr5)
      have GCH5 := Lib.hid (GCH4.out.trans hgr5)
      clear hg5 hgr5 HF_4 HXA_4 HXB_4 GCH4
      rw [HE.out, HQ.out, HX.out]
      go_wp2_with fail
      refine known3_any _ _ ?_
      intro wz6 hg6 
      have hgr6 : Grow wz5 wz6 := by first | exact hg6 | exact Grow.trans ((Grow.refl _).alloc _) hg6 | exact Grow.trans (((Grow.refl _).alloc _).alloc _) hg6 | exact Grow.trans ((((Grow.refl _).alloc _).alloc _).alloc _) hg6 | exact Grow.trans (((((Grow.refl _).alloc _).alloc _).alloc _).alloc _) hg6 | exact Grow.trans ((Grow.refl _).drewN _) hg6
      have HF_6 := Lib.hid (HF_5.out.grow hgr6)
      have HXA_6 := Lib.hid (HXA_5.out.grow hgr6)
      have HXB_6 := Lib.hid (HXB_5.out.grow hgr6)
      have GCH6 := Lib.hid (GCH5.out.trans hgr6)
      clear hg6 hgr6 HF_5 HXA_5 HXB_5 GCH5
      go_wp2_with fail
      first | exact HR.out _ (GCH6.out) | exact HR.out _ (Grow.trans GCH6.out ((Grow.refl _).alloc _)) | exact HR.out _ (Grow.trans GCH6.out (((Grow.refl _).alloc _).alloc _)) | exact HR.out _ (Grow.trans GCH6.out ((((Grow.refl _).alloc _).alloc _).alloc _)) | exact HR.out _ (Grow.trans GCH6.out (((((Grow.refl _).alloc _).alloc _).alloc _).alloc _)) | exact HR.out _ (Grow.trans GCH6.out ((Grow.refl _).drewN _))
    | true =>
      have t3 : ((X.length : Int)) ≥ (A.length : Int) := by have := hle rfl; omega
      clear hle
      go_enter Tryz.func13, Tryz.ntmps13
      go_wp2_with fail
      refine longF_any f _ _ (by first | exact HF_.out | exact HF_.out.grow ((Grow.refl _).alloc _) | exact HF_.out.grow (((Grow.refl _).alloc _).alloc _) | exact HF_.out.grow ((((Grow.refl _).alloc _).alloc _).alloc _) | exact HF_.out.grow (((((Grow.refl _).alloc _).alloc _).alloc _).alloc _) | exact HF_.out.grow ((Grow.refl _).drewN _)) _ ?_
      intro wz1 hg1 
      have hgr1 : Grow w wz1 := by first | exact hg1 | exact Grow.trans ((Grow.refl _).alloc _) hg1 | exact Grow.trans (((Grow.refl _).alloc _).alloc _) hg1 | exact Grow.trans ((((Grow.refl _).alloc _).alloc _).alloc _) hg1 | exact Grow.trans (((((Grow.refl _).alloc _).alloc _).alloc _).alloc _) hg1 | exact Grow.trans ((Grow.refl _).drewN _) hg1
      have HF_1 := Lib.hid (HF_.out.grow hgr1)
      have GCH1 := Lib.hid hgr1
      clear hg1 hgr1 HF_
      rw [HGD0.out]
      go_wp2_with fail
      refine Apart_any f _ _ (by first | exact HF_1.out | exact HF_1.out.grow ((Grow.refl _).alloc _) | exact HF_1.out.grow (((Grow.refl _).alloc _).alloc _) | exact HF_1.out.grow ((((Grow.refl _).alloc _).alloc _).alloc _) | exact HF_1.out.grow (((((Grow.refl _).alloc _).alloc _).alloc _).alloc _) | exact HF_1.out.grow ((Grow.refl _).drewN _)) _ ?_
      intro wz2 x2_0 hg2 hx2_0
      have hgr2 : Grow wz1 wz2 := by first | exact hg2 | exact Grow.trans ((Grow.refl _).alloc _) hg2 | exact Grow.trans (((Grow.refl _).alloc _).alloc _) hg2 | exact Grow.trans ((((Grow.refl _).alloc _).alloc _).alloc _) hg2 | exact Grow.trans (((((Grow.refl _).alloc _).alloc _).alloc _).alloc _) hg2 | exact Grow.trans ((Grow.refl _).drewN _) hg2
      have HF_2 := Lib.hid (HF_1.out.grow hgr2)
      have GCH2 := Lib.hid (GCH1.out.trans hgr2)
      clear hg2 hgr2 HF_1 GCH1
      rw [HA.out] at hx2_0
      have hyHXA_2 := hx2_0.slc encI_len
      have HXA_2 := Lib.hid hyHXA_2
      obtain ⟨aHXA_2, cHXA_2, rfl, qHXA_21, qHXA_22, _⟩ := hyHXA_2
      clear hx2_0
      rw [HE.out]
      go_wp2_with fail
      refine r3Apart_any f _ _ (by first | exact HF_2.out | exact HF_2.out.grow ((Grow.refl _).alloc _) | exact HF_2.out.grow (((Grow.refl _).alloc _).alloc _) | exact HF_2.out.grow ((((Grow.refl _).alloc _).alloc _).alloc _) | exact HF_2.out.grow (((((Grow.refl _).alloc _).alloc _).alloc _).alloc _) | exact HF_2.out.grow ((Grow.refl _).drewN _)) _ ?_
      intro wz3 x3_0 hg3 hx3_0
      have hgr3 : Grow wz2 wz3 := by first | exact hg3 | exact Grow.trans ((Grow.refl _).alloc _) hg3 | exact Grow.trans (((Grow.refl _).alloc _).alloc _) hg3 | exact Grow.trans ((((Grow.refl _).alloc _).alloc _).alloc _) hg3 | exact Grow.trans (((((Grow.refl _).alloc _).alloc _).alloc _).alloc _) hg3 | exact Grow.trans ((Grow.refl _).drewN _) hg3
      have HF_3 := Lib.hid (HF_2.out.grow hgr3)
      have HXA_3 := Lib.hid (HXA_2.out.grow hgr3)
      have GCH3 := Lib.hid (GCH2.out.trans hgr3)
      clear hg3 hgr3 HF_2 HXA_2 GCH2
      rw [HA.out] at hx3_0
      have hyHXB_3 := hx3_0
      have HXB_3 := Lib.hid hyHXB_3
      obtain ⟨aHXB_3, cHXB_3, rfl, qHXB_31, qHXB_32, _⟩ := hyHXB_3
      clear hx3_0
      rw [HE.out]
      go_wp2_with fail
      refine sameInts_any A A _ _ _ (by first | exact HXA_3.out | exact HXA_3.out.grow ((Grow.refl _).alloc _) | exact HXA_3.out.grow (((Grow.refl _).alloc _).alloc _) | exact HXA_3.out.grow ((((Grow.refl _).alloc _).alloc _).alloc _) | exact HXA_3.out.grow (((((Grow.refl _).alloc _).alloc _).alloc _).alloc _) | exact HXA_3.out.grow ((Grow.refl _).drewN _)) (by first | exact HXB_3.out | exact HXB_3.out.grow ((Grow.refl _).alloc _) | exact HXB_3.out.grow (((Grow.refl _).alloc _).alloc _) | exact HXB_3.out.grow ((((Grow.refl _).alloc _).alloc _).alloc _) | exact HXB_3.out.grow (((((Grow.refl _).alloc _).alloc _).alloc _).alloc _) | exact HXB_3.out.grow ((Grow.refl _).drewN _)) _ ?_
      intro wz4 hg4 
      have hgr4 : Grow wz3 wz4 := by first | exact hg4 | exact Grow.trans ((Grow.refl _).alloc _) hg4 | exact Grow.trans (((Grow.refl _).alloc _).alloc _) hg4 | exact Grow.trans ((((Grow.refl _).alloc _).alloc _).alloc _) hg4 | exact Grow.trans (((((Grow.refl _).alloc _).alloc _).alloc _).alloc _) hg4 | exact Grow.trans ((Grow.refl _).drewN _) hg4
      have HF_4 := Lib.hid (HF_3.out.grow hgr4)
      have HXA_4 := Lib.hid (HXA_3.out.grow hgr4)
      have HXB_4 := Lib.hid (HXB_3.out.grow hgr4)
      have GCH4 := Lib.hid (GCH3.out.trans hgr4)
      clear hg4 hgr4 HF_3 HXA_3 HXB_3 GCH3
      rw [show decide (A = A) = true from decide_eq_true rfl]
      go_wp2_with fail
      refine Smallest_any f _ _ (by first | exact HF_4.out | exact HF_4.out.grow ((Grow.refl _).alloc _) | exact HF_4.out.grow (((Grow.refl _).alloc _).alloc _) | exact HF_4.out.grow ((((Grow.refl _).alloc _).alloc _).alloc _) | exact HF_4.out.grow (((((Grow.refl _).alloc _).alloc _).alloc _).alloc _) | exact HF_4.out.grow ((Grow.refl _).drewN _)) _ ?_
      intro wz5 hg5 
      have hgr5 : Grow wz4 wz5 := by first | exact hg5 | exact Grow.trans ((Grow.refl _).alloc _) hg5 | exact Grow.trans (((Grow.refl _).alloc _).alloc _) hg5 | exact Grow.trans ((((Grow.refl _).alloc _).alloc _).alloc _) hg5 | exact Grow.trans (((((Grow.refl _).alloc _).alloc _).alloc _).alloc _) hg5 | exact Grow.trans ((Grow.refl _).drewN _) hg5
      have HF_5 := Lib.hid (HF_4.out.grow hgr5)
      have HXA_5 := Lib.hid (HXA_4.out.grow hgr5)
      have HXB_5 := Lib.hid (HXB_4.out.grow hgr5)
      have GCH5 := Lib.hid (GCH4.out.trans hgr5)
      clear hg5 hgr5 HF_4 HXA_4 HXB_4 GCH4
      rw [HE.out, HQ.out, HX.out]
      go_wp2_with fail
      refine known3_any _ _ ?_
      intro wz6 hg6 
      have hgr6 : Grow wz5 wz6 := by first | exact hg6 | exact Grow.trans ((Grow.refl _).alloc _) hg6 | exact Grow.trans (((Grow.refl _).alloc _).alloc _) hg6 | exact Grow.trans ((((Grow.refl _).alloc _).alloc _).alloc _) hg6 | exact Grow.trans (((((Grow.refl _).alloc _).alloc _).alloc _).alloc _) hg6 | exact Grow.trans ((Grow.refl _).drewN _) hg6
      have HF_6 := Lib.hid (HF_5.out.grow hgr6)
      have HXA_6 := Lib.hid (HXA_5.out.grow hgr6)
      have HXB_6 := Lib.hid (HXB_5.out.grow hgr6)
      have GCH6 := Lib.hid (GCH5.out.trans hgr6)
      clear hg6 hgr6 HF_5 HXA_5 HXB_5 GCH5
      go_wp2_with fail
      first | exact HR.out _ (GCH6.out) | exact HR.out _ (Grow.trans GCH6.out ((Grow.refl _).alloc _)) | exact HR.out _ (Grow.trans GCH6.out (((Grow.refl _).alloc _).alloc _)) | exact HR.out _ (Grow.trans GCH6.out ((((Grow.refl _).alloc _).alloc _).alloc _)) | exact HR.out _ (Grow.trans GCH6.out (((((Grow.refl _).alloc _).alloc _).alloc _).alloc _)) | exact HR.out _ (Grow.trans GCH6.out ((Grow.refl _).drewN _))
end Go.Proofs.YtmlbgfnddgbpbaaGreat

namespace Go.Proofs.YtmlbgfnddgbpbaaGreat
open Go.ChangeShapes Go.WideShapes Go.ChangeAt Go.RowKit

theorem Tryz.own : ownKnob Tryz.prog.godebug = none := by kernel_rfl
theorem Tryz.laidOut : laidOutB Tryz.prog = true := by kernel_rfl

set_option maxRecDepth 100000 in
set_option maxHeartbeats 4000000 in
theorem blameApart_lifted (os : Os) (started : os.Started) (H : Type) (enc : TypeId × Value → H) :
    ReturnsInHanded {} Tryz.checked os 13 .any (Rows.blameApartSpec.pre6 enc Tryz.prog Tryz.f13 Rows.blameApartRow.domain false) (Rows.blameApartSpec.post enc Tryz.prog Tryz.f13 false true false false) := by
  refine returnsInHanded_of_change (C := Tryz.checked) Tryz.own started (by kernel_rfl) Tryz.func13
    (ChangeSpec.witness6 (enc := enc) (C := Tryz.checked) false ⟨#[], #[.slice none 0 0], []⟩ 8 (by kernel_rfl) (by kernel_rfl) (by kernel_rfl) (by kernel_rfl)) ?_
  intro W base args ds gs before hval0 hW hcnd _
  have hval : ∀ (j : Nat) t v, Tryz.f13.params[j]? = some t → args[j]? = some v → Value.okWide Tryz.prog W .any base t v := hval0
  have hW' := hW
  obtain ⟨p, q, hA0, hV, rfl, hfz, hnd⟩ := hW
  have hA : DataW.TrodAll enc Tryz.prog W 0 (fun _ => true) true Tryz.f13.params.toList args.toList ds p := hA0
  rw [Tryz.params13] at hA hval
  obtain ⟨v0, d0, rfl, rfl, h0⟩ := trodAll_one hA
  obtain ⟨rfl, rfl⟩ := trodVars_none hV
  have hk0 := h0
  obtain ⟨x0, hx0⟩ := arg_fam (hval 0 22 v0 rfl rfl) h0
  clear hA0 hval0
  refine Calls.mono (blameApart_any x0 W v0 hx0 (fun e W' => e = .returned (.bool true) ∧ Grow W W') (fun W' hg => ⟨rfl, hg⟩)) fun e W' ⟨he, hB⟩ => ?_
  subst he
  have hlt0 : ∀ x ∈ p, x.block < W.heap.size := fun x hx => hW'.lt x (List.mem_append_left _ hx)
  have ht0 := Below.trod Tryz.laidOut (by kernel_rfl) (of_decide_eq_true (by kernel_rfl)) hk0 hB hlt0
  exact ⟨_, rfl, _, _, _, [], p, [], hW', trodAll_mk1 (shut_bool Tryz.underlying4 true), trodAll_mk1 ht0, rfl, hB.frame _, fun h => by cases h⟩

theorem blameApart_holds : Rows.BlameApartSaid :=
  OpenClaim.holds_of_wide 13 Tryz.f13 rfl rfl rfl rfl rfl rfl rfl ⟨rfl, rfl, rfl, rfl, rfl⟩ rfl rfl rfl rfl rfl (by kernel_rfl) Tryz.func13 (by kernel_rfl)
    (of_decide_eq_true (by kernel_rfl)) (by unfold Func.isWrapper; first | (rw [if_pos (by decide +kernel)]; kernel_rfl) | (rw [if_neg (by decide +kernel)]; exact ⟨rfl, rfl⟩))
    (fun os started H enc _ => blameApart_lifted os started H enc)

end Go.Proofs.YtmlbgfnddgbpbaaGreat
