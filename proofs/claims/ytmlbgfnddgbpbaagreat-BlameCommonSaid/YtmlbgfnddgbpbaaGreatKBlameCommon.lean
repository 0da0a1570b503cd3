/-
The statement BlameCommon: the numbers that are in all sets, and in some, are what the document says, for all lists, and a number alone hits the family exactly if it is in all. No condition.
-/
import Derived.Test.YtmlbgfnddgbpbaaGreatD19
import Derived.Test.YtmlbgfnddgbpbaaGreatD14
import Derived.Test.YtmlbgfnddgbpbaaGreatD28
import Derived.Test.YtmlbgfnddgbpbaaGreatD31
import Derived.ProofKit
import Derived.Lib.SmallJoins
import Derived.Test.YtmlbgfnddgbpbaaGreatD23
namespace Go.Proofs.YtmlbgfnddgbpbaaGreat
open Go.RowKit
open Mk Bm

set_option maxRecDepth 100000 in
set_option maxHeartbeats 16000000 in
theorem blameCommon_any (f : List (List Int)) (number : Int) (w : World) (vf : Value) (hf : FamAt w vf f) (R : Ending → World → Prop) (hR : ∀ w', Grow w w' → R (.returned (.bool true)) w') :
    Calls Tryz.prog 9 #[vf, .int .i64 number] w R := by
  have HR := Lib.hid hR
  have HF_ := Lib.hid hf
  obtain ⟨adf, cpf, rfl, qf1, qf2⟩ := FamAt.out hf
  clear hR
  obtain ⟨gq0, hgq0⟩ : ∃ z, longF f = z := ⟨_, rfl⟩
  have HGD0 := Lib.hid hgq0
  clear hgq0
  cases gq0 with
  | true =>
    go_enter Tryz.func9, Tryz.ntmps9
    go_wp2_with fail
    refine longF_any f _ _ (by first | exact HF_.out | exact HF_.out.grow ((Grow.refl _).alloc _) | exact HF_.out.grow (((Grow.refl _).alloc _).alloc _) | exact HF_.out.grow ((((Grow.refl _).alloc _).alloc _).alloc _) | exact HF_.out.grow (((((Grow.refl _).alloc _).alloc _).alloc _).alloc _) | exact HF_.out.grow ((Grow.refl _).drewN _)) _ ?_
    intro wz1 hg1 
    have hgr1 : Grow w wz1 := by first | exact hg1 | exact Grow.trans ((Grow.refl _).alloc _) hg1 | exact Grow.trans (((Grow.refl _).alloc _).alloc _) hg1 | exact Grow.trans ((((Grow.refl _).alloc _).alloc _).alloc _) hg1 | exact Grow.trans (((((Grow.refl _).alloc _).alloc _).alloc _).alloc _) hg1 | exact Grow.trans ((Grow.refl _).drewN _) hg1
    have HF_1 := Lib.hid (HF_.out.grow hgr1)
    have GCH1 := Lib.hid hgr1
    clear hg1 hgr1 HF_
    rw [HGD0.out]
    go_wp2_with fail
    refine known3_any _ _ ?_
    intro wz2 hg2 
    have hgr2 : Grow wz1 wz2 := by first | exact hg2 | exact Grow.trans ((Grow.refl _).alloc _) hg2 | exact Grow.trans (((Grow.refl _).alloc _).alloc _) hg2 | exact Grow.trans ((((Grow.refl _).alloc _).alloc _).alloc _) hg2 | exact Grow.trans (((((Grow.refl _).alloc _).alloc _).alloc _).alloc _) hg2 | exact Grow.trans ((Grow.refl _).drewN _) hg2
    have HF_2 := Lib.hid (HF_1.out.grow hgr2)
    have GCH2 := Lib.hid (GCH1.out.trans hgr2)
    clear hg2 hgr2 HF_1 GCH1
    go_wp2_with fail
    first | exact HR.out _ (GCH2.out) | exact HR.out _ (Grow.trans GCH2.out ((Grow.refl _).alloc _)) | exact HR.out _ (Grow.trans GCH2.out (((Grow.refl _).alloc _).alloc _)) | exact HR.out _ (Grow.trans GCH2.out ((((Grow.refl _).alloc _).alloc _).alloc _)) | exact HR.out _ (Grow.trans GCH2.out (((((Grow.refl _).alloc _).alloc _).alloc _).alloc _)) | exact HR.out _ (Grow.trans GCH2.out ((Grow.refl _).drewN _))
  | false =>
    obtain ⟨e, he⟩ : ∃ z, valF f = z := ⟨_, rfl⟩
    have HE := Lib.hid he
    obtain ⟨A, hA⟩ : ∃ z, cmO f = z := ⟨_, rfl⟩
    have HA := Lib.hid hA
    obtain ⟨T, hT⟩ : ∃ z, toO f = z := ⟨_, rfl⟩
    have HT := Lib.hid hT
    obtain ⟨j, hj⟩ : ∃ z, hitsE f [number] = z := ⟨_, rfl⟩
    have HJ := Lib.hid hj
    obtain ⟨b, hb⟩ : ∃ z, hitsB f [number] = z := ⟨_, rfl⟩
    have HB := Lib.hid hb
    have t2 : (e != e) = false := by simp
    have t3 : (b == b) = true := by simp
    by_cases h0 : j = 0
    rotate_left
    · have t1 : (j != 0) = true := by simpa using h0
      clear h0 he hA hT hj hb
      go_enter Tryz.func9, Tryz.ntmps9
      go_wp2_with fail
      refine longF_any f _ _ (by first | exact HF_.out | exact HF_.out.grow ((Grow.refl _).alloc _) | exact HF_.out.grow (((Grow.refl _).alloc _).alloc _) | exact HF_.out.grow ((((Grow.refl _).alloc _).alloc _).alloc _) | exact HF_.out.grow (((((Grow.refl _).alloc _).alloc _).alloc _).alloc _) | exact HF_.out.grow ((Grow.refl _).drewN _)) _ ?_
      intro wz1 hg1 
      have hgr1 : Grow w wz1 := by first | exact hg1 | exact Grow.trans ((Grow.refl _).alloc _) hg1 | exact Grow.trans (((Grow.refl _).alloc _).alloc _) hg1 | exact Grow.trans ((((Grow.refl _).alloc _).alloc _).alloc _) hg1 | exact Grow.trans (((((Grow.refl _).alloc _).alloc _).alloc _).alloc _) hg1 | exact Grow.trans ((Grow.refl _).drewN _) hg1
      have HF_1 := Lib.hid (HF_.out.grow hgr1)
      have GCH1 := Lib.hid hgr1
      clear hg1 hgr1 HF_
      rw [HGD0.out]
      go_wp2_with fail
      refine Common_any f _ _ (by first | exact HF_1.out | exact HF_1.out.grow ((Grow.refl _).alloc _) | exact HF_1.out.grow (((Grow.refl _).alloc _).alloc _) | exact HF_1.out.grow ((((Grow.refl _).alloc _).alloc _).alloc _) | exact HF_1.out.grow (((((Grow.refl _).alloc _).alloc _).alloc _).alloc _) | exact HF_1.out.grow ((Grow.refl _).drewN _)) _ ?_
      intro wz2 x2_0 hg2 hx2_0
      have hgr2 : Grow wz1 wz2 := by first | exact hg2 | exact Grow.trans ((Grow.refl _).alloc _) hg2 | exact Grow.trans (((Grow.refl _).alloc _).alloc _) hg2 | exact Grow.trans ((((Grow.refl _).alloc _).alloc _).alloc _) hg2 | exact Grow.trans (((((Grow.refl _).alloc _).alloc _).alloc _).alloc _) hg2 | exact Grow.trans ((Grow.refl _).drewN _) hg2
      have HF_2 := Lib.hid (HF_1.out.grow hgr2)
      have GCH2 := Lib.hid (GCH1.out.trans hgr2)
      clear hg2 hgr2 HF_1 GCH1
      rw [HA.out] at hx2_0
      have hyHXA_2 := hx2_0
      have HXA_2 := Lib.hid hyHXA_2
      obtain ⟨aHXA_2, cHXA_2, rfl, qHXA_21, qHXA_22, _⟩ := hyHXA_2
      clear hx2_0
      rw [HE.out]
      go_wp2_with fail
      refine r3Common_any f _ _ (by first | exact HF_2.out | exact HF_2.out.grow ((Grow.refl _).alloc _) | exact HF_2.out.grow (((Grow.refl _).alloc _).alloc _) | exact HF_2.out.grow ((((Grow.refl _).alloc _).alloc _).alloc _) | exact HF_2.out.grow (((((Grow.refl _).alloc _).alloc _).alloc _).alloc _) | exact HF_2.out.grow ((Grow.refl _).drewN _)) _ ?_
      intro wz3 x3_0 hg3 hx3_0
      have hgr3 : Grow wz2 wz3 := by first | exact hg3 | exact Grow.trans ((Grow.refl _).alloc _) hg3 | exact Grow.trans (((Grow.refl _).alloc _).alloc _) hg3 | exact Grow.trans ((((Grow.refl _).alloc _).alloc _).alloc _) hg3 | exact Grow.trans (((((Grow.refl _).alloc _).alloc _).alloc _).alloc _) hg3 | exact Grow.trans ((Grow.refl _).drewN _) hg3
      have HF_3 := Lib.hid (HF_2.out.grow hgr3)
      have HXA_3 := Lib.hid (HXA_2.out.grow hgr3)
      have GCH3 := Lib.hid (GCH2.out.trans hgr3)
      clear hg3 hgr3 HF_2 HXA_2 GCH2
      rw [HA.out] at hx3_0
      have hyHXB_3 := hx3_0
      have HXB_3 := Lib.hid hyHXB_3
      obtain ⟨aHXB_3, cHXB_3, rfl, qHXB_31, qHXB_32, _⟩ := hyHXB_3
      clear hx3_0
      rw [HE.out]
      go_wp2_with fail
      refine Together_any f _ _ (by first | exact HF_3.out | exact HF_3.out.grow ((Grow.refl _).alloc _) | exact HF_3.out.grow (((Grow.refl _).alloc _).alloc _) | exact HF_3.out.grow ((((Grow.refl _).alloc _).alloc _).alloc _) | exact HF_3.out.grow (((((Grow.refl _).alloc _).alloc _).alloc _).alloc _) | exact HF_3.out.grow ((Grow.refl _).drewN _)) _ ?_
      intro wz4 x4_0 hg4 hx4_0
      have hgr4 : Grow wz3 wz4 := by first | exact hg4 | exact Grow.trans ((Grow.refl _).alloc _) hg4 | exact Grow.trans (((Grow.refl _).alloc _).alloc _) hg4 | exact Grow.trans ((((Grow.refl _).alloc _).alloc _).alloc _) hg4 | exact Grow.trans (((((Grow.refl _).alloc _).alloc _).alloc _).alloc _) hg4 | exact Grow.trans ((Grow.refl _).drewN _) hg4
      have HF_4 := Lib.hid (HF_3.out.grow hgr4)
      have HXA_4 := Lib.hid (HXA_3.out.grow hgr4)
      have HXB_4 := Lib.hid (HXB_3.out.grow hgr4)
      have GCH4 := Lib.hid (GCH3.out.trans hgr4)
      clear hg4 hgr4 HF_3 HXA_3 HXB_3 GCH3
      rw [HT.out] at hx4_0
      have hyHXC_4 := hx4_0
      have HXC_4 := Lib.hid hyHXC_4
      obtain ⟨aHXC_4, cHXC_4, rfl, qHXC_41, qHXC_42, _⟩ := hyHXC_4
      clear hx4_0
      rw [HE.out]
      go_wp2_with fail
      refine r3Together_any f _ _ (by first | exact HF_4.out | exact HF_4.out.grow ((Grow.refl _).alloc _) | exact HF_4.out.grow (((Grow.refl _).alloc _).alloc _) | exact HF_4.out.grow ((((Grow.refl _).alloc _).alloc _).alloc _) | exact HF_4.out.grow (((((Grow.refl _).alloc _).alloc _).alloc _).alloc _) | exact HF_4.out.grow ((Grow.refl _).drewN _)) _ ?_
      intro wz5 x5_0 hg5 hx5_0
      have hgr5 : Grow wz4 wz5 := by first | exact hg5 | exact Grow.trans ((Grow.refl _).alloc _) hg5 | exact Grow.trans (((Grow.refl _).alloc _).alloc _) hg5 | exact Grow.trans ((((Grow.refl _).alloc _).alloc _).alloc _) hg5 | exact Grow.trans (((((Grow.refl _).alloc _).alloc _).alloc _).alloc _) hg5 | exact Grow.trans ((Grow.refl _).drewN _) hg5
      have HF_5 := Lib.hid (HF_4.out.grow hgr5)
      have HXA_5 := Lib.hid (HXA_4.out.grow hgr5)
      have HXB_5 := Lib.hid (HXB_4.out.grow hgr5)
      have HXC_5 := Lib.hid (HXC_4.out.grow hgr5)
      have GCH5 := Lib.hid (GCH4.out.trans hgr5)
      clear hg5 hgr5 HF_4 HXA_4 HXB_4 HXC_4 GCH4
      rw [HT.out] at hx5_0
      have hyHXD_5 := hx5_0
      have HXD_5 := Lib.hid hyHXD_5
      obtain ⟨aHXD_5, cHXD_5, rfl, qHXD_51, qHXD_52, _⟩ := hyHXD_5
      clear hx5_0
      rw [HE.out]
      go_wp2_with fail
      refine sameInts_any A A _ _ _ (by first | exact HXA_5.out | exact HXA_5.out.grow ((Grow.refl _).alloc _) | exact HXA_5.out.grow (((Grow.refl _).alloc _).alloc _) | exact HXA_5.out.grow ((((Grow.refl _).alloc _).alloc _).alloc _) | exact HXA_5.out.grow (((((Grow.refl _).alloc _).alloc _).alloc _).alloc _) | exact HXA_5.out.grow ((Grow.refl _).drewN _)) (by first | exact HXB_5.out | exact HXB_5.out.grow ((Grow.refl _).alloc _) | exact HXB_5.out.grow (((Grow.refl _).alloc _).alloc _) | exact HXB_5.out.grow ((((Grow.refl _).alloc _).alloc _).alloc _) | exact HXB_5.out.grow (((((Grow.refl _).alloc _).alloc _).alloc _).alloc _) | exact HXB_5.out.grow ((Grow.refl _).drewN _)) _ ?_
      intro wz6 hg6 
      have hgr6 : Grow wz5 wz6 := by first | exact hg6 | exact Grow.trans ((Grow.refl _).alloc _) hg6 | exact Grow.trans (((Grow.refl _).alloc _).alloc _) hg6 | exact Grow.trans ((((Grow.refl _).alloc _).alloc _).alloc _) hg6 | exact Grow.trans (((((Grow.refl _).alloc _).alloc _).alloc _).alloc _) hg6 | exact Grow.trans ((Grow.refl _).drewN _) hg6
      have HF_6 := Lib.hid (HF_5.out.grow hgr6)
      have HXA_6 := Lib.hid (HXA_5.out.grow hgr6)
      have HXB_6 := Lib.hid (HXB_5.out.grow hgr6)
      have HXC_6 := Lib.hid (HXC_5.out.grow hgr6)
      have HXD_6 := Lib.hid (HXD_5.out.grow hgr6)
      have GCH6 := Lib.hid (GCH5.out.trans hgr6)
      clear hg6 hgr6 HF_5 HXA_5 HXB_5 HXC_5 HXD_5 GCH5
      rw [show decide (A = A) = true from decide_eq_true rfl]
      go_wp2_with fail
      refine sameInts_any T T _ _ _ (by first | exact HXC_6.out | exact HXC_6.out.grow ((Grow.refl _).alloc _) | exact HXC_6.out.grow (((Grow.refl _).alloc _).alloc _) | exact HXC_6.out.grow ((((Grow.refl _).alloc _).alloc _).alloc _) | exact HXC_6.out.grow (((((Grow.refl _).alloc _).alloc _).alloc _).alloc _) | exact HXC_6.out.grow ((Grow.refl _).drewN _)) (by first | exact HXD_6.out | exact HXD_6.out.grow ((Grow.refl _).alloc _) | exact HXD_6.out.grow (((Grow.refl _).alloc _).alloc _) | exact HXD_6.out.grow ((((Grow.refl _).alloc _).alloc _).alloc _) | exact HXD_6.out.grow (((((Grow.refl _).alloc _).alloc _).alloc _).alloc _) | exact HXD_6.out.grow ((Grow.refl _).drewN _)) _ ?_
      intro wz7 hg7 
      have hgr7 : Grow wz6 wz7 := by first | exact hg7 | exact Grow.trans ((Grow.refl _).alloc _) hg7 | exact Grow.trans (((Grow.refl _).alloc _).alloc _) hg7 | exact Grow.trans ((((Grow.refl _).alloc _).alloc _).alloc _) hg7 | exact Grow.trans (((((Grow.refl _).alloc _).alloc _).alloc _).alloc _) hg7 | exact Grow.trans ((Grow.refl _).drewN _) hg7
      have HF_7 := Lib.hid (HF_6.out.grow hgr7)
      have HXA_7 := Lib.hid (HXA_6.out.grow hgr7)
      have HXB_7 := Lib.hid (HXB_6.out.grow hgr7)
      have HXC_7 := Lib.hid (HXC_6.out.grow hgr7)
      have HXD_7 := Lib.hid (HXD_6.out.grow hgr7)
      have GCH7 := Lib.hid (GCH6.out.trans hgr7)
      clear hg7 hgr7 HF_6 HXA_6 HXB_6 HXC_6 HXD_6 GCH6
      rw [show decide (T = T) = true from decide_eq_true rfl]
      go_wp2_with fail
      have hlit := ints_blk (xs := [number]) (heap_alloc_new wz7 (.cells #[.int .i64 number] 3)) (by simp)
      have HLIT := Lib.hid hlit
      clear hlit
      refine Hits_any f [number] _ _ _ (by first | exact HF_7.out | exact HF_7.out.grow ((Grow.refl _).alloc _) | exact HF_7.out.grow (((Grow.refl _).alloc _).alloc _) | exact HF_7.out.grow ((((Grow.refl _).alloc _).alloc _).alloc _) | exact HF_7.out.grow (((((Grow.refl _).alloc _).alloc _).alloc _).alloc _) | exact HF_7.out.grow ((Grow.refl _).drewN _)) HLIT.out _ ?_
      intro wz8 hg8 
      have hgr8 : Grow wz7 wz8 := by first | exact hg8 | exact Grow.trans ((Grow.refl _).alloc _) hg8 | exact Grow.trans (((Grow.refl _).alloc _).alloc _) hg8 | exact Grow.trans ((((Grow.refl _).alloc _).alloc _).alloc _) hg8 | exact Grow.trans (((((Grow.refl _).alloc _).alloc _).alloc _).alloc _) hg8 | exact Grow.trans ((Grow.refl _).drewN _) hg8
      have HF_8 := Lib.hid (HF_7.out.grow hgr8)
      have HXA_8 := Lib.hid (HXA_7.out.grow hgr8)
      have HXB_8 := Lib.hid (HXB_7.out.grow hgr8)
      have HXC_8 := Lib.hid (HXC_7.out.grow hgr8)
      have HXD_8 := Lib.hid (HXD_7.out.grow hgr8)
      have GCH8 := Lib.hid (GCH7.out.trans hgr8)
      clear hg8 hgr8 HF_7 HXA_7 HXB_7 HXC_7 HXD_7 GCH7
      rw [HJ.out, HB.out]
      go_wp2_with fail
      refine known3_any _ _ ?_
      intro wz9 hg9 
      have hgr9 : Grow wz8 wz9 := by first | exact hg9 | exact Grow.trans ((Grow.refl _).alloc _) hg9 | exact Grow.trans (((Grow.refl _).alloc _).alloc _) hg9 | exact Grow.trans ((((Grow.refl _).alloc _).alloc _).alloc _) hg9 | exact Grow.trans (((((Grow.refl _).alloc _).alloc _).alloc _).alloc _) hg9 | exact Grow.trans ((Grow.refl _).drewN _) hg9
      have HF_9 := Lib.hid (HF_8.out.grow hgr9)
      have HXA_9 := Lib.hid (HXA_8.out.grow hgr9)
      have HXB_9 := Lib.hid (HXB_8.out.grow hgr9)
      have HXC_9 := Lib.hid (HXC_8.out.grow hgr9)
      have HXD_9 := Lib.hid (HXD_8.out.grow hgr9)
      have GCH9 := Lib.hid (GCH8.out.trans hgr9)
      clear hg9 hgr9 HF_8 HXA_8 HXB_8 HXC_8 HXD_8 GCH8
      go_wp2_with fail
      first | exact HR.out _ (GCH9.out) | exact HR.out _ (Grow.trans GCH9.out ((Grow.refl _).alloc _)) | exact HR.out _ (Grow.trans GCH9.out (((Grow.refl _).alloc _).alloc _)) | exact HR.out _ (Grow.trans GCH9.out ((((Grow.refl _).alloc _).alloc _).alloc _)) | exact HR.out _ (Grow.trans GCH9.out (((((Grow.refl _).alloc _).alloc _).alloc _).alloc _)) | exact HR.out _ (Grow.trans GCH9.out ((Grow.refl _).drewN _))
    subst h0
    have hv0 : valF f = 0 := by unfold hitsE at hj; by_cases h : valF f = 0; exact h; rw [if_neg h] at hj; exact absurd hj h
    have hs0 : setB [number] = true := by unfold hitsE at hj; rw [if_pos hv0] at hj; cases h : setB [number] with | true => rfl | false => rw [h] at hj; cases hj
    have hin := (setB_iff.1 hs0).1 number (by simp)
    have hA2 : A = lst (cmn (f.map mask)) := by rw [← hA]; unfold cmO; rw [hv0, ifOK_ok]
    have hbb : A.contains number = b := by rw [hA2, ← one_hits hin.1 hin.2, ← hb]; unfold hitsB; rw [hj, decide_eq_true rfl, Bool.true_and]
    have HBB := Lib.hid hbb
    clear hv0 hs0 hin hA2 hbb he hA hT hj hb
    go_enter Tryz.func9, Tryz.ntmps9
    go_wp2_with fail
    refine longF_any f _ _ (by first | exact HF_.out | exact HF_.out.grow ((Grow.refl _).alloc _) | exact HF_.out.grow (((Grow.refl _).alloc _).alloc _) | exact HF_.out.grow ((((Grow.refl _).alloc _).alloc _).alloc _) | exact HF_.out.grow (((((Grow.refl _).alloc _).alloc _).alloc _).alloc _) | exact HF_.out.grow ((Grow.refl _).drewN _)) _ ?_
    intro wz1 hg1 
    have hgr1 : Grow w wz1 := by first | exact hg1 | exact Grow.trans ((Grow.refl _).alloc _) hg1 | exact Grow.trans (((Grow.refl _).alloc _).alloc _) hg1 | exact Grow.trans ((((Grow.refl _).alloc _).alloc _).alloc _) hg1 | exact Grow.trans (((((Grow.refl _).alloc _).alloc _).alloc _).alloc _) hg1 | exact Grow.trans ((Grow.refl _).drewN _) hg1
    have HF_1 := Lib.hid (HF_.out.grow hgr1)
    have GCH1 := Lib.hid hgr1
    clear hg1 hgr1 HF_
    rw [HGD0.out]
    go_wp2_with fail
    refine Common_any f _ _ (by first | exact HF_1.out | exact HF_1.out.grow ((Grow.refl _).alloc _) | exact HF_1.out.grow (((Grow.refl _).alloc _).alloc _) | exact HF_1.out.grow ((((Grow.refl _).alloc _).alloc _).alloc _) | exact HF_1.out.grow (((((Grow.refl _).alloc _).alloc _).alloc _).alloc _) | exact HF_1.out.grow ((Grow.refl _).drewN _)) _ ?_
    intro wz2 x2_0 hg2 hx2_0
    have hgr2 : Grow wz1 wz2 := by first | exact hg2 | exact Grow.trans ((Grow.refl _).alloc _) hg2 | exact Grow.trans (((Grow.refl _).alloc _).alloc _) hg2 | exact Grow.trans ((((Grow.refl _).alloc _).alloc _).alloc _) hg2 | exact Grow.trans (((((Grow.refl _).alloc _).alloc _).alloc _).alloc _) hg2 | exact Grow.trans ((Grow.refl _).drewN _) hg2
    have HF_2 := Lib.hid (HF_1.out.grow hgr2)
    have GCH2 := Lib.hid (GCH1.out.trans hgr2)
    clear hg2 hgr2 HF_1 GCH1
    rw [HA.out] at hx2_0
    have hyHXA_2 := hx2_0
    have HXA_2 := Lib.hid hyHXA_2
    obtain ⟨aHXA_2, cHXA_2, rfl, qHXA_21, qHXA_22, _⟩ := hyHXA_2
    clear hx2_0
    rw [HE.out]
    go_wp2_with fail
    refine r3Common_any f _ _ (by first | exact HF_2.out | exact HF_2.out.grow ((Grow.refl _).alloc _) | exact HF_2.out.grow (((Grow.refl _).alloc _).alloc _) | exact HF_2.out.grow ((((Grow.refl _).alloc _).alloc _).alloc _) | exact HF_2.out.grow (((((Grow.refl _).alloc _).alloc _).alloc _).alloc _) | exact HF_2.out.grow ((Grow.refl _).drewN _)) _ ?_
    intro wz3 x3_0 hg3 hx3_0
    have hgr3 : Grow wz2 wz3 := by first | exact hg3 | exact Grow.trans ((Grow.refl _).alloc _) hg3 | exact Grow.trans (((Grow.refl _).alloc _).alloc _) hg3 | exact Grow.trans ((((Grow.refl _).alloc _).alloc _).alloc _) hg3 | exact Grow.trans (((((Grow.refl _).alloc _).alloc _).alloc _).alloc _) hg3 | exact Grow.trans ((Grow.refl _).drewN _) hg3
    have HF_3 := Lib.hid (HF_2.out.grow hgr3)
    have HXA_3 := Lib.hid (HXA_2.out.grow hgr3)
    have GCH3 := Lib.hid (GCH2.out.trans hgr3)
    clear hg3 hgr3 HF_2 HXA_2 GCH2
    rw [HA.out] at hx3_0
    have hyHXB_3 := hx3_0
    have HXB_3 := Lib.hid hyHXB_3
    obtain ⟨aHXB_3, cHXB_3, rfl, qHXB_31, qHXB_32, _⟩ := hyHXB_3
    clear hx3_0
    rw [HE.out]
    go_wp2_with fail
    refine Together_any f _ _ (by first | exact HF_3.out | exact HF_3.out.grow ((Grow.refl _).alloc _) | exact HF_3.out.grow (((Grow.refl _).alloc _).alloc _) | exact HF_3.out.grow ((((Grow.refl _).alloc _).alloc _).alloc _) | exact HF_3.out.grow (((((Grow.refl _).alloc _).alloc _).alloc _).alloc _) | exact HF_3.out.grow ((Grow.refl _).drewN _)) _ ?_
    intro wz4 x4_0 hg4 hx4_0
    have hgr4 : Grow wz3 wz4 := by first | exact hg4 | exact Grow.trans ((Grow.refl _).alloc _) hg4 | exact Grow.trans (((Grow.refl _).alloc _).alloc _) hg4 | exact Grow.trans ((((Grow.refl _).alloc _).alloc _).alloc _) hg4 | exact Grow.trans (((((Grow.refl _).alloc _).alloc _).alloc _).alloc _) hg4 | exact Grow.trans ((Grow.refl _).drewN _) hg4
    have HF_4 := Lib.hid (HF_3.out.grow hgr4)
    have HXA_4 := Lib.hid (HXA_3.out.grow hgr4)
    have HXB_4 := Lib.hid (HXB_3.out.grow hgr4)
    have GCH4 := Lib.hid (GCH3.out.trans hgr4)
    clear hg4 hgr4 HF_3 HXA_3 HXB_3 GCH3
    rw [HT.out] at hx4_0
    have hyHXC_4 := hx4_0
    have HXC_4 := Lib.hid hyHXC_4
    obtain ⟨aHXC_4, cHXC_4, rfl, qHXC_41, qHXC_42, _⟩ := hyHXC_4
    clear hx4_0
    rw [HE.out]
    go_wp2_with fail
    refine r3Together_any f _ _ (by first | exact HF_4.out | exact HF_4.out.grow ((Grow.refl _).alloc _) | exact HF_4.out.grow (((Grow.refl _).alloc _).alloc _) | exact HF_4.out.grow ((((Grow.refl _).alloc _).alloc _).alloc _) | exact HF_4.out.grow (((((Grow.refl _).alloc _).alloc _).alloc _).alloc _) | exact HF_4.out.grow ((Grow.refl _).drewN _)) _ ?_
    intro wz5 x5_0 hg5 hx5_0
    have hgr5 : Grow wz4 wz5 := by first | exact hg5 | exact Grow.trans ((Grow.refl _).alloc _) hg5 | exact Grow.trans (((Grow.refl _).alloc _).alloc _) hg5 | exact Grow.trans ((((Grow.refl _).alloc _).alloc _).alloc _) hg5 | exact Grow.trans (((((Grow.refl _).alloc _).alloc _).alloc _).alloc _) hg5 | exact Grow.trans ((Grow.refl _).drewN _) hg5
    have HF_5 := Lib.hid (HF_4.out.grow hgr5)
    have HXA_5 := Lib.hid (HXA_4.out.grow hgr5)
    have HXB_5 := Lib.hid (HXB_4.out.grow hgr5)
    have HXC_5 := Lib.hid (HXC_4.out.grow hgr5)
    have GCH5 := Lib.hid (GCH4.out.trans hgr5)
    clear hg5 hgr5 HF_4 HXA_4 HXB_4 HXC_4 GCH4
    rw [HT.out] at hx5_0
    have hyHXD_5 := hx5_0
    have HXD_5 := Lib.hid hyHXD_5
    obtain ⟨aHXD_5, cHXD_5, rfl, qHXD_51, qHXD_52, _⟩ := hyHXD_5
    clear hx5_0
    rw [HE.out]
    go_wp2_with fail
    refine sameInts_any A A _ _ _ (by first | exact HXA_5.out | exact HXA_5.out.grow ((Grow.refl _).alloc _) | exact HXA_5.out.grow (((Grow.refl _).alloc _).alloc _) | exact HXA_5.out.grow ((((Grow.refl _).alloc _).alloc _).alloc _) | exact HXA_5.out.grow (((((Grow.refl _).alloc _).alloc _).alloc _).alloc _) | exact HXA_5.out.grow ((Grow.refl _).drewN _)) (by first | exact HXB_5.out | exact HXB_5.out.grow ((Grow.refl _).alloc _) | exact HXB_5.out.grow (((Grow.refl _).alloc _).alloc _) | exact HXB_5.out.grow ((((Grow.refl _).alloc _).alloc _).alloc _) | exact HXB_5.out.grow (((((Grow.refl _).alloc _).alloc _).alloc _).alloc _) | exact HXB_5.out.grow ((Grow.refl _).drewN _)) _ ?_
    intro wz6 hg6 
    have hgr6 : Grow wz5 wz6 := by first | exact hg6 | exact Grow.trans ((Grow.refl _).alloc _) hg6 | exact Grow.trans (((Grow.refl _).alloc _).alloc _) hg6 | exact Grow.trans ((((Grow.refl _).alloc _).alloc _).alloc _) hg6 | exact Grow.trans (((((Grow.refl _).alloc _).alloc _).alloc _).alloc _) hg6 | exact Grow.trans ((Grow.refl _).drewN _) hg6
    have HF_6 := Lib.hid (HF_5.out.grow hgr6)
    have HXA_6 := Lib.hid (HXA_5.out.grow hgr6)
    have HXB_6 := Lib.hid (HXB_5.out.grow hgr6)
    have HXC_6 := Lib.hid (HXC_5.out.grow hgr6)
    have HXD_6 := Lib.hid (HXD_5.out.grow hgr6)
    have GCH6 := Lib.hid (GCH5.out.trans hgr6)
    clear hg6 hgr6 HF_5 HXA_5 HXB_5 HXC_5 HXD_5 GCH5
    rw [show decide (A = A) = true from decide_eq_true rfl]
    go_wp2_with fail
    refine sameInts_any T T _ _ _ (by first | exact HXC_6.out | exact HXC_6.out.grow ((Grow.refl _).alloc _) | exact HXC_6.out.grow (((Grow.refl _).alloc _).alloc _) | exact HXC_6.out.grow ((((Grow.refl _).alloc _).alloc _).alloc _) | exact HXC_6.out.grow (((((Grow.refl _).alloc _).alloc _).alloc _).alloc _) | exact HXC_6.out.grow ((Grow.refl _).drewN _)) (by first | exact HXD_6.out | exact HXD_6.out.grow ((Grow.refl _).alloc _) | exact HXD_6.out.grow (((Grow.refl _).alloc _).alloc _) | exact HXD_6.out.grow ((((Grow.refl _).alloc _).alloc _).alloc _) | exact HXD_6.out.grow (((((Grow.refl _).alloc _).alloc _).alloc _).alloc _) | exact HXD_6.out.grow ((Grow.refl _).drewN _)) _ ?_
    intro wz7 hg7 
    have hgr7 : Grow wz6 wz7 := by first | exact hg7 | exact Grow.trans ((Grow.refl _).alloc _) hg7 | exact Grow.trans (((Grow.refl _).alloc _).alloc _) hg7 | exact Grow.trans ((((Grow.refl _).alloc _).alloc _).alloc _) hg7 | exact Grow.trans (((((Grow.refl _).alloc _).alloc _).alloc _).alloc _) hg7 | exact Grow.trans ((Grow.refl _).drewN _) hg7
    have HF_7 := Lib.hid (HF_6.out.grow hgr7)
    have HXA_7 := Lib.hid (HXA_6.out.grow hgr7)
    have HXB_7 := Lib.hid (HXB_6.out.grow hgr7)
    have HXC_7 := Lib.hid (HXC_6.out.grow hgr7)
    have HXD_7 := Lib.hid (HXD_6.out.grow hgr7)
    have GCH7 := Lib.hid (GCH6.out.trans hgr7)
    clear hg7 hgr7 HF_6 HXA_6 HXB_6 HXC_6 HXD_6 GCH6
    rw [show decide (T = T) = true from decide_eq_true rfl]
    go_wp2_with fail
    have hlit := ints_blk (xs := [number]) (heap_alloc_new wz7 (.cells #[.int .i64 number] 3)) (by simp)
    have HLIT := Lib.hid hlit
    clear hlit
    refine Hits_any f [number] _ _ _ (by first | exact HF_7.out | exact HF_7.out.grow ((Grow.refl _).alloc _) | exact HF_7.out.grow (((Grow.refl _).alloc _).alloc _) | exact HF_7.out.grow ((((Grow.refl _).alloc _).alloc _).alloc _) | exact HF_7.out.grow (((((Grow.refl _).alloc _).alloc _).alloc _).alloc _) | exact HF_7.out.grow ((Grow.refl _).drewN _)) HLIT.out _ ?_
    intro wz8 hg8 
    have hgr8 : Grow wz7 wz8 := by first | exact hg8 | exact Grow.trans ((Grow.refl _).alloc _) hg8 | exact Grow.trans (((Grow.refl _).alloc _).alloc _) hg8 | exact Grow.trans ((((Grow.refl _).alloc _).alloc _).alloc _) hg8 | exact Grow.trans (((((Grow.refl _).alloc _).alloc _).alloc _).alloc _) hg8 | exact Grow.trans ((Grow.refl _).drewN _) hg8
    have HF_8 := Lib.hid (HF_7.out.grow hgr8)
    have HXA_8 := Lib.hid (HXA_7.out.grow hgr8)
    have HXB_8 := Lib.hid (HXB_7.out.grow hgr8)
    have HXC_8 := Lib.hid (HXC_7.out.grow hgr8)
    have HXD_8 := Lib.hid (HXD_7.out.grow hgr8)
    have GCH8 := Lib.hid (GCH7.out.trans hgr8)
    clear hg8 hgr8 HF_7 HXA_7 HXB_7 HXC_7 HXD_7 GCH7
    rw [HJ.out, HB.out]
    go_wp2_with fail
    refine rHas1_any A number _ _ (by first | exact HXA_8.out | exact HXA_8.out.grow ((Grow.refl _).alloc _) | exact HXA_8.out.grow (((Grow.refl _).alloc _).alloc _) | exact HXA_8.out.grow ((((Grow.refl _).alloc _).alloc _).alloc _) | exact HXA_8.out.grow (((((Grow.refl _).alloc _).alloc _).alloc _).alloc _) | exact HXA_8.out.grow ((Grow.refl _).drewN _)) _ ?_
    rw [HBB.out]
    go_wp2_with fail
    refine known3_any _ _ ?_
    intro wz9 hg9 
    have hgr9 : Grow wz8 wz9 := by first | exact hg9 | exact Grow.trans ((Grow.refl _).alloc _) hg9 | exact Grow.trans (((Grow.refl _).alloc _).alloc _) hg9 | exact Grow.trans ((((Grow.refl _).alloc _).alloc _).alloc _) hg9 | exact Grow.trans (((((Grow.refl _).alloc _).alloc _).alloc _).alloc _) hg9 | exact Grow.trans ((Grow.refl _).drewN _) hg9
    have HF_9 := Lib.hid (HF_8.out.grow hgr9)
    have HXA_9 := Lib.hid (HXA_8.out.grow hgr9)
    have HXB_9 := Lib.hid (HXB_8.out.grow hgr9)
    have HXC_9 := Lib.hid (HXC_8.out.grow hgr9)
    have HXD_9 := Lib.hid (HXD_8.out.grow hgr9)
    have GCH9 := Lib.hid (GCH8.out.trans hgr9)
    clear hg9 hgr9 HF_8 HXA_8 HXB_8 HXC_8 HXD_8 GCH8
    go_wp2_with fail
    first | exact HR.out _ (GCH9.out) | exact HR.out _ (Grow.trans GCH9.out ((Grow.refl _).alloc _)) | exact HR.out _ (Grow.trans GCH9.out (((Grow.refl _).alloc _).alloc _)) | exact HR.out _ (Grow.trans GCH9.out ((((Grow.refl _).alloc _).alloc _).alloc _)) | exact HR.out _ (Grow.trans GCH9.out (((((Grow.refl _).alloc _).alloc _).alloc _).alloc _)) | exact HR.out _ (Grow.trans GCH9.out ((Grow.refl _).drewN _))
end Go.Proofs.YtmlbgfnddgbpbaaGreat

namespace Go.Proofs.YtmlbgfnddgbpbaaGreat
open Go.ChangeShapes Go.WideShapes Go.ChangeAt Go.RowKit

theorem Tryz.own : ownKnob Tryz.prog.godebug = none := by kernel_rfl
theorem Tryz.laidOut : laidOutB Tryz.prog = true := by kernel_rfl

set_option maxRecDepth 100000 in
set_option maxHeartbeats 4000000 in
theorem blameCommon_lifted (os : Os) (started : os.Started) (H : Type) (enc : TypeId × Value → H) :
    ReturnsInHanded {} Tryz.checked os 9 .any (Rows.blameCommonSpec.pre6 enc Tryz.prog Tryz.f9 Rows.blameCommonRow.domain false) (Rows.blameCommonSpec.post enc Tryz.prog Tryz.f9 false true false false) := by
  refine returnsInHanded_of_change (C := Tryz.checked) Tryz.own started (by kernel_rfl) Tryz.func9
    (ChangeSpec.witness6 (enc := enc) (C := Tryz.checked) false ⟨#[], #[.slice none 0 0, .int .i64 0], []⟩ 8 (by kernel_rfl) (by kernel_rfl) (by kernel_rfl) (by kernel_rfl)) ?_
  intro W base args ds gs before hval0 hW hcnd _
  have hval : ∀ (j : Nat) t v, Tryz.f9.params[j]? = some t → args[j]? = some v → Value.okWide Tryz.prog W .any base t v := hval0
  have hW' := hW
  obtain ⟨p, q, hA0, hV, rfl, hfz, hnd⟩ := hW
  have hA : DataW.TrodAll enc Tryz.prog W 0 (fun _ => true) true Tryz.f9.params.toList args.toList ds p := hA0
  rw [Tryz.params9] at hA hval
  obtain ⟨v0, v1, d0, d1, p0, p1, rfl, rfl, rfl, h0, h1⟩ := trodAll_two hA
  obtain ⟨rfl, rfl⟩ := trodVars_none hV
  have hk0 := h0
  have hk1 := h1
  obtain ⟨x0, hx0⟩ := arg_fam (hval 0 22 v0 rfl rfl) h0
  obtain ⟨x1, rfl, _, _, wx1⟩ := open_int Tryz.underlying3 (hval 1 3 v1 rfl rfl) h1
  clear hA0 hval0
  refine Calls.mono (blameCommon_any x0 x1 W v0 hx0 (fun e W' => e = .returned (.bool true) ∧ Grow W W') (fun W' hg => ⟨rfl, hg⟩)) fun e W' ⟨he, hB⟩ => ?_
  subst he
  have hlt0 : ∀ x ∈ p0, x.block < W.heap.size := fun x hx => hW'.lt x (List.mem_append_left _ (List.mem_append_left _ (hx)))
  have ht0 := Below.trod Tryz.laidOut (by kernel_rfl) (of_decide_eq_true (by kernel_rfl)) hk0 hB hlt0
  have hlt1 : ∀ x ∈ p1, x.block < W.heap.size := fun x hx => hW'.lt x (List.mem_append_left _ (List.mem_append_right _ hx))
  have ht1 := Below.trod Tryz.laidOut (by kernel_rfl) (of_decide_eq_true (by kernel_rfl)) hk1 hB hlt1
  exact ⟨_, rfl, _, _, _, [], _, [], hW', trodAll_mk1 (shut_bool Tryz.underlying4 true), trodAll_mk2 ht0 ht1, rfl, hB.frame _, fun h => by cases h⟩

theorem blameCommon_holds : Rows.BlameCommonSaid :=
  OpenClaim.holds_of_wide 9 Tryz.f9 rfl rfl rfl rfl rfl rfl rfl ⟨rfl, rfl, rfl, rfl, rfl⟩ rfl rfl rfl rfl rfl (by kernel_rfl) Tryz.func9 (by kernel_rfl)
    (of_decide_eq_true (by kernel_rfl)) (by unfold Func.isWrapper; first | (rw [if_pos (by decide +kernel)]; kernel_rfl) | (rw [if_neg (by decide +kernel)]; exact ⟨rfl, rfl⟩))
    (fun os started H enc _ => blameCommon_lifted os started H enc)

end Go.Proofs.YtmlbgfnddgbpbaaGreat
