/-
The statement BlameWithout: a family without a number is what the document says, for all lists and numbers. No condition.
-/
import Derived.Test.YtmlbgfnddgbpbaaGreatD19
import Derived.Test.YtmlbgfnddgbpbaaGreatD32
import Derived.ProofKit
import Derived.Lib.SmallJoins
import Derived.Test.YtmlbgfnddgbpbaaGreatD23
namespace Go.Proofs.YtmlbgfnddgbpbaaGreat
open Go.RowKit
open Mk Bm

set_option maxRecDepth 100000 in
set_option maxHeartbeats 16000000 in
theorem blameWithout_any (f : List (List Int)) (number : Int) (w : World) (vf : Value) (hf : FamAt w vf f) (R : Ending → World → Prop) (hR : ∀ w', Grow w w' → R (.returned (.bool true)) w') :
    Calls Tryz.prog 8 #[vf, .int .i64 number] w R := by
  have HR := Lib.hid hR
  have HF_ := Lib.hid hf
  obtain ⟨adf, cpf, rfl, qf1, qf2⟩ := FamAt.out hf
  clear hR
  obtain ⟨gq0, hgq0⟩ : ∃ z, longF f = z := ⟨_, rfl⟩
  have HGD0 := Lib.hid hgq0
  clear hgq0
  cases gq0 with
  | true =>
    go_enter Tryz.func8, Tryz.ntmps8
    go_wp2_with fail
    refine longF_any f _ _ (by first | exact HF_.out | exact HF_.out.grow ((Grow.refl _).alloc _) | exact HF_.out.grow (((Grow.refl _).alloc _).alloc _) | exact HF_.out.grow ((((Grow.refl _).alloc _).alloc _).alloc _) | exact HF_.out.grow (((((Grow.refl _).alloc _).alloc _).alloc _).alloc _) | exact HF_.out.grow ((Grow.refl _).drewN _)) _ ?_
    intro wz1 hg1 
    have hgr1 : Grow w wz1 := by first | exact hg1 | exact Grow.trans ((Grow.refl _).alloc _) hg1 | exact Grow.trans (((Grow.refl _).alloc _).alloc _) hg1 | exact Grow.trans ((((Grow.refl _).alloc _).alloc _).alloc _) hg1 | exact Grow.trans (((((Grow.refl _).alloc _).alloc _).alloc _).alloc _) hg1 | exact Grow.trans ((Grow.refl _).drewN _) hg1
    have HF_1 := Lib.hid (HF_.out.grow hgr1)
    have GCH1 := Lib.hid hgr1
    clear hg1 hgr1 HF_
    rw [HGD0.out]
    go_wp2_with fail
    refine known3_any _ _ ?_
    intro wz2 hg2 
    have hgr2 : Grow wz1 wz2 := by first | exact hg2 | exact Grow.trans ((Grow.refl _).alloc _) hg2 | exact Grow.trans (((Grow.refl _).alloc _).alloc _) hg2 | exact Grow.trans ((((Grow.refl _).alloc _).alloc _).alloc _) hg2 | exact Grow.trans (((((Grow.refl _).alloc _).alloc _).alloc _).alloc _) hg2 | exact Grow.trans ((Grow.refl _).drewN _) hg2
    have HF_2 := Lib.hid (HF_1.out.grow hgr2)
    have GCH2 := Lib.hid (GCH1.out.trans hgr2)
    clear hg2 hgr2 HF_1 GCH1
    go_wp2_with fail
    first | exact HR.out _ (GCH2.out) | exact HR.out _ (Grow.trans GCH2.out ((Grow.refl _).alloc _)) | exact HR.out _ (Grow.trans GCH2.out (((Grow.refl _).alloc _).alloc _)) | exact HR.out _ (Grow.trans GCH2.out ((((Grow.refl _).alloc _).alloc _).alloc _)) | exact HR.out _ (Grow.trans GCH2.out (((((Grow.refl _).alloc _).alloc _).alloc _).alloc _)) | exact HR.out _ (Grow.trans GCH2.out ((Grow.refl _).drewN _))
  | false =>
    obtain ⟨e, he⟩ : ∃ z, wlE f number = z := ⟨_, rfl⟩
    have HE := Lib.hid he
    clear he
    obtain ⟨A, hA⟩ : ∃ z, wlO f number = z := ⟨_, rfl⟩
    have HA := Lib.hid hA
    clear hA
    have t2 : (e == e) = true := by simp
    go_enter Tryz.func8, Tryz.ntmps8
    go_wp2_with fail
    refine longF_any f _ _ (by first | exact HF_.out | exact HF_.out.grow ((Grow.refl _).alloc _) | exact HF_.out.grow (((Grow.refl _).alloc _).alloc _) | exact HF_.out.grow ((((Grow.refl _).alloc _).alloc _).alloc _) | exact HF_.out.grow (((((Grow.refl _).alloc _).alloc _).alloc _).alloc _) | exact HF_.out.grow ((Grow.refl _).drewN _)) _ ?_
    intro wz1 hg1 
    have hgr1 : Grow w wz1 := by first | exact hg1 | exact Grow.trans ((Grow.refl _).alloc _) hg1 | exact Grow.trans (((Grow.refl _).alloc _).alloc _) hg1 | exact Grow.trans ((((Grow.refl _).alloc _).alloc _).alloc _) hg1 | exact Grow.trans (((((Grow.refl _).alloc _).alloc _).alloc _).alloc _) hg1 | exact Grow.trans ((Grow.refl _).drewN _) hg1
    have HF_1 := Lib.hid (HF_.out.grow hgr1)
    have GCH1 := Lib.hid hgr1
    clear hg1 hgr1 HF_
    rw [HGD0.out]
    go_wp2_with fail
    refine Without_any f number _ _ (by first | exact HF_1.out | exact HF_1.out.grow ((Grow.refl _).alloc _) | exact HF_1.out.grow (((Grow.refl _).alloc _).alloc _) | exact HF_1.out.grow ((((Grow.refl _).alloc _).alloc _).alloc _) | exact HF_1.out.grow (((((Grow.refl _).alloc _).alloc _).alloc _).alloc _) | exact HF_1.out.grow ((Grow.refl _).drewN _)) _ ?_
    intro wz2 x2_0 hg2 hx2_0
    have hgr2 : Grow wz1 wz2 := by first | exact hg2 | exact Grow.trans ((Grow.refl _).alloc _) hg2 | exact Grow.trans (((Grow.refl _).alloc _).alloc _) hg2 | exact Grow.trans ((((Grow.refl _).alloc _).alloc _).alloc _) hg2 | exact Grow.trans (((((Grow.refl _).alloc _).alloc _).alloc _).alloc _) hg2 | exact Grow.trans ((Grow.refl _).drewN _) hg2
    have HF_2 := Lib.hid (HF_1.out.grow hgr2)
    have GCH2 := Lib.hid (GCH1.out.trans hgr2)
    clear hg2 hgr2 HF_1 GCH1
    rw [HA.out] at hx2_0
    have hyHFAMA_2 := hx2_0
    have HFAMA_2 := Lib.hid hyHFAMA_2
    obtain ⟨aHFAMA_2, cHFAMA_2, rfl, qHFAMA_21, qHFAMA_22⟩ := FamAt.out hyHFAMA_2
    clear hx2_0
    rw [HE.out]
    go_wp2_with fail
    refine r3Without_any f number _ _ (by first | exact HF_2.out | exact HF_2.out.grow ((Grow.refl _).alloc _) | exact HF_2.out.grow (((Grow.refl _).alloc _).alloc _) | exact HF_2.out.grow ((((Grow.refl _).alloc _).alloc _).alloc _) | exact HF_2.out.grow (((((Grow.refl _).alloc _).alloc _).alloc _).alloc _) | exact HF_2.out.grow ((Grow.refl _).drewN _)) _ ?_
    intro wz3 x3_0 hg3 hx3_0
    have hgr3 : Grow wz2 wz3 := by first | exact hg3 | exact Grow.trans ((Grow.refl _).alloc _) hg3 | exact Grow.trans (((Grow.refl _).alloc _).alloc _) hg3 | exact Grow.trans ((((Grow.refl _).alloc _).alloc _).alloc _) hg3 | exact Grow.trans (((((Grow.refl _).alloc _).alloc _).alloc _).alloc _) hg3 | exact Grow.trans ((Grow.refl _).drewN _) hg3
    have HF_3 := Lib.hid (HF_2.out.grow hgr3)
    have HFAMA_3 := Lib.hid (HFAMA_2.out.grow hgr3)
    have GCH3 := Lib.hid (GCH2.out.trans hgr3)
    clear hg3 hgr3 HF_2 HFAMA_2 GCH2
    rw [HA.out] at hx3_0
    have hyHFAMB_3 := hx3_0
    have HFAMB_3 := Lib.hid hyHFAMB_3
    obtain ⟨aHFAMB_3, cHFAMB_3, rfl, qHFAMB_31, qHFAMB_32⟩ := FamAt.out hyHFAMB_3
    clear hx3_0
    rw [HE.out]
    go_wp2_with fail
    refine sameF_any A A _ _ _ (by first | exact HFAMA_3.out | exact HFAMA_3.out.grow ((Grow.refl _).alloc _) | exact HFAMA_3.out.grow (((Grow.refl _).alloc _).alloc _) | exact HFAMA_3.out.grow ((((Grow.refl _).alloc _).alloc _).alloc _) | exact HFAMA_3.out.grow (((((Grow.refl _).alloc _).alloc _).alloc _).alloc _) | exact HFAMA_3.out.grow ((Grow.refl _).drewN _)) (by first | exact HFAMB_3.out | exact HFAMB_3.out.grow ((Grow.refl _).alloc _) | exact HFAMB_3.out.grow (((Grow.refl _).alloc _).alloc _) | exact HFAMB_3.out.grow ((((Grow.refl _).alloc _).alloc _).alloc _) | exact HFAMB_3.out.grow (((((Grow.refl _).alloc _).alloc _).alloc _).alloc _) | exact HFAMB_3.out.grow ((Grow.refl _).drewN _)) _ ?_
    intro wz4 hg4 
    have hgr4 : Grow wz3 wz4 := by first | exact hg4 | exact Grow.trans ((Grow.refl _).alloc _) hg4 | exact Grow.trans (((Grow.refl _).alloc _).alloc _) hg4 | exact Grow.trans ((((Grow.refl _).alloc _).alloc _).alloc _) hg4 | exact Grow.trans (((((Grow.refl _).alloc _).alloc _).alloc _).alloc _) hg4 | exact Grow.trans ((Grow.refl _).drewN _) hg4
    have HF_4 := Lib.hid (HF_3.out.grow hgr4)
    have HFAMA_4 := Lib.hid (HFAMA_3.out.grow hgr4)
    have HFAMB_4 := Lib.hid (HFAMB_3.out.grow hgr4)
    have GCH4 := Lib.hid (GCH3.out.trans hgr4)
    clear hg4 hgr4 HF_3 HFAMA_3 HFAMB_3 GCH3
    rw [show decide (A = A) = true from decide_eq_true rfl]
    go_wp2_with fail
    refine known3_any _ _ ?_
    intro wz5 hg5 
    have hgr5 : Grow wz4 wz5 := by first | exact hg5 | exact Grow.trans ((Grow.refl _).alloc _) hg5 | exact Grow.trans (((Grow.refl _).alloc _).alloc _) hg5 | exact Grow.trans ((((Grow.refl _).alloc _).alloc _).alloc _) hg5 | exact Grow.trans (((((Grow.refl _).alloc _).alloc _).alloc _).alloc _) hg5 | exact Grow.trans ((Grow.refl _).drewN _) hg5
    have HF_5 := Lib.hid (HF_4.out.grow hgr5)
    have HFAMA_5 := Lib.hid (HFAMA_4.out.grow hgr5)
    have HFAMB_5 := Lib.hid (HFAMB_4.out.grow hgr5)
    have GCH5 := Lib.hid (GCH4.out.trans hgr5)
    clear hg5 hgr5 HF_4 HFAMA_4 HFAMB_4 GCH4
    go_wp2_with fail
    first | exact HR.out _ (GCH5.out) | exact HR.out _ (Grow.trans GCH5.out ((Grow.refl _).alloc _)) | exact HR.out _ (Grow.trans GCH5.out (((Grow.refl _).alloc _).alloc _)) | exact HR.out _ (Grow.trans GCH5.out ((((Grow.refl _).alloc _).alloc _).alloc _)) | exact HR.out _ (Grow.trans GCH5.out (((((Grow.refl _).alloc _).alloc _).alloc _).alloc _)) | exact HR.out _ (Grow.trans GCH5.out ((Grow.refl _).drewN _))
end Go.Proofs.YtmlbgfnddgbpbaaGreat

namespace Go.Proofs.YtmlbgfnddgbpbaaGreat
open Go.ChangeShapes Go.WideShapes Go.ChangeAt Go.RowKit

theorem Tryz.own : ownKnob Tryz.prog.godebug = none := by kernel_rfl
theorem Tryz.laidOut : laidOutB Tryz.prog = true := by kernel_rfl

set_option maxRecDepth 100000 in
set_option maxHeartbeats 4000000 in
theorem blameWithout_lifted (os : Os) (started : os.Started) (H : Type) (enc : TypeId × Value → H) :
    ReturnsInHanded {} Tryz.checked os 8 .any (Rows.blameWithoutSpec.pre6 enc Tryz.prog Tryz.f8 Rows.blameWithoutRow.domain false) (Rows.blameWithoutSpec.post enc Tryz.prog Tryz.f8 false true false false) := by
  refine returnsInHanded_of_change (C := Tryz.checked) Tryz.own started (by kernel_rfl) Tryz.func8
    (ChangeSpec.witness6 (enc := enc) (C := Tryz.checked) false ⟨#[], #[.slice none 0 0, .int .i64 0], []⟩ 8 (by kernel_rfl) (by kernel_rfl) (by kernel_rfl) (by kernel_rfl)) ?_
  intro W base args ds gs before hval0 hW hcnd _
  have hval : ∀ (j : Nat) t v, Tryz.f8.params[j]? = some t → args[j]? = some v → Value.okWide Tryz.prog W .any base t v := hval0
  have hW' := hW
  obtain ⟨p, q, hA0, hV, rfl, hfz, hnd⟩ := hW
  have hA : DataW.TrodAll enc Tryz.prog W 0 (fun _ => true) true Tryz.f8.params.toList args.toList ds p := hA0
  rw [Tryz.params8] at hA hval
  obtain ⟨v0, v1, d0, d1, p0, p1, rfl, rfl, rfl, h0, h1⟩ := trodAll_two hA
  obtain ⟨rfl, rfl⟩ := trodVars_none hV
  have hk0 := h0
  have hk1 := h1
  obtain ⟨x0, hx0⟩ := arg_fam (hval 0 22 v0 rfl rfl) h0
  obtain ⟨x1, rfl, _, _, wx1⟩ := open_int Tryz.underlying3 (hval 1 3 v1 rfl rfl) h1
  clear hA0 hval0
  refine Calls.mono (blameWithout_any x0 x1 W v0 hx0 (fun e W' => e = .returned (.bool true) ∧ Grow W W') (fun W' hg => ⟨rfl, hg⟩)) fun e W' ⟨he, hB⟩ => ?_
  subst he
  have hlt0 : ∀ x ∈ p0, x.block < W.heap.size := fun x hx => hW'.lt x (List.mem_append_left _ (List.mem_append_left _ (hx)))
  have ht0 := Below.trod Tryz.laidOut (by kernel_rfl) (of_decide_eq_true (by kernel_rfl)) hk0 hB hlt0
  have hlt1 : ∀ x ∈ p1, x.block < W.heap.size := fun x hx => hW'.lt x (List.mem_append_left _ (List.mem_append_right _ hx))
  have ht1 := Below.trod Tryz.laidOut (by kernel_rfl) (of_decide_eq_true (by kernel_rfl)) hk1 hB hlt1
  exact ⟨_, rfl, _, _, _, [], _, [], hW', trodAll_mk1 (shut_bool Tryz.underlying4 true), trodAll_mk2 ht0 ht1, rfl, hB.frame _, fun h => by cases h⟩

theorem blameWithout_holds : Rows.BlameWithoutSaid :=
  OpenClaim.holds_of_wide 8 Tryz.f8 rfl rfl rfl rfl rfl rfl rfl ⟨rfl, rfl, rfl, rfl, rfl⟩ rfl rfl rfl rfl rfl (by kernel_rfl) Tryz.func8 (by kernel_rfl)
    (of_decide_eq_true (by kernel_rfl)) (by unfold Func.isWrapper; first | (rw [if_pos (by decide +kernel)]; kernel_rfl) | (rw [if_neg (by decide +kernel)]; exact ⟨rfl, rfl⟩))
    (fun os started H enc _ => blameWithout_lifted os started H enc)

end Go.Proofs.YtmlbgfnddgbpbaaGreat
