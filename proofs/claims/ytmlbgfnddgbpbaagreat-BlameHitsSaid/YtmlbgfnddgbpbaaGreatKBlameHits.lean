/-
The statement BlameHits: which families are valid, and which sets hit them, is what the document says, for all lists. No condition.
-/
import Derived.Test.YtmlbgfnddgbpbaaGreatD19
import Derived.Test.YtmlbgfnddgbpbaaGreatD14
import Derived.ProofKit
import Derived.Lib.SmallJoins
import Derived.Test.YtmlbgfnddgbpbaaGreatD23
namespace Go.Proofs.YtmlbgfnddgbpbaaGreat
open Go.RowKit
open Mk Bm

set_option maxRecDepth 100000 in
set_option maxHeartbeats 8000000 in
theorem blameHits_any (f : List (List Int)) (set : List Int) (w : World) (vf vset : Value) (hf : FamAt w vf f) (hset : IntsAt w vset set) (R : Ending → World → Prop) (hR : ∀ w', Grow w w' → R (.returned (.bool true)) w') :
    Calls Tryz.prog 5 #[vf, vset] w R := by
  have HR := Lib.hid hR
  have HF_ := Lib.hid hf
  obtain ⟨adf, cpf, rfl, qf1, qf2⟩ := FamAt.out hf
  have HSET_ := Lib.hid hset
  obtain ⟨adset, cpset, rfl, qset1, qset2, _⟩ := hset
  clear hR
  obtain ⟨gq0, hgq0⟩ : ∃ z, longF f = z := ⟨_, rfl⟩
  have HGD0 := Lib.hid hgq0
  clear hgq0
  cases gq0 with
  | true =>
    go_enter Tryz.func5, Tryz.ntmps5
    go_wp2_with fail
    refine longF_any f _ _ (by first | exact HF_.out | exact HF_.out.grow ((Grow.refl _).alloc _) | exact HF_.out.grow (((Grow.refl _).alloc _).alloc _) | exact HF_.out.grow ((((Grow.refl _).alloc _).alloc _).alloc _) | exact HF_.out.grow (((((Grow.refl _).alloc _).alloc _).alloc _).alloc _) | exact HF_.out.grow ((Grow.refl _).drewN _)) _ ?_
    intro wz1 hg1 
    have hgr1 : Grow w wz1 := by first | exact hg1 | exact Grow.trans ((Grow.refl _).alloc _) hg1 | exact Grow.trans (((Grow.refl _).alloc _).alloc _) hg1 | exact Grow.trans ((((Grow.refl _).alloc _).alloc _).alloc _) hg1 | exact Grow.trans (((((Grow.refl _).alloc _).alloc _).alloc _).alloc _) hg1 | exact Grow.trans ((Grow.refl _).drewN _) hg1
    have HF_1 := Lib.hid (HF_.out.grow hgr1)
    have HSET_1 := Lib.hid (HSET_.out.grow hgr1)
    have GCH1 := Lib.hid hgr1
    clear hg1 hgr1 HF_ HSET_
    rw [HGD0.out]
    go_wp2_with fail
    refine known3_any _ _ ?_
    intro wz2 hg2 
    have hgr2 : Grow wz1 wz2 := by first | exact hg2 | exact Grow.trans ((Grow.refl _).alloc _) hg2 | exact Grow.trans (((Grow.refl _).alloc _).alloc _) hg2 | exact Grow.trans ((((Grow.refl _).alloc _).alloc _).alloc _) hg2 | exact Grow.trans (((((Grow.refl _).alloc _).alloc _).alloc _).alloc _) hg2 | exact Grow.trans ((Grow.refl _).drewN _) hg2
    have HF_2 := Lib.hid (HF_1.out.grow hgr2)
    have HSET_2 := Lib.hid (HSET_1.out.grow hgr2)
    have GCH2 := Lib.hid (GCH1.out.trans hgr2)
    clear hg2 hgr2 HF_1 HSET_1 GCH1
    go_wp2_with fail
    first | exact HR.out _ (GCH2.out) | exact HR.out _ (Grow.trans GCH2.out ((Grow.refl _).alloc _)) | exact HR.out _ (Grow.trans GCH2.out (((Grow.refl _).alloc _).alloc _)) | exact HR.out _ (Grow.trans GCH2.out ((((Grow.refl _).alloc _).alloc _).alloc _)) | exact HR.out _ (Grow.trans GCH2.out (((((Grow.refl _).alloc _).alloc _).alloc _).alloc _)) | exact HR.out _ (Grow.trans GCH2.out ((Grow.refl _).drewN _))
  | false =>
    obtain ⟨gq1, hgq1⟩ : ∃ z, decide (100 < set.length) = z := ⟨_, rfl⟩
    have HGD1 := Lib.hid hgq1
    clear hgq1
    cases gq1 with
    | true =>
      go_enter Tryz.func5, Tryz.ntmps5
      go_wp2_with fail
      refine longF_any f _ _ (by first | exact HF_.out | exact HF_.out.grow ((Grow.refl _).alloc _) | exact HF_.out.grow (((Grow.refl _).alloc _).alloc _) | exact HF_.out.grow ((((Grow.refl _).alloc _).alloc _).alloc _) | exact HF_.out.grow (((((Grow.refl _).alloc _).alloc _).alloc _).alloc _) | exact HF_.out.grow ((Grow.refl _).drewN _)) _ ?_
      intro wz1 hg1 
      have hgr1 : Grow w wz1 := by first | exact hg1 | exact Grow.trans ((Grow.refl _).alloc _) hg1 | exact Grow.trans (((Grow.refl _).alloc _).alloc _) hg1 | exact Grow.trans ((((Grow.refl _).alloc _).alloc _).alloc _) hg1 | exact Grow.trans (((((Grow.refl _).alloc _).alloc _).alloc _).alloc _) hg1 | exact Grow.trans ((Grow.refl _).drewN _) hg1
      have HF_1 := Lib.hid (HF_.out.grow hgr1)
      have HSET_1 := Lib.hid (HSET_.out.grow hgr1)
      have GCH1 := Lib.hid hgr1
      clear hg1 hgr1 HF_ HSET_
      rw [HGD0.out]
      go_wp2_with fail
      refine large3_any set _ _ (by first | exact HSET_1.out | exact HSET_1.out.grow ((Grow.refl _).alloc _) | exact HSET_1.out.grow (((Grow.refl _).alloc _).alloc _) | exact HSET_1.out.grow ((((Grow.refl _).alloc _).alloc _).alloc _) | exact HSET_1.out.grow (((((Grow.refl _).alloc _).alloc _).alloc _).alloc _) | exact HSET_1.out.grow ((Grow.refl _).drewN _)) _ ?_
      rw [HGD1.out]
      go_wp2_with fail
      refine known3_any _ _ ?_
      intro wz2 hg2 
      have hgr2 : Grow wz1 wz2 := by first | exact hg2 | exact Grow.trans ((Grow.refl _).alloc _) hg2 | exact Grow.trans (((Grow.refl _).alloc _).alloc _) hg2 | exact Grow.trans ((((Grow.refl _).alloc _).alloc _).alloc _) hg2 | exact Grow.trans (((((Grow.refl _).alloc _).alloc _).alloc _).alloc _) hg2 | exact Grow.trans ((Grow.refl _).drewN _) hg2
      have HF_2 := Lib.hid (HF_1.out.grow hgr2)
      have HSET_2 := Lib.hid (HSET_1.out.grow hgr2)
      have GCH2 := Lib.hid (GCH1.out.trans hgr2)
      clear hg2 hgr2 HF_1 HSET_1 GCH1
      go_wp2_with fail
      first | exact HR.out _ (GCH2.out) | exact HR.out _ (Grow.trans GCH2.out ((Grow.refl _).alloc _)) | exact HR.out _ (Grow.trans GCH2.out (((Grow.refl _).alloc _).alloc _)) | exact HR.out _ (Grow.trans GCH2.out ((((Grow.refl _).alloc _).alloc _).alloc _)) | exact HR.out _ (Grow.trans GCH2.out (((((Grow.refl _).alloc _).alloc _).alloc _).alloc _)) | exact HR.out _ (Grow.trans GCH2.out ((Grow.refl _).drewN _))
    | false =>
      obtain ⟨e, he⟩ : ∃ z, valF f = z := ⟨_, rfl⟩
      have HE := Lib.hid he
      clear he
      obtain ⟨g, hg⟩ : ∃ z, hitsE f set = z := ⟨_, rfl⟩
      have HG := Lib.hid hg
      clear hg
      obtain ⟨b, hb⟩ : ∃ z, hitsB f set = z := ⟨_, rfl⟩
      have HB := Lib.hid hb
      clear hb
      have t2 : (e == e) = true := by simp
      have t3 : (g == g) = true := by simp
      have t4 : (b == b) = true := by simp
      go_enter Tryz.func5, Tryz.ntmps5
      go_wp2_with fail
      refine longF_any f _ _ (by first | exact HF_.out | exact HF_.out.grow ((Grow.refl _).alloc _) | exact HF_.out.grow (((Grow.refl _).alloc _).alloc _) | exact HF_.out.grow ((((Grow.refl _).alloc _).alloc _).alloc _) | exact HF_.out.grow (((((Grow.refl _).alloc _).alloc _).alloc _).alloc _) | exact HF_.out.grow ((Grow.refl _).drewN _)) _ ?_
      intro wz1 hg1 
      have hgr1 : Grow w wz1 := by first | exact hg1 | exact Grow.trans ((Grow.refl _).alloc _) hg1 | exact Grow.trans (((Grow.refl _).alloc _).alloc _) hg1 | exact Grow.trans ((((Grow.refl _).alloc _).alloc _).alloc _) hg1 | exact Grow.trans (((((Grow.refl _).alloc _).alloc _).alloc _).alloc _) hg1 | exact Grow.trans ((Grow.refl _).drewN _) hg1
      have HF_1 := Lib.hid (HF_.out.grow hgr1)
      have HSET_1 := Lib.hid (HSET_.out.grow hgr1)
      have GCH1 := Lib.hid hgr1
      clear hg1 hgr1 HF_ HSET_
      rw [HGD0.out]
      go_wp2_with fail
      refine large3_any set _ _ (by first | exact HSET_1.out | exact HSET_1.out.grow ((Grow.refl _).alloc _) | exact HSET_1.out.grow (((Grow.refl _).alloc _).alloc _) | exact HSET_1.out.grow ((((Grow.refl _).alloc _).alloc _).alloc _) | exact HSET_1.out.grow (((((Grow.refl _).alloc _).alloc _).alloc _).alloc _) | exact HSET_1.out.grow ((Grow.refl _).drewN _)) _ ?_
      rw [HGD1.out]
      go_wp2_with fail
      refine Hits_any f set _ _ _ (by first | exact HF_1.out | exact HF_1.out.grow ((Grow.refl _).alloc _) | exact HF_1.out.grow (((Grow.refl _).alloc _).alloc _) | exact HF_1.out.grow ((((Grow.refl _).alloc _).alloc _).alloc _) | exact HF_1.out.grow (((((Grow.refl _).alloc _).alloc _).alloc _).alloc _) | exact HF_1.out.grow ((Grow.refl _).drewN _)) (by first | exact HSET_1.out | exact HSET_1.out.grow ((Grow.refl _).alloc _) | exact HSET_1.out.grow (((Grow.refl _).alloc _).alloc _) | exact HSET_1.out.grow ((((Grow.refl _).alloc _).alloc _).alloc _) | exact HSET_1.out.grow (((((Grow.refl _).alloc _).alloc _).alloc _).alloc _) | exact HSET_1.out.grow ((Grow.refl _).drewN _)) _ ?_
      intro wz2 hg2 
      have hgr2 : Grow wz1 wz2 := by first | exact hg2 | exact Grow.trans ((Grow.refl _).alloc _) hg2 | exact Grow.trans (((Grow.refl _).alloc _).alloc _) hg2 | exact Grow.trans ((((Grow.refl _).alloc _).alloc _).alloc _) hg2 | exact Grow.trans (((((Grow.refl _).alloc _).alloc _).alloc _).alloc _) hg2 | exact Grow.trans ((Grow.refl _).drewN _) hg2
      have HF_2 := Lib.hid (HF_1.out.grow hgr2)
      have HSET_2 := Lib.hid (HSET_1.out.grow hgr2)
      have GCH2 := Lib.hid (GCH1.out.trans hgr2)
      clear hg2 hgr2 HF_1 HSET_1 GCH1
      rw [HG.out, HB.out]
      go_wp2_with fail
      refine r3Hits_any f set _ _ _ (by first | exact HF_2.out | exact HF_2.out.grow ((Grow.refl _).alloc _) | exact HF_2.out.grow (((Grow.refl _).alloc _).alloc _) | exact HF_2.out.grow ((((Grow.refl _).alloc _).alloc _).alloc _) | exact HF_2.out.grow (((((Grow.refl _).alloc _).alloc _).alloc _).alloc _) | exact HF_2.out.grow ((Grow.refl _).drewN _)) (by first | exact HSET_2.out | exact HSET_2.out.grow ((Grow.refl _).alloc _) | exact HSET_2.out.grow (((Grow.refl _).alloc _).alloc _) | exact HSET_2.out.grow ((((Grow.refl _).alloc _).alloc _).alloc _) | exact HSET_2.out.grow (((((Grow.refl _).alloc _).alloc _).alloc _).alloc _) | exact HSET_2.out.grow ((Grow.refl _).drewN _)) _ ?_
      intro wz3 hg3 
      have hgr3 : Grow wz2 wz3 := by first | exact hg3 | exact Grow.trans ((Grow.refl _).alloc _) hg3 | exact Grow.trans (((Grow.refl _).alloc _).alloc _) hg3 | exact Grow.trans ((((Grow.refl _).alloc _).alloc _).alloc _) hg3 | exact Grow.trans (((((Grow.refl _).alloc _).alloc _).alloc _).alloc _) hg3 | exact Grow.trans ((Grow.refl _).drewN _) hg3
      have HF_3 := Lib.hid (HF_2.out.grow hgr3)
      have HSET_3 := Lib.hid (HSET_2.out.grow hgr3)
      have GCH3 := Lib.hid (GCH2.out.trans hgr3)
      clear hg3 hgr3 HF_2 HSET_2 GCH2
      rw [HG.out, HB.out]
      go_wp2_with fail
      refine bValidate_any f _ _ (by first | exact HF_3.out | exact HF_3.out.grow ((Grow.refl _).alloc _) | exact HF_3.out.grow (((Grow.refl _).alloc _).alloc _) | exact HF_3.out.grow ((((Grow.refl _).alloc _).alloc _).alloc _) | exact HF_3.out.grow (((((Grow.refl _).alloc _).alloc _).alloc _).alloc _) | exact HF_3.out.grow ((Grow.refl _).drewN _)) _ ?_
      intro wz4 hg4 
      have hgr4 : Grow wz3 wz4 := by first | exact hg4 | exact Grow.trans ((Grow.refl _).alloc _) hg4 | exact Grow.trans (((Grow.refl _).alloc _).alloc _) hg4 | exact Grow.trans ((((Grow.refl _).alloc _).alloc _).alloc _) hg4 | exact Grow.trans (((((Grow.refl _).alloc _).alloc _).alloc _).alloc _) hg4 | exact Grow.trans ((Grow.refl _).drewN _) hg4
      have HF_4 := Lib.hid (HF_3.out.grow hgr4)
      have HSET_4 := Lib.hid (HSET_3.out.grow hgr4)
      have GCH4 := Lib.hid (GCH3.out.trans hgr4)
      clear hg4 hgr4 HF_3 HSET_3 GCH3
      rw [HE.out]
      go_wp2_with fail
      refine r3Validate_any f _ _ (by first | exact HF_4.out | exact HF_4.out.grow ((Grow.refl _).alloc _) | exact HF_4.out.grow (((Grow.refl _).alloc _).alloc _) | exact HF_4.out.grow ((((Grow.refl _).alloc _).alloc _).alloc _) | exact HF_4.out.grow (((((Grow.refl _).alloc _).alloc _).alloc _).alloc _) | exact HF_4.out.grow ((Grow.refl _).drewN _)) _ ?_
      intro wz5 hg5 
      have hgr5 : Grow wz4 wz5 := by first | exact hg5 | exact Grow.trans ((Grow.refl _).alloc _) hg5 | exact Grow.trans (((Grow.refl _).alloc _).alloc _) hg5 | exact Grow.trans ((((Grow.refl _).alloc _).alloc _).alloc _) hg5 | exact Grow.trans (((((Grow.refl _).alloc _).alloc _).alloc _).alloc _) hg5 | exact Grow.trans ((Grow.refl _).drewN _) hg5
      have HF_5 := Lib.hid (HF_4.out.grow hgr5)
      have HSET_5 := Lib.hid (HSET_4.out.grow hgr5)
      have GCH5 := Lib.hid (GCH4.out.trans hgr5)
      clear hg5 hgr5 HF_4 HSET_4 GCH4
      rw [HE.out]
      go_wp2_with fail
      refine known3_any _ _ ?_
      intro wz6 hg6 
      have hgr6 : Grow wz5 wz6 := by first | exact hg6 | exact Grow.trans ((Grow.refl _).alloc _) hg6 | exact Grow.trans (((Grow.refl _).alloc _).alloc _) hg6 | exact Grow.trans ((((Grow.refl _).alloc _).alloc _).alloc _) hg6 | exact Grow.trans (((((Grow.refl _).alloc _).alloc _).alloc _).alloc _) hg6 | exact Grow.trans ((Grow.refl _).drewN _) hg6
      have HF_6 := Lib.hid (HF_5.out.grow hgr6)
      have HSET_6 := Lib.hid (HSET_5.out.grow hgr6)
      have GCH6 := Lib.hid (GCH5.out.trans hgr6)
      clear hg6 hgr6 HF_5 HSET_5 GCH5
      go_wp2_with fail
      first | exact HR.out _ (GCH6.out) | exact HR.out _ (Grow.trans GCH6.out ((Grow.refl _).alloc _)) | exact HR.out _ (Grow.trans GCH6.out (((Grow.refl _).alloc _).alloc _)) | exact HR.out _ (Grow.trans GCH6.out ((((Grow.refl _).alloc _).alloc _).alloc _)) | exact HR.out _ (Grow.trans GCH6.out (((((Grow.refl _).alloc _).alloc _).alloc _).alloc _)) | exact HR.out _ (Grow.trans GCH6.out ((Grow.refl _).drewN _))
end Go.Proofs.YtmlbgfnddgbpbaaGreat

namespace Go.Proofs.YtmlbgfnddgbpbaaGreat
open Go.ChangeShapes Go.WideShapes Go.ChangeAt Go.RowKit

theorem Tryz.own : ownKnob Tryz.prog.godebug = none := by kernel_rfl
theorem Tryz.laidOut : laidOutB Tryz.prog = true := by kernel_rfl

set_option maxRecDepth 100000 in
set_option maxHeartbeats 4000000 in
theorem blameHits_lifted (os : Os) (started : os.Started) (H : Type) (enc : TypeId × Value → H) :
    ReturnsInHanded {} Tryz.checked os 5 .any (Rows.blameHitsSpec.pre6 enc Tryz.prog Tryz.f5 Rows.blameHitsRow.domain false) (Rows.blameHitsSpec.post enc Tryz.prog Tryz.f5 false true false false) := by
  refine returnsInHanded_of_change (C := Tryz.checked) Tryz.own started (by kernel_rfl) Tryz.func5
    (ChangeSpec.witness6 (enc := enc) (C := Tryz.checked) false ⟨#[], #[.slice none 0 0, .slice none 0 0], []⟩ 8 (by kernel_rfl) (by kernel_rfl) (by kernel_rfl) (by kernel_rfl)) ?_
  intro W base args ds gs before hval0 hW hcnd _
  have hval : ∀ (j : Nat) t v, Tryz.f5.params[j]? = some t → args[j]? = some v → Value.okWide Tryz.prog W .any base t v := hval0
  have hW' := hW
  obtain ⟨p, q, hA0, hV, rfl, hfz, hnd⟩ := hW
  have hA : DataW.TrodAll enc Tryz.prog W 0 (fun _ => true) true Tryz.f5.params.toList args.toList ds p := hA0
  rw [Tryz.params5] at hA hval
  obtain ⟨v0, v1, d0, d1, p0, p1, rfl, rfl, rfl, h0, h1⟩ := trodAll_two hA
  obtain ⟨rfl, rfl⟩ := trodVars_none hV
  have hk0 := h0
  have hk1 := h1
  obtain ⟨x0, hx0⟩ := arg_fam (hval 0 22 v0 rfl rfl) h0
  obtain ⟨x1, hx1⟩ := arg_ints (hval 1 29 v1 rfl rfl) h1
  clear hA0 hval0
  refine Calls.mono (blameHits_any x0 x1 W v0 v1 hx0 hx1 (fun e W' => e = .returned (.bool true) ∧ Grow W W') (fun W' hg => ⟨rfl, hg⟩)) fun e W' ⟨he, hB⟩ => ?_
  subst he
  have hlt0 : ∀ x ∈ p0, x.block < W.heap.size := fun x hx => hW'.lt x (List.mem_append_left _ (List.mem_append_left _ (hx)))
  have ht0 := Below.trod Tryz.laidOut (by kernel_rfl) (of_decide_eq_true (by kernel_rfl)) hk0 hB hlt0
  have hlt1 : ∀ x ∈ p1, x.block < W.heap.size := fun x hx => hW'.lt x (List.mem_append_left _ (List.mem_append_right _ hx))
  have ht1 := Below.trod Tryz.laidOut (by kernel_rfl) (of_decide_eq_true (by kernel_rfl)) hk1 hB hlt1
  exact ⟨_, rfl, _, _, _, [], _, [], hW', trodAll_mk1 (shut_bool Tryz.underlying4 true), trodAll_mk2 ht0 ht1, rfl, hB.frame _, fun h => by cases h⟩

theorem blameHits_holds : Rows.BlameHitsSaid :=
  OpenClaim.holds_of_wide 5 Tryz.f5 rfl rfl rfl rfl rfl rfl rfl ⟨rfl, rfl, rfl, rfl, rfl⟩ rfl rfl rfl rfl rfl (by kernel_rfl) Tryz.func5 (by kernel_rfl)
    (of_decide_eq_true (by kernel_rfl)) (by unfold Func.isWrapper; first | (rw [if_pos (by decide +kernel)]; kernel_rfl) | (rw [if_neg (by decide +kernel)]; exact ⟨rfl, rfl⟩))
    (fun os started H enc _ => blameHits_lifted os started H enc)

end Go.Proofs.YtmlbgfnddgbpbaaGreat
