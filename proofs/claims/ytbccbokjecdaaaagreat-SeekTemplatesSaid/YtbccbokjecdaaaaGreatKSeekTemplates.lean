/-
The statement SeekTemplates: the templates of a line, and which lines are templates of others, are what the document says, for all lines. No condition.
-/
import Derived.Test.YtbccbokjecdaaaaGreatB41
import Derived.Test.YtbccbokjecdaaaaGreatB32
import Derived.ProofKit
import Derived.Lib.SmallJoins
import Derived.Test.YtbccbokjecdaaaaGreatB34
namespace Go.Proofs.YtbccbokjecdaaaaGreat
open Go.RowKit

set_option maxRecDepth 100000 in
set_option maxHeartbeats 8000000 in
theorem seekTemplates_any (l0 l1 l2 l3 : Int) (m0 m1 m2 m3 : Int) (w : World)  (R : Ending → World → Prop) (hR : ∀ w', Grow w w' → R (.returned (.bool true)) w') :
    Calls Tryz.prog 10 #[.agg #[.int .i64 l0, .int .i64 l1, .int .i64 l2, .int .i64 l3], .agg #[.int .i64 m0, .int .i64 m1, .int .i64 m2, .int .i64 m3]] w R := by
  have HR := Lib.hid hR
  clear hR
  obtain ⟨A, hHAA⟩ : ∃ z, (if vL l0 l1 l2 l3 then tmpl ⟨l0, l1, l2, l3⟩ else []) = z := ⟨_, rfl⟩
  have HAA := Lib.hid hHAA
  clear hHAA
  obtain ⟨e, hHE⟩ : ∃ z, errB (vL l0 l1 l2 l3) = z := ⟨_, rfl⟩
  have HE := Lib.hid hHE
  clear hHE
  obtain ⟨nb, hHNB⟩ : ∃ z, nearB ⟨l0, l1, l2, l3⟩ ⟨m0, m1, m2, m3⟩ = z := ⟨_, rfl⟩
  have HNB := Lib.hid hHNB
  clear hHNB
  obtain ⟨ne, hHNE⟩ : ∃ z, nearE ⟨l0, l1, l2, l3⟩ ⟨m0, m1, m2, m3⟩ = z := ⟨_, rfl⟩
  have HNE := Lib.hid hHNE
  clear hHNE
  have t1 : (nb == nb) = true := by simp
  have t2 : (e == e) = true := by simp
  have t3 : (ne == ne) = true := by simp
  go_enter Tryz.func10, Tryz.ntmps10
  go_wp2_with fail
  obtain ⟨wb0, hwb0⟩ : ∃ W, w.alloc (.cells #[.int .i64 l0, .int .i64 l1, .int .i64 l2, .int .i64 l3] 25) = W := ⟨_, rfl⟩
  rw [hwb0]
  have hgb0 : Grow w wb0 := hwb0 ▸ (Grow.refl w).alloc _
  have hsz0 : wb0.heap.size = w.heap.size + 1 := by rw [← hwb0, World.size_alloc]
  have hbb0 : wb0.heap[w.heap.size]? = some (.cells #[.int .i64 l0, .int .i64 l1, .int .i64 l2, .int .i64 l3] 25 (0, 0)) := by have h := heap_alloc_new w (.cells #[.int .i64 l0, .int .i64 l1, .int .i64 l2, .int .i64 l3] 25); rw [hwb0] at h; exact h
  clear hwb0
  have hgr1 : Grow w wb0 := by first | exact hgb0 | exact Grow.trans ((Grow.refl _).alloc _) hgb0 | exact Grow.trans (((Grow.refl _).alloc _).alloc _) hgb0 | exact Grow.trans ((((Grow.refl _).alloc _).alloc _).alloc _) hgb0 | exact Grow.trans (((((Grow.refl _).alloc _).alloc _).alloc _).alloc _) hgb0 | exact Grow.trans ((Grow.refl _).drewN _) hgb0
  have GCH1 := Lib.hid hgr1
  clear hgb0 hgr1
  obtain ⟨el0, el1, el2, el3⟩ := box4 hbb0
  have zl := lt_of_block hbb0
  have HBB0 := Lib.hid hbb0
  clear hbb0
  obtain ⟨wb1, hwb1⟩ : ∃ W, wb0.alloc (.cells #[.int .i64 m0, .int .i64 m1, .int .i64 m2, .int .i64 m3] 25) = W := ⟨_, rfl⟩
  rw [hwb1]
  have hgb1 : Grow wb0 wb1 := hwb1 ▸ (Grow.refl wb0).alloc _
  have hsz1 : wb1.heap.size = w.heap.size + 2 := by rw [← hwb1, World.size_alloc]; rw [hsz0]
  have hbb1 : wb1.heap[w.heap.size + 1]? = some (.cells #[.int .i64 m0, .int .i64 m1, .int .i64 m2, .int .i64 m3] 25 (0, 0)) := by have h := heap_alloc_new wb0 (.cells #[.int .i64 m0, .int .i64 m1, .int .i64 m2, .int .i64 m3] 25); rw [hsz0] at h; rw [hwb1] at h; exact h
  clear hwb1
  have hgr2 : Grow wb0 wb1 := by first | exact hgb1 | exact Grow.trans ((Grow.refl _).alloc _) hgb1 | exact Grow.trans (((Grow.refl _).alloc _).alloc _) hgb1 | exact Grow.trans ((((Grow.refl _).alloc _).alloc _).alloc _) hgb1 | exact Grow.trans (((((Grow.refl _).alloc _).alloc _).alloc _).alloc _) hgb1 | exact Grow.trans ((Grow.refl _).drewN _) hgb1
  have GCH2 := Lib.hid (GCH1.out.trans hgr2)
  have hbx_2 := hgr2.blk HBB0.out
  clear el0 el1 el2 el3 zl
  obtain ⟨el0, el1, el2, el3⟩ := box4 hbx_2
  have zl := lt_of_block hbx_2
  have HBX0_2 := Lib.hid hbx_2
  clear hbx_2
  clear hgb1 hgr2 GCH1 HBB0
  obtain ⟨em0, em1, em2, em3⟩ := box4 hbb1
  have zm := lt_of_block hbb1
  have HBB1 := Lib.hid hbb1
  clear hbb1
  clear hsz0 hsz1
  refine Templates_any l0 l1 l2 l3 _ _ ?_
  intro wz3 x3_0 hg3 hx3_0
  have hgr3 : Grow wb1 wz3 := by first | exact hg3 | exact Grow.trans ((Grow.refl _).alloc _) hg3 | exact Grow.trans (((Grow.refl _).alloc _).alloc _) hg3 | exact Grow.trans ((((Grow.refl _).alloc _).alloc _).alloc _) hg3 | exact Grow.trans (((((Grow.refl _).alloc _).alloc _).alloc _).alloc _) hg3 | exact Grow.trans ((Grow.refl _).drewN _) hg3
  have GCH3 := Lib.hid (GCH2.out.trans hgr3)
  have hbx_3 := hgr3.blk HBX0_2.out
  clear el0 el1 el2 el3 zl
  obtain ⟨el0, el1, el2, el3⟩ := box4 hbx_3
  have zl := lt_of_block hbx_3
  have HBX0_3 := Lib.hid hbx_3
  clear hbx_3
  have hbx_3 := hgr3.blk HBB1.out
  clear em0 em1 em2 em3 zm
  obtain ⟨em0, em1, em2, em3⟩ := box4 hbx_3
  have zm := lt_of_block hbx_3
  have HBX1_3 := Lib.hid hbx_3
  clear hbx_3
  clear hg3 hgr3 GCH2 HBX0_2 HBB1
  rw [HAA.out] at hx3_0
  have hyHXA_3 := hx3_0
  have HXA_3 := Lib.hid hyHXA_3
  obtain ⟨aHXA_3, cHXA_3, rfl, qHXA_31, qHXA_32, _⟩ := hyHXA_3
  clear hx3_0
  rw [HE.out]
  go_wp2_with fail
  refine rTemplates_any l0 l1 l2 l3 _ _ ?_
  intro wz4 x4_0 hg4 hx4_0
  have hgr4 : Grow wz3 wz4 := by first | exact hg4 | exact Grow.trans ((Grow.refl _).alloc _) hg4 | exact Grow.trans (((Grow.refl _).alloc _).alloc _) hg4 | exact Grow.trans ((((Grow.refl _).alloc _).alloc _).alloc _) hg4 | exact Grow.trans (((((Grow.refl _).alloc _).alloc _).alloc _).alloc _) hg4 | exact Grow.trans ((Grow.refl _).drewN _) hg4
  have HXA_4 := Lib.hid (HXA_3.out.grow hgr4)
  have GCH4 := Lib.hid (GCH3.out.trans hgr4)
  have hbx_4 := hgr4.blk HBX0_3.out
  clear el0 el1 el2 el3 zl
  obtain ⟨el0, el1, el2, el3⟩ := box4 hbx_4
  have zl := lt_of_block hbx_4
  have HBX0_4 := Lib.hid hbx_4
  clear hbx_4
  have hbx_4 := hgr4.blk HBX1_3.out
  clear em0 em1 em2 em3 zm
  obtain ⟨em0, em1, em2, em3⟩ := box4 hbx_4
  have zm := lt_of_block hbx_4
  have HBX1_4 := Lib.hid hbx_4
  clear hbx_4
  clear hg4 hgr4 HXA_3 GCH3 HBX0_3 HBX1_3
  rw [HAA.out] at hx4_0
  have hyHXB_4 := hx4_0
  have HXB_4 := Lib.hid hyHXB_4
  obtain ⟨aHXB_4, cHXB_4, rfl, qHXB_41, qHXB_42, _⟩ := hyHXB_4
  clear hx4_0
  rw [HE.out]
  go_wp2_with fail
  refine near_any l0 l1 l2 l3 m0 m1 m2 m3 _ _ ?_
  intro wz5 hg5 
  have hgr5 : Grow wz4 wz5 := by first | exact hg5 | exact Grow.trans ((Grow.refl _).alloc _) hg5 | exact Grow.trans (((Grow.refl _).alloc _).alloc _) hg5 | exact Grow.trans ((((Grow.refl _).alloc _).alloc _).alloc _) hg5 | exact Grow.trans (((((Grow.refl _).alloc _).alloc _).alloc _).alloc _) hg5 | exact Grow.trans ((Grow.refl _).drewN _) hg5
  have HXA_5 := Lib.hid (HXA_4.out.grow hgr5)
  have HXB_5 := Lib.hid (HXB_4.out.grow hgr5)
  have GCH5 := Lib.hid (GCH4.out.trans hgr5)
  have hbx_5 := hgr5.blk HBX0_4.out
  clear el0 el1 el2 el3 zl
  obtain ⟨el0, el1, el2, el3⟩ := box4 hbx_5
  have zl := lt_of_block hbx_5
  have HBX0_5 := Lib.hid hbx_5
  clear hbx_5
  have hbx_5 := hgr5.blk HBX1_4.out
  clear em0 em1 em2 em3 zm
  obtain ⟨em0, em1, em2, em3⟩ := box4 hbx_5
  have zm := lt_of_block hbx_5
  have HBX1_5 := Lib.hid hbx_5
  clear hbx_5
  clear hg5 hgr5 HXA_4 HXB_4 GCH4 HBX0_4 HBX1_4
  rw [HNB.out, HNE.out]
  go_wp2_with fail
  refine rNear_any l0 l1 l2 l3 m0 m1 m2 m3 _ _ ?_
  intro wz6 hg6 
  have hgr6 : Grow wz5 wz6 := by first | exact hg6 | exact Grow.trans ((Grow.refl _).alloc _) hg6 | exact Grow.trans (((Grow.refl _).alloc _).alloc _) hg6 | exact Grow.trans ((((Grow.refl _).alloc _).alloc _).alloc _) hg6 | exact Grow.trans (((((Grow.refl _).alloc _).alloc _).alloc _).alloc _) hg6 | exact Grow.trans ((Grow.refl _).drewN _) hg6
  have HXA_6 := Lib.hid (HXA_5.out.grow hgr6)
  have HXB_6 := Lib.hid (HXB_5.out.grow hgr6)
  have GCH6 := Lib.hid (GCH5.out.trans hgr6)
  have hbx_6 := hgr6.blk HBX0_5.out
  clear el0 el1 el2 el3 zl
  obtain ⟨el0, el1, el2, el3⟩ := box4 hbx_6
  have zl := lt_of_block hbx_6
  have HBX0_6 := Lib.hid hbx_6
  clear hbx_6
  have hbx_6 := hgr6.blk HBX1_5.out
  clear em0 em1 em2 em3 zm
  obtain ⟨em0, em1, em2, em3⟩ := box4 hbx_6
  have zm := lt_of_block hbx_6
  have HBX1_6 := Lib.hid hbx_6
  clear hbx_6
  clear hg6 hgr6 HXA_5 HXB_5 GCH5 HBX0_5 HBX1_5
  rw [HNB.out, HNE.out]
  go_wp2_with fail
  refine rsame4_any A A _ _ _ (by first | exact HXA_6.out | exact HXA_6.out.grow ((Grow.refl _).alloc _) | exact HXA_6.out.grow (((Grow.refl _).alloc _).alloc _) | exact HXA_6.out.grow ((((Grow.refl _).alloc _).alloc _).alloc _) | exact HXA_6.out.grow (((((Grow.refl _).alloc _).alloc _).alloc _).alloc _) | exact HXA_6.out.grow ((Grow.refl _).drewN _)) (by first | exact HXB_6.out | exact HXB_6.out.grow ((Grow.refl _).alloc _) | exact HXB_6.out.grow (((Grow.refl _).alloc _).alloc _) | exact HXB_6.out.grow ((((Grow.refl _).alloc _).alloc _).alloc _) | exact HXB_6.out.grow (((((Grow.refl _).alloc _).alloc _).alloc _).alloc _) | exact HXB_6.out.grow ((Grow.refl _).drewN _)) _ ?_
  intro wz7 hg7 
  have hgr7 : Grow wz6 wz7 := by first | exact hg7 | exact Grow.trans ((Grow.refl _).alloc _) hg7 | exact Grow.trans (((Grow.refl _).alloc _).alloc _) hg7 | exact Grow.trans ((((Grow.refl _).alloc _).alloc _).alloc _) hg7 | exact Grow.trans (((((Grow.refl _).alloc _).alloc _).alloc _).alloc _) hg7 | exact Grow.trans ((Grow.refl _).drewN _) hg7
  have HXA_7 := Lib.hid (HXA_6.out.grow hgr7)
  have HXB_7 := Lib.hid (HXB_6.out.grow hgr7)
  have GCH7 := Lib.hid (GCH6.out.trans hgr7)
  have hbx_7 := hgr7.blk HBX0_6.out
  clear el0 el1 el2 el3 zl
  obtain ⟨el0, el1, el2, el3⟩ := box4 hbx_7
  have zl := lt_of_block hbx_7
  have HBX0_7 := Lib.hid hbx_7
  clear hbx_7
  have hbx_7 := hgr7.blk HBX1_6.out
  clear em0 em1 em2 em3 zm
  obtain ⟨em0, em1, em2, em3⟩ := box4 hbx_7
  have zm := lt_of_block hbx_7
  have HBX1_7 := Lib.hid hbx_7
  clear hbx_7
  clear hg7 hgr7 HXA_6 HXB_6 GCH6 HBX0_6 HBX1_6
  rw [show decide (A = A) = true from decide_eq_true rfl]
  go_wp2_with fail
  refine ssane_any _ _ ?_
  intro wz8 hg8 
  have hgr8 : Grow wz7 wz8 := by first | exact hg8 | exact Grow.trans ((Grow.refl _).alloc _) hg8 | exact Grow.trans (((Grow.refl _).alloc _).alloc _) hg8 | exact Grow.trans ((((Grow.refl _).alloc _).alloc _).alloc _) hg8 | exact Grow.trans (((((Grow.refl _).alloc _).alloc _).alloc _).alloc _) hg8 | exact Grow.trans ((Grow.refl _).drewN _) hg8
  have HXA_8 := Lib.hid (HXA_7.out.grow hgr8)
  have HXB_8 := Lib.hid (HXB_7.out.grow hgr8)
  have GCH8 := Lib.hid (GCH7.out.trans hgr8)
  have hbx_8 := hgr8.blk HBX0_7.out
  clear el0 el1 el2 el3 zl
  obtain ⟨el0, el1, el2, el3⟩ := box4 hbx_8
  have zl := lt_of_block hbx_8
  have HBX0_8 := Lib.hid hbx_8
  clear hbx_8
  have hbx_8 := hgr8.blk HBX1_7.out
  clear em0 em1 em2 em3 zm
  obtain ⟨em0, em1, em2, em3⟩ := box4 hbx_8
  have zm := lt_of_block hbx_8
  have HBX1_8 := Lib.hid hbx_8
  clear hbx_8
  clear hg8 hgr8 HXA_7 HXB_7 GCH7 HBX0_7 HBX1_7
  go_wp2_with fail
  first | exact HR.out _ (GCH8.out) | exact HR.out _ (Grow.trans GCH8.out ((Grow.refl _).alloc _)) | exact HR.out _ (Grow.trans GCH8.out (((Grow.refl _).alloc _).alloc _)) | exact HR.out _ (Grow.trans GCH8.out ((((Grow.refl _).alloc _).alloc _).alloc _)) | exact HR.out _ (Grow.trans GCH8.out (((((Grow.refl _).alloc _).alloc _).alloc _).alloc _)) | exact HR.out _ (Grow.trans GCH8.out ((Grow.refl _).drewN _))
end Go.Proofs.YtbccbokjecdaaaaGreat

namespace Go.Proofs.YtbccbokjecdaaaaGreat
open Go.ChangeShapes Go.WideShapes Go.ChangeAt Go.RowKit

theorem Tryz.own : ownKnob Tryz.prog.godebug = none := by kernel_rfl
theorem Tryz.laidOut : laidOutB Tryz.prog = true := by kernel_rfl

set_option maxRecDepth 100000 in
set_option maxHeartbeats 4000000 in
theorem seekTemplates_lifted (os : Os) (started : os.Started) (H : Type) (enc : TypeId × Value → H) :
    ReturnsInHanded {} Tryz.checked os 10 .any (Rows.seekTemplatesSpec.pre6 enc Tryz.prog Tryz.f10 Rows.seekTemplatesRow.domain false) (Rows.seekTemplatesSpec.post enc Tryz.prog Tryz.f10 false true false false) := by
  refine returnsInHanded_of_change (C := Tryz.checked) Tryz.own started (by kernel_rfl) Tryz.func10
    (ChangeSpec.witness6 (enc := enc) (C := Tryz.checked) false ⟨#[], #[.agg #[.int .i64 0, .int .i64 0, .int .i64 0, .int .i64 0], .agg #[.int .i64 0, .int .i64 0, .int .i64 0, .int .i64 0]], []⟩ 8 (by kernel_rfl) (by kernel_rfl) (by kernel_rfl) (by kernel_rfl)) ?_
  intro W base args ds gs before hval0 hW hcnd _
  have hval : ∀ (j : Nat) t v, Tryz.f10.params[j]? = some t → args[j]? = some v → Value.okWide Tryz.prog W .any base t v := hval0
  have hW' := hW
  obtain ⟨p, q, hA0, hV, rfl, hfz, hnd⟩ := hW
  have hA : DataW.TrodAll enc Tryz.prog W 0 (fun _ => true) true Tryz.f10.params.toList args.toList ds p := hA0
  rw [Tryz.params10] at hA hval
  obtain ⟨v0, v1, d0, d1, p0, p1, rfl, rfl, rfl, h0, h1⟩ := trodAll_two hA
  obtain ⟨rfl, rfl⟩ := trodVars_none hV
  have hk0 := h0
  have hk1 := h1
  obtain ⟨c00, c01, c02, c03, y00, y01, y02, y03, m0, rfl, _, _, hy00, hy01, hy02, hy03⟩ := Go.Joins.open_agg4 Tryz.underlying25 (by kernel_rfl) (by kernel_rfl) (hval 0 25 v0 rfl rfl) h0
  obtain ⟨x00, e00, _, wx00⟩ := DataW.trod_int Tryz.underlying3 hy00
  obtain ⟨x01, e01, _, wx01⟩ := DataW.trod_int Tryz.underlying3 hy01
  obtain ⟨x02, e02, _, wx02⟩ := DataW.trod_int Tryz.underlying3 hy02
  obtain ⟨x03, e03, _, wx03⟩ := DataW.trod_int Tryz.underlying3 hy03
  simp at e00 e01 e02 e03
  subst e00 e01 e02 e03
  obtain ⟨c10, c11, c12, c13, y10, y11, y12, y13, m1, rfl, _, _, hy10, hy11, hy12, hy13⟩ := Go.Joins.open_agg4 Tryz.underlying25 (by kernel_rfl) (by kernel_rfl) (hval 1 25 v1 rfl rfl) h1
  obtain ⟨x10, e10, _, wx10⟩ := DataW.trod_int Tryz.underlying3 hy10
  obtain ⟨x11, e11, _, wx11⟩ := DataW.trod_int Tryz.underlying3 hy11
  obtain ⟨x12, e12, _, wx12⟩ := DataW.trod_int Tryz.underlying3 hy12
  obtain ⟨x13, e13, _, wx13⟩ := DataW.trod_int Tryz.underlying3 hy13
  simp at e10 e11 e12 e13
  subst e10 e11 e12 e13
  clear hA0 hval0
  refine Calls.mono (seekTemplates_any x00 x01 x02 x03 x10 x11 x12 x13 W  (fun e W' => e = .returned (.bool true) ∧ Grow W W') (fun W' hg => ⟨rfl, hg⟩)) fun e W' ⟨he, hB⟩ => ?_
  subst he
  have hlt0 : ∀ x ∈ p0, x.block < W.heap.size := fun x hx => hW'.lt x (List.mem_append_left _ (List.mem_append_left _ (hx)))
  have ht0 := Below.trod Tryz.laidOut (by kernel_rfl) (of_decide_eq_true (by kernel_rfl)) hk0 hB hlt0
  have hlt1 : ∀ x ∈ p1, x.block < W.heap.size := fun x hx => hW'.lt x (List.mem_append_left _ (List.mem_append_right _ hx))
  have ht1 := Below.trod Tryz.laidOut (by kernel_rfl) (of_decide_eq_true (by kernel_rfl)) hk1 hB hlt1
  exact ⟨_, rfl, _, _, _, [], _, [], hW', trodAll_mk1 (shut_bool Tryz.underlying4 true), trodAll_mk2 ht0 ht1, rfl, hB.frame _, fun h => by cases h⟩

theorem seekTemplates_holds : Rows.SeekTemplatesSaid :=
  OpenClaim.holds_of_wide 10 Tryz.f10 rfl rfl rfl rfl rfl rfl rfl ⟨rfl, rfl, rfl, rfl, rfl⟩ rfl rfl rfl rfl rfl (by kernel_rfl) Tryz.func10 (by kernel_rfl)
    (of_decide_eq_true (by kernel_rfl)) (by unfold Func.isWrapper; first | (rw [if_pos (by decide +kernel)]; kernel_rfl) | (rw [if_neg (by decide +kernel)]; exact ⟨rfl, rfl⟩))
    (fun os started H enc _ => seekTemplates_lifted os started H enc)

end Go.Proofs.YtbccbokjecdaaaaGreat
