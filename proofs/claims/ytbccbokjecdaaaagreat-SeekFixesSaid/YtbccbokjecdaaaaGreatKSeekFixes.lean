/-
The statement SeekFixes: the lines of the single repairs at a place are what the document says, and each of them is good, for all programs, tests, places and kinds. No condition.
-/
import Derived.Test.YtbccbokjecdaaaaGreatB22
import Derived.Test.YtbccbokjecdaaaaGreatB31
import Derived.Test.YtbccbokjecdaaaaGreatB32
import Derived.BigGuard
import Derived.ProofKit
import Derived.Lib.SmallJoins
import Derived.Test.YtbccbokjecdaaaaGreatB34
namespace Go.Proofs.YtbccbokjecdaaaaGreat
open Go.RowKit

set_option maxRecDepth 100000 in
set_option maxHeartbeats 16000000 in
theorem seekFixes_any (p : List Ln) (l : List Tst) (x0 x1 : Int) (w : World) (vp vl : Value) (hp : LinesAt w vp p) (hl : TestsAt w vl l) (R : Ending → World → Prop) (hR : ∀ w', Grow w w' → R (.returned (.bool true)) w') :
    Calls Tryz.prog 6 #[vp, vl, .agg #[.int .i64 x0, .int .i64 x1]] w R := by
  have HR := Lib.hid hR
  have HP_ := Lib.hid hp
  obtain ⟨adp, cpp, rfl, qp1, qp2, _⟩ := hp
  have HL_ := Lib.hid hl
  obtain ⟨⟨adl, cpl, rfl, ql1, ql2, _⟩, _⟩ := hl
  clear hR
  by_cases gd0 : 100 < p.length
  · have hd0 : decide (100 < p.length) = true := decide_eq_true gd0
    have HD0 := Lib.hid hd0
    clear hd0 gd0
    go_enter Tryz.func6, Tryz.ntmps6
    go_wp2_with fail
    obtain ⟨wb0, hwb0⟩ : ∃ W, w.alloc (.cells #[.int .i64 x0, .int .i64 x1] 52) = W := ⟨_, rfl⟩
    rw [hwb0]
    have hgb0 : Grow w wb0 := hwb0 ▸ (Grow.refl w).alloc _
    have hsz0 : wb0.heap.size = w.heap.size + 1 := by rw [← hwb0, World.size_alloc]
    have hbb0 : wb0.heap[w.heap.size]? = some (.cells #[.int .i64 x0, .int .i64 x1] 52 (0, 0)) := by have h := heap_alloc_new w (.cells #[.int .i64 x0, .int .i64 x1] 52); rw [hwb0] at h; exact h
    clear hwb0
    have hgr1 : Grow w wb0 := by first | exact hgb0 | exact Grow.trans ((Grow.refl _).alloc _) hgb0 | exact Grow.trans (((Grow.refl _).alloc _).alloc _) hgb0 | exact Grow.trans ((((Grow.refl _).alloc _).alloc _).alloc _) hgb0 | exact Grow.trans (((((Grow.refl _).alloc _).alloc _).alloc _).alloc _) hgb0 | exact Grow.trans ((Grow.refl _).drewN _) hgb0
    have HP_1 := Lib.hid (HP_.out.grow hgr1)
    have HL_1 := Lib.hid (HL_.out.grow hgr1)
    have GCH1 := Lib.hid hgr1
    clear hgb0 hgr1 HP_ HL_
    obtain ⟨ex0, ex1⟩ := box2 hbb0
    have zx := lt_of_block hbb0
    have HBB0 := Lib.hid hbb0
    clear hbb0
    clear hsz0
    refine long4_any p _ _ (by first | exact HP_1.out | exact HP_1.out.grow ((Grow.refl _).alloc _) | exact HP_1.out.grow (((Grow.refl _).alloc _).alloc _) | exact HP_1.out.grow ((((Grow.refl _).alloc _).alloc _).alloc _) | exact HP_1.out.grow (((((Grow.refl _).alloc _).alloc _).alloc _).alloc _) | exact HP_1.out.grow ((Grow.refl _).drewN _)) _ ?_
    rw [HD0.out]
    go_wp2_with fail
    refine ssame_any _ _ ?_
    intro wz2 hg2 
    have hgr2 : Grow wb0 wz2 := by first | exact hg2 | exact Grow.trans ((Grow.refl _).alloc _) hg2 | exact Grow.trans (((Grow.refl _).alloc _).alloc _) hg2 | exact Grow.trans ((((Grow.refl _).alloc _).alloc _).alloc _) hg2 | exact Grow.trans (((((Grow.refl _).alloc _).alloc _).alloc _).alloc _) hg2 | exact Grow.trans ((Grow.refl _).drewN _) hg2
    have HP_2 := Lib.hid (HP_1.out.grow hgr2)
    have HL_2 := Lib.hid (HL_1.out.grow hgr2)
    have GCH2 := Lib.hid (GCH1.out.trans hgr2)
    have hbx_2 := hgr2.blk HBB0.out
    clear ex0 ex1 zx
    obtain ⟨ex0, ex1⟩ := box2 hbx_2
    have zx := lt_of_block hbx_2
    have HBX0_2 := Lib.hid hbx_2
    clear hbx_2
    clear hg2 hgr2 HP_1 HL_1 GCH1 HBB0
    go_wp2_with fail
    first | exact HR.out _ (GCH2.out) | exact HR.out _ (Grow.trans GCH2.out ((Grow.refl _).alloc _)) | exact HR.out _ (Grow.trans GCH2.out (((Grow.refl _).alloc _).alloc _)) | exact HR.out _ (Grow.trans GCH2.out ((((Grow.refl _).alloc _).alloc _).alloc _)) | exact HR.out _ (Grow.trans GCH2.out (((((Grow.refl _).alloc _).alloc _).alloc _).alloc _)) | exact HR.out _ (Grow.trans GCH2.out ((Grow.refl _).drewN _))
  · have hd0 : decide (100 < p.length) = false := decide_eq_false gd0
    have HD0 := Lib.hid hd0
    clear hd0
    obtain ⟨mb, hmb⟩ : ∃ z, manyB l = z := ⟨_, rfl⟩
    have HMB := Lib.hid hmb
    clear hmb
    cases mb with
    | true =>
      go_enter Tryz.func6, Tryz.ntmps6
      go_wp2_with fail
      obtain ⟨wb0, hwb0⟩ : ∃ W, w.alloc (.cells #[.int .i64 x0, .int .i64 x1] 52) = W := ⟨_, rfl⟩
      rw [hwb0]
      have hgb0 : Grow w wb0 := hwb0 ▸ (Grow.refl w).alloc _
      have hsz0 : wb0.heap.size = w.heap.size + 1 := by rw [← hwb0, World.size_alloc]
      have hbb0 : wb0.heap[w.heap.size]? = some (.cells #[.int .i64 x0, .int .i64 x1] 52 (0, 0)) := by have h := heap_alloc_new w (.cells #[.int .i64 x0, .int .i64 x1] 52); rw [hwb0] at h; exact h
      clear hwb0
      have hgr1 : Grow w wb0 := by first | exact hgb0 | exact Grow.trans ((Grow.refl _).alloc _) hgb0 | exact Grow.trans (((Grow.refl _).alloc _).alloc _) hgb0 | exact Grow.trans ((((Grow.refl _).alloc _).alloc _).alloc _) hgb0 | exact Grow.trans (((((Grow.refl _).alloc _).alloc _).alloc _).alloc _) hgb0 | exact Grow.trans ((Grow.refl _).drewN _) hgb0
      have HP_1 := Lib.hid (HP_.out.grow hgr1)
      have HL_1 := Lib.hid (HL_.out.grow hgr1)
      have GCH1 := Lib.hid hgr1
      clear hgb0 hgr1 HP_ HL_
      obtain ⟨ex0, ex1⟩ := box2 hbb0
      have zx := lt_of_block hbb0
      have HBB0 := Lib.hid hbb0
      clear hbb0
      clear hsz0
      refine long4_any p _ _ (by first | exact HP_1.out | exact HP_1.out.grow ((Grow.refl _).alloc _) | exact HP_1.out.grow (((Grow.refl _).alloc _).alloc _) | exact HP_1.out.grow ((((Grow.refl _).alloc _).alloc _).alloc _) | exact HP_1.out.grow (((((Grow.refl _).alloc _).alloc _).alloc _).alloc _) | exact HP_1.out.grow ((Grow.refl _).drewN _)) _ ?_
      rw [HD0.out]
      go_wp2_with fail
      refine many_any l _ _ (by first | exact HL_1.out | exact HL_1.out.grow ((Grow.refl _).alloc _) | exact HL_1.out.grow (((Grow.refl _).alloc _).alloc _) | exact HL_1.out.grow ((((Grow.refl _).alloc _).alloc _).alloc _) | exact HL_1.out.grow (((((Grow.refl _).alloc _).alloc _).alloc _).alloc _) | exact HL_1.out.grow ((Grow.refl _).drewN _)) _ ?_
      intro wz2 hg2 
      have hgr2 : Grow wb0 wz2 := by first | exact hg2 | exact Grow.trans ((Grow.refl _).alloc _) hg2 | exact Grow.trans (((Grow.refl _).alloc _).alloc _) hg2 | exact Grow.trans ((((Grow.refl _).alloc _).alloc _).alloc _) hg2 | exact Grow.trans (((((Grow.refl _).alloc _).alloc _).alloc _).alloc _) hg2 | exact Grow.trans ((Grow.refl _).drewN _) hg2
      have HP_2 := Lib.hid (HP_1.out.grow hgr2)
      have HL_2 := Lib.hid (HL_1.out.grow hgr2)
      have GCH2 := Lib.hid (GCH1.out.trans hgr2)
      have hbx_2 := hgr2.blk HBB0.out
      clear ex0 ex1 zx
      obtain ⟨ex0, ex1⟩ := box2 hbx_2
      have zx := lt_of_block hbx_2
      have HBX0_2 := Lib.hid hbx_2
      clear hbx_2
      clear hg2 hgr2 HP_1 HL_1 GCH1 HBB0
      rw [HMB.out]
      go_wp2_with fail
      refine ssame_any _ _ ?_
      intro wz3 hg3 
      have hgr3 : Grow wz2 wz3 := by first | exact hg3 | exact Grow.trans ((Grow.refl _).alloc _) hg3 | exact Grow.trans (((Grow.refl _).alloc _).alloc _) hg3 | exact Grow.trans ((((Grow.refl _).alloc _).alloc _).alloc _) hg3 | exact Grow.trans (((((Grow.refl _).alloc _).alloc _).alloc _).alloc _) hg3 | exact Grow.trans ((Grow.refl _).drewN _) hg3
      have HP_3 := Lib.hid (HP_2.out.grow hgr3)
      have HL_3 := Lib.hid (HL_2.out.grow hgr3)
      have GCH3 := Lib.hid (GCH2.out.trans hgr3)
      have hbx_3 := hgr3.blk HBX0_2.out
      clear ex0 ex1 zx
      obtain ⟨ex0, ex1⟩ := box2 hbx_3
      have zx := lt_of_block hbx_3
      have HBX0_3 := Lib.hid hbx_3
      clear hbx_3
      clear hg3 hgr3 HP_2 HL_2 GCH2 HBX0_2
      go_wp2_with fail
      first | exact HR.out _ (GCH3.out) | exact HR.out _ (Grow.trans GCH3.out ((Grow.refl _).alloc _)) | exact HR.out _ (Grow.trans GCH3.out (((Grow.refl _).alloc _).alloc _)) | exact HR.out _ (Grow.trans GCH3.out ((((Grow.refl _).alloc _).alloc _).alloc _)) | exact HR.out _ (Grow.trans GCH3.out (((((Grow.refl _).alloc _).alloc _).alloc _).alloc _)) | exact HR.out _ (Grow.trans GCH3.out ((Grow.refl _).drewN _))
    | false =>
      have hlA := fixO_len p l x0 x1
      have hgd := fun y (h : y ∈ fixO p l x0 x1) => fixO_good h
      obtain ⟨e, he⟩ : ∃ z, fixErr p l x0 x1 = z := ⟨_, rfl⟩
      obtain ⟨A, hA⟩ : ∃ z, fixO p l x0 x1 = z := ⟨_, rfl⟩
      rw [hA] at hlA hgd
      have HE := Lib.hid he
      have HAA := Lib.hid hA
      have HGD := Lib.hid hgd
      clear he hA hgd
      have t2 : (e != e) = false := by simp
      go_enter Tryz.func6, Tryz.ntmps6
      go_wp2_with fail
      obtain ⟨wb0, hwb0⟩ : ∃ W, w.alloc (.cells #[.int .i64 x0, .int .i64 x1] 52) = W := ⟨_, rfl⟩
      rw [hwb0]
      have hgb0 : Grow w wb0 := hwb0 ▸ (Grow.refl w).alloc _
      have hsz0 : wb0.heap.size = w.heap.size + 1 := by rw [← hwb0, World.size_alloc]
      have hbb0 : wb0.heap[w.heap.size]? = some (.cells #[.int .i64 x0, .int .i64 x1] 52 (0, 0)) := by have h := heap_alloc_new w (.cells #[.int .i64 x0, .int .i64 x1] 52); rw [hwb0] at h; exact h
      clear hwb0
      have hgr1 : Grow w wb0 := by first | exact hgb0 | exact Grow.trans ((Grow.refl _).alloc _) hgb0 | exact Grow.trans (((Grow.refl _).alloc _).alloc _) hgb0 | exact Grow.trans ((((Grow.refl _).alloc _).alloc _).alloc _) hgb0 | exact Grow.trans (((((Grow.refl _).alloc _).alloc _).alloc _).alloc _) hgb0 | exact Grow.trans ((Grow.refl _).drewN _) hgb0
      have HP_1 := Lib.hid (HP_.out.grow hgr1)
      have HL_1 := Lib.hid (HL_.out.grow hgr1)
      have GCH1 := Lib.hid hgr1
      clear hgb0 hgr1 HP_ HL_
      obtain ⟨ex0, ex1⟩ := box2 hbb0
      have zx := lt_of_block hbb0
      have HBB0 := Lib.hid hbb0
      clear hbb0
      clear hsz0
      refine long4_any p _ _ (by first | exact HP_1.out | exact HP_1.out.grow ((Grow.refl _).alloc _) | exact HP_1.out.grow (((Grow.refl _).alloc _).alloc _) | exact HP_1.out.grow ((((Grow.refl _).alloc _).alloc _).alloc _) | exact HP_1.out.grow (((((Grow.refl _).alloc _).alloc _).alloc _).alloc _) | exact HP_1.out.grow ((Grow.refl _).drewN _)) _ ?_
      rw [HD0.out]
      go_wp2_with fail
      refine many_any l _ _ (by first | exact HL_1.out | exact HL_1.out.grow ((Grow.refl _).alloc _) | exact HL_1.out.grow (((Grow.refl _).alloc _).alloc _) | exact HL_1.out.grow ((((Grow.refl _).alloc _).alloc _).alloc _) | exact HL_1.out.grow (((((Grow.refl _).alloc _).alloc _).alloc _).alloc _) | exact HL_1.out.grow ((Grow.refl _).drewN _)) _ ?_
      intro wz2 hg2 
      have hgr2 : Grow wb0 wz2 := by first | exact hg2 | exact Grow.trans ((Grow.refl _).alloc _) hg2 | exact Grow.trans (((Grow.refl _).alloc _).alloc _) hg2 | exact Grow.trans ((((Grow.refl _).alloc _).alloc _).alloc _) hg2 | exact Grow.trans (((((Grow.refl _).alloc _).alloc _).alloc _).alloc _) hg2 | exact Grow.trans ((Grow.refl _).drewN _) hg2
      have HP_2 := Lib.hid (HP_1.out.grow hgr2)
      have HL_2 := Lib.hid (HL_1.out.grow hgr2)
      have GCH2 := Lib.hid (GCH1.out.trans hgr2)
      have hbx_2 := hgr2.blk HBB0.out
      clear ex0 ex1 zx
      obtain ⟨ex0, ex1⟩ := box2 hbx_2
      have zx := lt_of_block hbx_2
      have HBX0_2 := Lib.hid hbx_2
      clear hbx_2
      clear hg2 hgr2 HP_1 HL_1 GCH1 HBB0
      rw [HMB.out]
      go_wp2_with fail
      refine Fixes_any p l x0 x1 _ _ _ (by first | exact HP_2.out | exact HP_2.out.grow ((Grow.refl _).alloc _) | exact HP_2.out.grow (((Grow.refl _).alloc _).alloc _) | exact HP_2.out.grow ((((Grow.refl _).alloc _).alloc _).alloc _) | exact HP_2.out.grow (((((Grow.refl _).alloc _).alloc _).alloc _).alloc _) | exact HP_2.out.grow ((Grow.refl _).drewN _)) (by first | exact HL_2.out | exact HL_2.out.grow ((Grow.refl _).alloc _) | exact HL_2.out.grow (((Grow.refl _).alloc _).alloc _) | exact HL_2.out.grow ((((Grow.refl _).alloc _).alloc _).alloc _) | exact HL_2.out.grow (((((Grow.refl _).alloc _).alloc _).alloc _).alloc _) | exact HL_2.out.grow ((Grow.refl _).drewN _)) _ ?_
      intro wz3 x3_0 hg3 hx3_0
      have hgr3 : Grow wz2 wz3 := by first | exact hg3 | exact Grow.trans ((Grow.refl _).alloc _) hg3 | exact Grow.trans (((Grow.refl _).alloc _).alloc _) hg3 | exact Grow.trans ((((Grow.refl _).alloc _).alloc _).alloc _) hg3 | exact Grow.trans (((((Grow.refl _).alloc _).alloc _).alloc _).alloc _) hg3 | exact Grow.trans ((Grow.refl _).drewN _) hg3
      have HP_3 := Lib.hid (HP_2.out.grow hgr3)
      have HL_3 := Lib.hid (HL_2.out.grow hgr3)
      have GCH3 := Lib.hid (GCH2.out.trans hgr3)
      have hbx_3 := hgr3.blk HBX0_2.out
      clear ex0 ex1 zx
      obtain ⟨ex0, ex1⟩ := box2 hbx_3
      have zx := lt_of_block hbx_3
      have HBX0_3 := Lib.hid hbx_3
      clear hbx_3
      clear hg3 hgr3 HP_2 HL_2 GCH2 HBX0_2
      rw [HAA.out] at hx3_0
      have hyHXA_3 := hx3_0
      have HXA_3 := Lib.hid hyHXA_3
      obtain ⟨aHXA_3, cHXA_3, rfl, qHXA_31, qHXA_32, _⟩ := hyHXA_3
      clear hx3_0
      rw [HE.out]
      go_wp2_with fail
      refine r5Fixes_any p l x0 x1 _ _ _ (by first | exact HP_3.out | exact HP_3.out.grow ((Grow.refl _).alloc _) | exact HP_3.out.grow (((Grow.refl _).alloc _).alloc _) | exact HP_3.out.grow ((((Grow.refl _).alloc _).alloc _).alloc _) | exact HP_3.out.grow (((((Grow.refl _).alloc _).alloc _).alloc _).alloc _) | exact HP_3.out.grow ((Grow.refl _).drewN _)) (by first | exact HL_3.out | exact HL_3.out.grow ((Grow.refl _).alloc _) | exact HL_3.out.grow (((Grow.refl _).alloc _).alloc _) | exact HL_3.out.grow ((((Grow.refl _).alloc _).alloc _).alloc _) | exact HL_3.out.grow (((((Grow.refl _).alloc _).alloc _).alloc _).alloc _) | exact HL_3.out.grow ((Grow.refl _).drewN _)) _ ?_
      intro wz4 x4_0 hg4 hx4_0
      have hgr4 : Grow wz3 wz4 := by first | exact hg4 | exact Grow.trans ((Grow.refl _).alloc _) hg4 | exact Grow.trans (((Grow.refl _).alloc _).alloc _) hg4 | exact Grow.trans ((((Grow.refl _).alloc _).alloc _).alloc _) hg4 | exact Grow.trans (((((Grow.refl _).alloc _).alloc _).alloc _).alloc _) hg4 | exact Grow.trans ((Grow.refl _).drewN _) hg4
      have HP_4 := Lib.hid (HP_3.out.grow hgr4)
      have HL_4 := Lib.hid (HL_3.out.grow hgr4)
      have HXA_4 := Lib.hid (HXA_3.out.grow hgr4)
      have GCH4 := Lib.hid (GCH3.out.trans hgr4)
      have hbx_4 := hgr4.blk HBX0_3.out
      clear ex0 ex1 zx
      obtain ⟨ex0, ex1⟩ := box2 hbx_4
      have zx := lt_of_block hbx_4
      have HBX0_4 := Lib.hid hbx_4
      clear hbx_4
      clear hg4 hgr4 HP_3 HL_3 HXA_3 GCH3 HBX0_3
      rw [HAA.out] at hx4_0
      have hyHXB_4 := hx4_0
      have HXB_4 := Lib.hid hyHXB_4
      obtain ⟨aHXB_4, cHXB_4, rfl, qHXB_41, qHXB_42, _⟩ := hyHXB_4
      clear hx4_0
      rw [HE.out]
      go_wp2_with fail
      refine rsame4_any A A _ _ _ (by first | exact HXA_4.out | exact HXA_4.out.grow ((Grow.refl _).alloc _) | exact HXA_4.out.grow (((Grow.refl _).alloc _).alloc _) | exact HXA_4.out.grow ((((Grow.refl _).alloc _).alloc _).alloc _) | exact HXA_4.out.grow (((((Grow.refl _).alloc _).alloc _).alloc _).alloc _) | exact HXA_4.out.grow ((Grow.refl _).drewN _)) (by first | exact HXB_4.out | exact HXB_4.out.grow ((Grow.refl _).alloc _) | exact HXB_4.out.grow (((Grow.refl _).alloc _).alloc _) | exact HXB_4.out.grow ((((Grow.refl _).alloc _).alloc _).alloc _) | exact HXB_4.out.grow (((((Grow.refl _).alloc _).alloc _).alloc _).alloc _) | exact HXB_4.out.grow ((Grow.refl _).drewN _)) _ ?_
      intro wz5 hg5 
      have hgr5 : Grow wz4 wz5 := by first | exact hg5 | exact Grow.trans ((Grow.refl _).alloc _) hg5 | exact Grow.trans (((Grow.refl _).alloc _).alloc _) hg5 | exact Grow.trans ((((Grow.refl _).alloc _).alloc _).alloc _) hg5 | exact Grow.trans (((((Grow.refl _).alloc _).alloc _).alloc _).alloc _) hg5 | exact Grow.trans ((Grow.refl _).drewN _) hg5
      have HP_5 := Lib.hid (HP_4.out.grow hgr5)
      have HL_5 := Lib.hid (HL_4.out.grow hgr5)
      have HXA_5 := Lib.hid (HXA_4.out.grow hgr5)
      have HXB_5 := Lib.hid (HXB_4.out.grow hgr5)
      have GCH5 := Lib.hid (GCH4.out.trans hgr5)
      have hbx_5 := hgr5.blk HBX0_4.out
      clear ex0 ex1 zx
      obtain ⟨ex0, ex1⟩ := box2 hbx_5
      have zx := lt_of_block hbx_5
      have HBX0_5 := Lib.hid hbx_5
      clear hbx_5
      clear hg5 hgr5 HP_4 HL_4 HXA_4 HXB_4 GCH4 HBX0_4
      rw [show decide (A = A) = true from decide_eq_true rfl]
      go_wp2_with fail
      go_loopw [11] (fun ii wr => ∃ i : Nat, i ≤ A.length ∧ i ≤ 40 ∧ ii = .int .i64 i ∧ Grow wz5 wr) (fun ii _ => A.length - (intOf ii).toNat)
      case atStart => exact ⟨0, by omega, by omega, rfl, Grow.refl _⟩
      case round =>
        obtain ⟨i, hi, hi40, rfl, hgr⟩ := hrel
        have HGR := Lib.hid hgr
        have hzr := hgr.sz
        clear hgr
        by_cases hlt : i < A.length
        rotate_left
        · have t3 : ¬ (i : Int) < (A.length : Int) := by omega
          go_wp2_with fail
          have HG0 := Lib.hid (GCH5.out.trans HGR.out)
          refine ssame_any _ _ ?_
          intro wz6 hg6 
          have hgr6 : Grow wr wz6 := by first | exact hg6 | exact Grow.trans ((Grow.refl _).alloc _) hg6 | exact Grow.trans (((Grow.refl _).alloc _).alloc _) hg6 | exact Grow.trans ((((Grow.refl _).alloc _).alloc _).alloc _) hg6 | exact Grow.trans (((((Grow.refl _).alloc _).alloc _).alloc _).alloc _) hg6 | exact Grow.trans ((Grow.refl _).drewN _) hg6
          have GCH6 := Lib.hid (HG0.out.trans hgr6)
          clear hg6 hgr6 HG0
          go_wp2_with fail
          first | exact HR.out _ (GCH6.out) | exact HR.out _ (Grow.trans GCH6.out ((Grow.refl _).alloc _)) | exact HR.out _ (Grow.trans GCH6.out (((Grow.refl _).alloc _).alloc _)) | exact HR.out _ (Grow.trans GCH6.out ((((Grow.refl _).alloc _).alloc _).alloc _)) | exact HR.out _ (Grow.trans GCH6.out (((((Grow.refl _).alloc _).alloc _).alloc _).alloc _)) | exact HR.out _ (Grow.trans GCH6.out ((Grow.refl _).drewN _))
        have hi2 : (i : Int) < (A.length : Int) := by omega
        by_cases hl4 : i < 40
        rotate_left
        · have t3 : ¬ (i : Int) < 40 := by omega
          go_wp2_with fail
          have HG0 := Lib.hid (GCH5.out.trans HGR.out)
          refine ssame_any _ _ ?_
          intro wz6 hg6 
          have hgr6 : Grow wr wz6 := by first | exact hg6 | exact Grow.trans ((Grow.refl _).alloc _) hg6 | exact Grow.trans (((Grow.refl _).alloc _).alloc _) hg6 | exact Grow.trans ((((Grow.refl _).alloc _).alloc _).alloc _) hg6 | exact Grow.trans (((((Grow.refl _).alloc _).alloc _).alloc _).alloc _) hg6 | exact Grow.trans ((Grow.refl _).drewN _) hg6
          have GCH6 := Lib.hid (HG0.out.trans hgr6)
          clear hg6 hgr6 HG0
          go_wp2_with fail
          first | exact HR.out _ (GCH6.out) | exact HR.out _ (Grow.trans GCH6.out ((Grow.refl _).alloc _)) | exact HR.out _ (Grow.trans GCH6.out (((Grow.refl _).alloc _).alloc _)) | exact HR.out _ (Grow.trans GCH6.out ((((Grow.refl _).alloc _).alloc _).alloc _)) | exact HR.out _ (Grow.trans GCH6.out (((((Grow.refl _).alloc _).alloc _).alloc _).alloc _)) | exact HR.out _ (Grow.trans GCH6.out ((Grow.refl _).drewN _))
        have hi4 : (i : Int) < 40 := by omega
        obtain ⟨⟨o1, d1, a1, b1⟩, hx⟩ : ∃ y, A[i]? = some y := ⟨_, List.getElem?_eq_getElem hlt⟩
        obtain ⟨g1, g2⟩ := HGD.out _ (List.mem_of_getElem? hx)
        obtain ⟨ga, oa, rfl, hga, y0, y1, y2, y3⟩ := lines_at (HXA_5.out.grow HGR.out) hx
        have hbx := HGR.out.blk HBX0_5.out
        clear ex0 ex1 zx
        obtain ⟨ex0, ex1⟩ := box2 hbx
        have zx := lt_of_block hbx
        clear hbx
        have HIG := Lib.hid (show (decide (chkX p [⟨x0, ⟨o1, d1, a1, b1⟩⟩] l = 0) && goodM p [⟨x0, ⟨o1, d1, a1, b1⟩⟩] l) = true by rw [g1, g2]; rfl)
        have HG1 := Lib.hid g1
        clear hx g1 g2
        have HLIT := Lib.hid (edits_lit wr.drew x0 o1 d1 a1 b1 27)
        go_wp2_with fail
        refine wp_region_held_drew (S := fun X => X.cell? ⟨w.heap.size, 0, none⟩ = some (.int .i64 x0) ∧ X.cell? ⟨ga, oa + i * 4, none⟩ = some (.int .i64 o1) ∧ X.cell? ⟨ga, oa + i * 4 + 1, none⟩ = some (.int .i64 d1) ∧ X.cell? ⟨ga, oa + i * 4 + 2, none⟩ = some (.int .i64 a1) ∧ X.cell? ⟨ga, oa + i * 4 + 3, none⟩ = some (.int .i64 b1) ∧ Grow wr X) (by kernel_rfl) ⟨ex0, y0, y1, y2, y3, (Grow.refl wr).drew⟩ (fun hH => ?_)
        refine wpAnyH_take (i := 0) (v := .slice adp p.length cpp) rfl (by kernel_rfl) (by kernel_rfl) (by kernel_rfl) (fun _ _ _ h => h) (Or.inl ⟨by rfl, ?_⟩) hH ?_
        · intro w9 hw9
          obtain ⟨v0, v1, v2, v3, v4, vg⟩ := hw9
          go_simp
        simp only [List.getElem_toArray, List.getElem_cons_zero, Act.put, List.setIfInBounds_toArray, List.set_cons_zero, List.set_cons_succ]
        refine wpAnyH_take (i := 1) (v := .pointer (some ⟨w.heap.size, 0, none⟩)) rfl (by kernel_rfl) (by kernel_rfl) (by kernel_rfl) (fun _ _ _ h => h) (Or.inl ⟨by rfl, ?_⟩) hH ?_
        · intro w9 hw9
          obtain ⟨v0, v1, v2, v3, v4, vg⟩ := hw9
          go_simp
        simp only [List.getElem_toArray, List.getElem_cons_succ, List.getElem_cons_zero, Act.put, List.setIfInBounds_toArray, List.set_cons_zero, List.set_cons_succ]
        refine wpAnyH_take (i := 2) (v := .int .i64 x0) rfl (by kernel_rfl) (by kernel_rfl) (by kernel_rfl) (fun _ _ _ h => h) (Or.inl ⟨by rfl, ?_⟩) hH ?_
        · intro w9 hw9
          obtain ⟨v0, v1, v2, v3, v4, vg⟩ := hw9
          go_simp
        simp only [List.getElem_toArray, List.getElem_cons_succ, List.getElem_cons_zero, Act.put, List.setIfInBounds_toArray, List.set_cons_zero, List.set_cons_succ]
        refine wpAnyH_take (i := 3) (v := .slice (some ⟨ga, oa, none⟩) A.length cHXA_3) rfl (by kernel_rfl) (by kernel_rfl) (by kernel_rfl) (fun _ _ _ h => h) (Or.inl ⟨by rfl, ?_⟩) hH ?_
        · intro w9 hw9
          obtain ⟨v0, v1, v2, v3, v4, vg⟩ := hw9
          go_simp
        simp only [List.getElem_toArray, List.getElem_cons_succ, List.getElem_cons_zero, Act.put, List.setIfInBounds_toArray, List.set_cons_zero, List.set_cons_succ]
        refine wpAnyH_take (i := 4) (v := .int .i64 i) rfl (by kernel_rfl) (by kernel_rfl) (by kernel_rfl) (fun _ _ _ h => h) (Or.inl ⟨by rfl, ?_⟩) hH ?_
        · intro w9 hw9
          obtain ⟨v0, v1, v2, v3, v4, vg⟩ := hw9
          go_simp
        simp only [List.getElem_toArray, List.getElem_cons_succ, List.getElem_cons_zero, Act.put, List.setIfInBounds_toArray, List.set_cons_zero, List.set_cons_succ]
        refine wpAnyH_take (i := 5) (v := .pointer (some ⟨ga, oa + i * 4, none⟩)) rfl (by kernel_rfl) (by kernel_rfl) (by kernel_rfl) (fun _ _ _ h => h) (Or.inl ⟨by rfl, ?_⟩) hH ?_
        · intro w9 hw9
          obtain ⟨v0, v1, v2, v3, v4, vg⟩ := hw9
          go_simp
        simp only [List.getElem_toArray, List.getElem_cons_succ, List.getElem_cons_zero, Act.put, List.setIfInBounds_toArray, List.set_cons_zero, List.set_cons_succ]
        refine wpAnyH_take (i := 6) (v := .agg #[.int .i64 o1, .int .i64 d1, .int .i64 a1, .int .i64 b1]) rfl (by kernel_rfl) (by kernel_rfl) (by kernel_rfl) (fun _ _ _ h => h) (Or.inl ⟨by rfl, ?_⟩) hH ?_
        · intro w9 hw9
          obtain ⟨v0, v1, v2, v3, v4, vg⟩ := hw9
          go_simp
        simp only [List.getElem_toArray, List.getElem_cons_succ, List.getElem_cons_zero, Act.put, List.setIfInBounds_toArray, List.set_cons_zero, List.set_cons_succ]
        refine wpAnyH_take (i := 7) (v := .agg #[.int .i64 x0, .int .i64 o1, .int .i64 d1, .int .i64 a1, .int .i64 b1]) rfl (by kernel_rfl) (by kernel_rfl) (by kernel_rfl) (fun _ _ _ h => h) (Or.inl ⟨by rfl, ?_⟩) hH ?_
        · intro w9 hw9
          obtain ⟨v0, v1, v2, v3, v4, vg⟩ := hw9
          go_simp
        simp only [List.getElem_toArray, List.getElem_cons_succ, List.getElem_cons_zero, Act.put, List.setIfInBounds_toArray, List.set_cons_zero, List.set_cons_succ]
        refine wpAnyH_take (i := 9) (v := .slice adl l.length cpl) rfl (by kernel_rfl) (by kernel_rfl) (by kernel_rfl) (fun _ _ _ h => h) (Or.inl ⟨by rfl, ?_⟩) hH ?_
        · intro w9 hw9
          obtain ⟨v0, v1, v2, v3, v4, vg⟩ := hw9
          go_simp
        simp only [List.getElem_toArray, List.getElem_cons_succ, List.getElem_cons_zero, Act.put, List.setIfInBounds_toArray, List.set_cons_zero, List.set_cons_succ]
        refine wpAnyH_ready (rs := [8]) (by kernel_rfl) (by simp) ?_
        refine AllReadyH.cons rfl (fun K hK => ?_) AllReadyH.nil
        go_simp
        refine hK.out _ _ (keep5 ((Grow.refl wr.drew).alloc (.cells #[.int .i64 x0, .int .i64 o1, .int .i64 d1, .int .i64 a1, .int .i64 b1] 27)) hH) (fun hH2 => ?_)
        clear hK K hH
        have hH := hH2
        clear hH2
        refine wpAnyH_ready (rs := [10]) (by kernel_rfl) (by simp) ?_
        refine AllReadyH.cons rfl (fun K hK => ?_) AllReadyH.nil
        go_simp
        refine IsGood_any p [⟨x0, ⟨o1, d1, a1, b1⟩⟩] l _ _ _ _ (HP_5.out.grow (HGR.out.trans hH.2.2.2.2.2)) HLIT.out (HL_5.out.grow (HGR.out.trans hH.2.2.2.2.2)) _ ?_
        intro w9 hg9
        rw [HIG.out, HG1.out]
        go_wp2_with fail
        refine hK.out _ _ (keep5 hg9 hH) (fun hH2 => ?_)
        have HG9 := Lib.hid (HGR.out.trans hH2.2.2.2.2.2)
        clear hK K hH
        have hH := hH2
        clear hH2
        refine wpAnyH_take (i := 11) (v := .tuple #[.bool true, .int .i64 0]) rfl (by kernel_rfl) (by kernel_rfl) (by kernel_rfl) (fun _ _ _ h => h) (Or.inl ⟨by rfl, ?_⟩) hH ?_
        · intro w9 hw9
          obtain ⟨v0, v1, v2, v3, v4, vg⟩ := hw9
          go_simp
        simp only [List.getElem_toArray, List.getElem_cons_succ, List.getElem_cons_zero, Act.put, List.setIfInBounds_toArray, List.set_cons_zero, List.set_cons_succ]
        refine wpAnyH_take (i := 12) (v := .bool true) rfl (by kernel_rfl) (by kernel_rfl) (by kernel_rfl) (fun _ _ _ h => h) (Or.inl ⟨by rfl, ?_⟩) hH ?_
        · intro w9 hw9
          obtain ⟨v0, v1, v2, v3, v4, vg⟩ := hw9
          go_simp
        simp only [List.getElem_toArray, List.getElem_cons_succ, List.getElem_cons_zero, Act.put, List.setIfInBounds_toArray, List.set_cons_zero, List.set_cons_succ]
        refine wpAnyH_take (i := 13) (v := .int .i64 0) rfl (by kernel_rfl) (by kernel_rfl) (by kernel_rfl) (fun _ _ _ h => h) (Or.inl ⟨by rfl, ?_⟩) hH ?_
        · intro w9 hw9
          obtain ⟨v0, v1, v2, v3, v4, vg⟩ := hw9
          go_simp
        simp only [List.getElem_toArray, List.getElem_cons_succ, List.getElem_cons_zero, Act.put, List.setIfInBounds_toArray, List.set_cons_zero, List.set_cons_succ]
        refine wpAnyH_take (i := 14) (v := .bool true) rfl (by kernel_rfl) (by kernel_rfl) (by kernel_rfl) (fun _ _ _ h => h) (Or.inl ⟨by rfl, ?_⟩) hH ?_
        · intro w9 hw9
          obtain ⟨v0, v1, v2, v3, v4, vg⟩ := hw9
          go_simp
        simp only [List.getElem_toArray, List.getElem_cons_succ, List.getElem_cons_zero, Act.put, List.setIfInBounds_toArray, List.set_cons_zero, List.set_cons_succ]
        refine wpAnyH_take (i := 15) (v := .int .i64 0) rfl (by kernel_rfl) (by kernel_rfl) (by kernel_rfl) (fun _ _ _ h => h) (Or.inl ⟨by rfl, ?_⟩) hH ?_
        · intro w9 hw9
          obtain ⟨v0, v1, v2, v3, v4, vg⟩ := hw9
          go_simp
        simp only [List.getElem_toArray, List.getElem_cons_succ, List.getElem_cons_zero, Act.put, List.setIfInBounds_toArray, List.set_cons_zero, List.set_cons_succ]
        refine wpAnyH_done (by kernel_rfl) ?_ _
        clear hH
        go_wp2_with fail
        go_roundw
        case rel => exact ⟨i + 1, by omega, by omega, by go_num, HG9.out⟩
        case measure => simp [intOf]; omega
end Go.Proofs.YtbccbokjecdaaaaGreat

namespace Go.Proofs.YtbccbokjecdaaaaGreat
open Go.ChangeShapes Go.WideShapes Go.ChangeAt Go.RowKit

theorem Tryz.own : ownKnob Tryz.prog.godebug = none := by kernel_rfl
theorem Tryz.laidOut : laidOutB Tryz.prog = true := by kernel_rfl

set_option maxRecDepth 100000 in
set_option maxHeartbeats 4000000 in
theorem seekFixes_lifted (os : Os) (started : os.Started) (H : Type) (enc : TypeId × Value → H) :
    ReturnsInHanded {} Tryz.checked os 6 .any (Rows.seekFixesSpec.pre6 enc Tryz.prog Tryz.f6 Rows.seekFixesRow.domain false) (Rows.seekFixesSpec.post enc Tryz.prog Tryz.f6 false true false false) := by
  refine returnsInHanded_of_change (C := Tryz.checked) Tryz.own started (by kernel_rfl) Tryz.func6
    (ChangeSpec.witness6 (enc := enc) (C := Tryz.checked) false ⟨#[], #[.slice none 0 0, .slice none 0 0, .agg #[.int .i64 0, .int .i64 0]], []⟩ 8 (by kernel_rfl) (by kernel_rfl) (by kernel_rfl) (by kernel_rfl)) ?_
  intro W base args ds gs before hval0 hW hcnd _
  have hval : ∀ (j : Nat) t v, Tryz.f6.params[j]? = some t → args[j]? = some v → Value.okWide Tryz.prog W .any base t v := hval0
  have hW' := hW
  obtain ⟨p, q, hA0, hV, rfl, hfz, hnd⟩ := hW
  have hA : DataW.TrodAll enc Tryz.prog W 0 (fun _ => true) true Tryz.f6.params.toList args.toList ds p := hA0
  rw [Tryz.params6] at hA hval
  obtain ⟨v0, v1, v2, d0, d1, d2, p0, p1, p2, rfl, rfl, rfl, h0, h1, h2⟩ := trodAll_three hA
  obtain ⟨rfl, rfl⟩ := trodVars_none hV
  have hk0 := h0
  have hk1 := h1
  have hk2 := h2
  obtain ⟨x0, hx0⟩ := arg_lines (hval 0 22 v0 rfl rfl) h0
  obtain ⟨x1, hx1⟩ := arg_tests (hval 1 23 v1 rfl rfl) h1
  obtain ⟨c20, c21, y20, y21, m2, rfl, _, _, hy20, hy21⟩ := Go.Joins.open_agg2 Tryz.underlying52 (by kernel_rfl) (by kernel_rfl) (hval 2 52 v2 rfl rfl) h2
  obtain ⟨x20, e20, _, wx20⟩ := DataW.trod_int Tryz.underlying3 hy20
  obtain ⟨x21, e21, _, wx21⟩ := DataW.trod_int Tryz.underlying3 hy21
  simp at e20 e21
  subst e20 e21
  clear hA0 hval0
  refine Calls.mono (seekFixes_any x0 x1 x20 x21 W v0 v1 hx0 hx1 (fun e W' => e = .returned (.bool true) ∧ Grow W W') (fun W' hg => ⟨rfl, hg⟩)) fun e W' ⟨he, hB⟩ => ?_
  subst he
  have hlt0 : ∀ x ∈ p0, x.block < W.heap.size := fun x hx => hW'.lt x (List.mem_append_left _ (List.mem_append_left _ (List.mem_append_left _ (hx))))
  have ht0 := Below.trod Tryz.laidOut (by kernel_rfl) (of_decide_eq_true (by kernel_rfl)) hk0 hB hlt0
  have hlt1 : ∀ x ∈ p1, x.block < W.heap.size := fun x hx => hW'.lt x (List.mem_append_left _ (List.mem_append_left _ (List.mem_append_right _ hx)))
  have ht1 := Below.trod Tryz.laidOut (by kernel_rfl) (of_decide_eq_true (by kernel_rfl)) hk1 hB hlt1
  have hlt2 : ∀ x ∈ p2, x.block < W.heap.size := fun x hx => hW'.lt x (List.mem_append_left _ (List.mem_append_right _ hx))
  have ht2 := Below.trod Tryz.laidOut (by kernel_rfl) (of_decide_eq_true (by kernel_rfl)) hk2 hB hlt2
  exact ⟨_, rfl, _, _, _, [], _, [], hW', trodAll_mk1 (shut_bool Tryz.underlying4 true), trodAll_mk3 ht0 ht1 ht2, rfl, hB.frame _, fun h => by cases h⟩

theorem seekFixes_holds : Rows.SeekFixesSaid :=
  OpenClaim.holds_of_wide 6 Tryz.f6 rfl rfl rfl rfl rfl rfl rfl ⟨rfl, rfl, rfl, rfl, rfl⟩ rfl rfl rfl rfl rfl (by kernel_rfl) Tryz.func6 (by kernel_rfl)
    (of_decide_eq_true (by kernel_rfl)) (by unfold Func.isWrapper; first | (rw [if_pos (by decide +kernel)]; kernel_rfl) | (rw [if_neg (by decide +kernel)]; exact ⟨rfl, rfl⟩))
    (fun os started H enc _ => seekFixes_lifted os started H enc)

end Go.Proofs.YtbccbokjecdaaaaGreat
