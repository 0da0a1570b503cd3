/-
The statement BlamePasses: by which numbers lines pass a test is what the document says, for all programs, tests and lists. No condition.
-/
import Derived.Test.YtmlbgfnddgbpbaaGreatD19
import Derived.Test.YtmlbgfnddgbpbaaGreatD26
import Derived.Test.YtmlbgfnddgbpbaaGreatD23
import Derived.ProofKit
import Derived.Lib.SmallJoins
namespace Go.Proofs.YtmlbgfnddgbpbaaGreat
open Go.RowKit
open Mk Bm

set_option maxRecDepth 100000 in
set_option maxHeartbeats 16000000 in
theorem blamePasses_any (p : List Ln) (ux : List Int) (uo uw : Int) (xl xv : List Int) (w : World) (vp vux vxl vxv : Value) (hp : LinesAt w vp p) (hux : IntsAt w vux ux) (hxl : IntsAt w vxl xl) (hxv : IntsAt w vxv xv) (R : Ending → World → Prop) (hR : ∀ w', Grow w w' → R (.returned (.bool true)) w') :
    Calls Tryz.prog 6 #[vp, .agg #[vux, .int .i64 uo, .int .i64 uw], .agg #[vxl, vxv]] w R := by
  have HR := Lib.hid hR
  have HP_ := Lib.hid hp
  obtain ⟨adp, cpp, rfl, qp1, qp2, _⟩ := hp
  have HUX_ := Lib.hid hux
  obtain ⟨adux, cpux, rfl, qux1, qux2, _⟩ := hux
  have HXL_ := Lib.hid hxl
  obtain ⟨adxl, cpxl, rfl, qxl1, qxl2, _⟩ := hxl
  have HXV_ := Lib.hid hxv
  obtain ⟨adxv, cpxv, rfl, qxv1, qxv2, _⟩ := hxv
  clear hR
  obtain ⟨gq0, hgq0⟩ : ∃ z, decide (100 < p.length) = z := ⟨_, rfl⟩
  have HGD0 := Lib.hid hgq0
  clear hgq0
  cases gq0 with
  | true =>
    go_enter Tryz.func6, Tryz.ntmps6
    go_wp2_with fail
    obtain ⟨wb0, hwb0⟩ : ∃ W, w.alloc (.cells #[.slice adux ux.length cpux, .int .i64 uo, .int .i64 uw] 37) = W := ⟨_, rfl⟩
    rw [hwb0]
    have hgb0 : Grow w wb0 := hwb0 ▸ (Grow.refl w).alloc _
    have hsz0 : wb0.heap.size = w.heap.size + 1 := by rw [← hwb0, World.size_alloc]
    have hbb0 : wb0.heap[w.heap.size]? = some (.cells #[.slice adux ux.length cpux, .int .i64 uo, .int .i64 uw] 37 (0, 0)) := by have h := heap_alloc_new w (.cells #[.slice adux ux.length cpux, .int .i64 uo, .int .i64 uw] 37); rw [hwb0] at h; exact h
    clear hwb0
    have hgr1 : Grow w wb0 := by first | exact hgb0 | exact Grow.trans ((Grow.refl _).alloc _) hgb0 | exact Grow.trans (((Grow.refl _).alloc _).alloc _) hgb0 | exact Grow.trans ((((Grow.refl _).alloc _).alloc _).alloc _) hgb0 | exact Grow.trans (((((Grow.refl _).alloc _).alloc _).alloc _).alloc _) hgb0 | exact Grow.trans ((Grow.refl _).drewN _) hgb0
    have HP_1 := Lib.hid (HP_.out.grow hgr1)
    have HUX_1 := Lib.hid (HUX_.out.grow hgr1)
    have HXL_1 := Lib.hid (HXL_.out.grow hgr1)
    have HXV_1 := Lib.hid (HXV_.out.grow hgr1)
    have GCH1 := Lib.hid hgr1
    clear hgb0 hgr1 HP_ HUX_ HXL_ HXV_
    obtain ⟨eu0, eu1, eu2⟩ := box3 hbb0
    have zu := lt_of_block hbb0
    have HBB0 := Lib.hid hbb0
    clear hbb0
    obtain ⟨wb1, hwb1⟩ : ∃ W, wb0.alloc (.cells #[.slice adxl xl.length cpxl, .slice adxv xv.length cpxv] 39) = W := ⟨_, rfl⟩
    rw [hwb1]
    have hgb1 : Grow wb0 wb1 := hwb1 ▸ (Grow.refl wb0).alloc _
    have hsz1 : wb1.heap.size = w.heap.size + 2 := by rw [← hwb1, World.size_alloc]; rw [hsz0]
    have hbb1 : wb1.heap[w.heap.size + 1]? = some (.cells #[.slice adxl xl.length cpxl, .slice adxv xv.length cpxv] 39 (0, 0)) := by have h := heap_alloc_new wb0 (.cells #[.slice adxl xl.length cpxl, .slice adxv xv.length cpxv] 39); rw [hsz0] at h; rw [hwb1] at h; exact h
    clear hwb1
    have hgr2 : Grow wb0 wb1 := by first | exact hgb1 | exact Grow.trans ((Grow.refl _).alloc _) hgb1 | exact Grow.trans (((Grow.refl _).alloc _).alloc _) hgb1 | exact Grow.trans ((((Grow.refl _).alloc _).alloc _).alloc _) hgb1 | exact Grow.trans (((((Grow.refl _).alloc _).alloc _).alloc _).alloc _) hgb1 | exact Grow.trans ((Grow.refl _).drewN _) hgb1
    have HP_2 := Lib.hid (HP_1.out.grow hgr2)
    have HUX_2 := Lib.hid (HUX_1.out.grow hgr2)
    have HXL_2 := Lib.hid (HXL_1.out.grow hgr2)
    have HXV_2 := Lib.hid (HXV_1.out.grow hgr2)
    have GCH2 := Lib.hid (GCH1.out.trans hgr2)
    have hbx_2 := hgr2.blk HBB0.out
    clear eu0 eu1 eu2 zu
    obtain ⟨eu0, eu1, eu2⟩ := box3 hbx_2
    have zu := lt_of_block hbx_2
    have HBX0_2 := Lib.hid hbx_2
    clear hbx_2
    clear hgb1 hgr2 HP_1 HUX_1 HXL_1 HXV_1 GCH1 HBB0
    obtain ⟨ex0, ex1⟩ := box2 hbb1
    have zx := lt_of_block hbb1
    have HBB1 := Lib.hid hbb1
    clear hbb1
    clear hsz0 hsz1
    refine long1_any p _ _ (by first | exact HP_2.out | exact HP_2.out.grow ((Grow.refl _).alloc _) | exact HP_2.out.grow (((Grow.refl _).alloc _).alloc _) | exact HP_2.out.grow ((((Grow.refl _).alloc _).alloc _).alloc _) | exact HP_2.out.grow (((((Grow.refl _).alloc _).alloc _).alloc _).alloc _) | exact HP_2.out.grow ((Grow.refl _).drewN _)) _ ?_
    rw [HGD0.out]
    go_wp2_with fail
    refine known3_any _ _ ?_
    intro wz3 hg3 
    have hgr3 : Grow wb1 wz3 := by first | exact hg3 | exact Grow.trans ((Grow.refl _).alloc _) hg3 | exact Grow.trans (((Grow.refl _).alloc _).alloc _) hg3 | exact Grow.trans ((((Grow.refl _).alloc _).alloc _).alloc _) hg3 | exact Grow.trans (((((Grow.refl _).alloc _).alloc _).alloc _).alloc _) hg3 | exact Grow.trans ((Grow.refl _).drewN _) hg3
    have HP_3 := Lib.hid (HP_2.out.grow hgr3)
    have HUX_3 := Lib.hid (HUX_2.out.grow hgr3)
    have HXL_3 := Lib.hid (HXL_2.out.grow hgr3)
    have HXV_3 := Lib.hid (HXV_2.out.grow hgr3)
    have GCH3 := Lib.hid (GCH2.out.trans hgr3)
    have hbx_3 := hgr3.blk HBX0_2.out
    clear eu0 eu1 eu2 zu
    obtain ⟨eu0, eu1, eu2⟩ := box3 hbx_3
    have zu := lt_of_block hbx_3
    have HBX0_3 := Lib.hid hbx_3
    clear hbx_3
    have hbx_3 := hgr3.blk HBB1.out
    clear ex0 ex1 zx
    obtain ⟨ex0, ex1⟩ := box2 hbx_3
    have zx := lt_of_block hbx_3
    have HBX1_3 := Lib.hid hbx_3
    clear hbx_3
    clear hg3 hgr3 HP_2 HUX_2 HXL_2 HXV_2 GCH2 HBX0_2 HBB1
    go_wp2_with fail
    first | exact HR.out _ (GCH3.out) | exact HR.out _ (Grow.trans GCH3.out ((Grow.refl _).alloc _)) | exact HR.out _ (Grow.trans GCH3.out (((Grow.refl _).alloc _).alloc _)) | exact HR.out _ (Grow.trans GCH3.out ((((Grow.refl _).alloc _).alloc _).alloc _)) | exact HR.out _ (Grow.trans GCH3.out (((((Grow.refl _).alloc _).alloc _).alloc _).alloc _)) | exact HR.out _ (Grow.trans GCH3.out ((Grow.refl _).drewN _))
  | false =>
    obtain ⟨gq1, hgq1⟩ : ∃ z, decide (100 < ux.length) = z := ⟨_, rfl⟩
    have HGD1 := Lib.hid hgq1
    clear hgq1
    cases gq1 with
    | true =>
      go_enter Tryz.func6, Tryz.ntmps6
      go_wp2_with fail
      obtain ⟨wb0, hwb0⟩ : ∃ W, w.alloc (.cells #[.slice adux ux.length cpux, .int .i64 uo, .int .i64 uw] 37) = W := ⟨_, rfl⟩
      rw [hwb0]
      have hgb0 : Grow w wb0 := hwb0 ▸ (Grow.refl w).alloc _
      have hsz0 : wb0.heap.size = w.heap.size + 1 := by rw [← hwb0, World.size_alloc]
      have hbb0 : wb0.heap[w.heap.size]? = some (.cells #[.slice adux ux.length cpux, .int .i64 uo, .int .i64 uw] 37 (0, 0)) := by have h := heap_alloc_new w (.cells #[.slice adux ux.length cpux, .int .i64 uo, .int .i64 uw] 37); rw [hwb0] at h; exact h
      clear hwb0
      have hgr1 : Grow w wb0 := by first | exact hgb0 | exact Grow.trans ((Grow.refl _).alloc _) hgb0 | exact Grow.trans (((Grow.refl _).alloc _).alloc _) hgb0 | exact Grow.trans ((((Grow.refl _).alloc _).alloc _).alloc _) hgb0 | exact Grow.trans (((((Grow.refl _).alloc _).alloc _).alloc _).alloc _) hgb0 | exact Grow.trans ((Grow.refl _).drewN _) hgb0
      have HP_1 := Lib.hid (HP_.out.grow hgr1)
      have HUX_1 := Lib.hid (HUX_.out.grow hgr1)
      have HXL_1 := Lib.hid (HXL_.out.grow hgr1)
      have HXV_1 := Lib.hid (HXV_.out.grow hgr1)
      have GCH1 := Lib.hid hgr1
      clear hgb0 hgr1 HP_ HUX_ HXL_ HXV_
      obtain ⟨eu0, eu1, eu2⟩ := box3 hbb0
      have zu := lt_of_block hbb0
      have HBB0 := Lib.hid hbb0
      clear hbb0
      obtain ⟨wb1, hwb1⟩ : ∃ W, wb0.alloc (.cells #[.slice adxl xl.length cpxl, .slice adxv xv.length cpxv] 39) = W := ⟨_, rfl⟩
      rw [hwb1]
      have hgb1 : Grow wb0 wb1 := hwb1 ▸ (Grow.refl wb0).alloc _
      have hsz1 : wb1.heap.size = w.heap.size + 2 := by rw [← hwb1, World.size_alloc]; rw [hsz0]
      have hbb1 : wb1.heap[w.heap.size + 1]? = some (.cells #[.slice adxl xl.length cpxl, .slice adxv xv.length cpxv] 39 (0, 0)) := by have h := heap_alloc_new wb0 (.cells #[.slice adxl xl.length cpxl, .slice adxv xv.length cpxv] 39); rw [hsz0] at h; rw [hwb1] at h; exact h
      clear hwb1
      have hgr2 : Grow wb0 wb1 := by first | exact hgb1 | exact Grow.trans ((Grow.refl _).alloc _) hgb1 | exact Grow.trans (((Grow.refl _).alloc _).alloc _) hgb1 | exact Grow.trans ((((Grow.refl _).alloc _).alloc _).alloc _) hgb1 | exact Grow.trans (((((Grow.refl _).alloc _).alloc _).alloc _).alloc _) hgb1 | exact Grow.trans ((Grow.refl _).drewN _) hgb1
      have HP_2 := Lib.hid (HP_1.out.grow hgr2)
      have HUX_2 := Lib.hid (HUX_1.out.grow hgr2)
      have HXL_2 := Lib.hid (HXL_1.out.grow hgr2)
      have HXV_2 := Lib.hid (HXV_1.out.grow hgr2)
      have GCH2 := Lib.hid (GCH1.out.trans hgr2)
      have hbx_2 := hgr2.blk HBB0.out
      clear eu0 eu1 eu2 zu
      obtain ⟨eu0, eu1, eu2⟩ := box3 hbx_2
      have zu := lt_of_block hbx_2
      have HBX0_2 := Lib.hid hbx_2
      clear hbx_2
      clear hgb1 hgr2 HP_1 HUX_1 HXL_1 HXV_1 GCH1 HBB0
      obtain ⟨ex0, ex1⟩ := box2 hbb1
      have zx := lt_of_block hbb1
      have HBB1 := Lib.hid hbb1
      clear hbb1
      clear hsz0 hsz1
      refine long1_any p _ _ (by first | exact HP_2.out | exact HP_2.out.grow ((Grow.refl _).alloc _) | exact HP_2.out.grow (((Grow.refl _).alloc _).alloc _) | exact HP_2.out.grow ((((Grow.refl _).alloc _).alloc _).alloc _) | exact HP_2.out.grow (((((Grow.refl _).alloc _).alloc _).alloc _).alloc _) | exact HP_2.out.grow ((Grow.refl _).drewN _)) _ ?_
      rw [HGD0.out]
      go_wp2_with fail
      refine large3_any ux _ _ (by first | exact HUX_2.out | exact HUX_2.out.grow ((Grow.refl _).alloc _) | exact HUX_2.out.grow (((Grow.refl _).alloc _).alloc _) | exact HUX_2.out.grow ((((Grow.refl _).alloc _).alloc _).alloc _) | exact HUX_2.out.grow (((((Grow.refl _).alloc _).alloc _).alloc _).alloc _) | exact HUX_2.out.grow ((Grow.refl _).drewN _)) _ ?_
      rw [HGD1.out]
      go_wp2_with fail
      refine known3_any _ _ ?_
      intro wz3 hg3 
      have hgr3 : Grow wb1 wz3 := by first | exact hg3 | exact Grow.trans ((Grow.refl _).alloc _) hg3 | exact Grow.trans (((Grow.refl _).alloc _).alloc _) hg3 | exact Grow.trans ((((Grow.refl _).alloc _).alloc _).alloc _) hg3 | exact Grow.trans (((((Grow.refl _).alloc _).alloc _).alloc _).alloc _) hg3 | exact Grow.trans ((Grow.refl _).drewN _) hg3
      have HP_3 := Lib.hid (HP_2.out.grow hgr3)
      have HUX_3 := Lib.hid (HUX_2.out.grow hgr3)
      have HXL_3 := Lib.hid (HXL_2.out.grow hgr3)
      have HXV_3 := Lib.hid (HXV_2.out.grow hgr3)
      have GCH3 := Lib.hid (GCH2.out.trans hgr3)
      have hbx_3 := hgr3.blk HBX0_2.out
      clear eu0 eu1 eu2 zu
      obtain ⟨eu0, eu1, eu2⟩ := box3 hbx_3
      have zu := lt_of_block hbx_3
      have HBX0_3 := Lib.hid hbx_3
      clear hbx_3
      have hbx_3 := hgr3.blk HBB1.out
      clear ex0 ex1 zx
      obtain ⟨ex0, ex1⟩ := box2 hbx_3
      have zx := lt_of_block hbx_3
      have HBX1_3 := Lib.hid hbx_3
      clear hbx_3
      clear hg3 hgr3 HP_2 HUX_2 HXL_2 HXV_2 GCH2 HBX0_2 HBB1
      go_wp2_with fail
      first | exact HR.out _ (GCH3.out) | exact HR.out _ (Grow.trans GCH3.out ((Grow.refl _).alloc _)) | exact HR.out _ (Grow.trans GCH3.out (((Grow.refl _).alloc _).alloc _)) | exact HR.out _ (Grow.trans GCH3.out ((((Grow.refl _).alloc _).alloc _).alloc _)) | exact HR.out _ (Grow.trans GCH3.out (((((Grow.refl _).alloc _).alloc _).alloc _).alloc _)) | exact HR.out _ (Grow.trans GCH3.out ((Grow.refl _).drewN _))
    | false =>
      obtain ⟨gq2, hgq2⟩ : ∃ z, decide (100 < xl.length) = z := ⟨_, rfl⟩
      have HGD2 := Lib.hid hgq2
      clear hgq2
      cases gq2 with
      | true =>
        go_enter Tryz.func6, Tryz.ntmps6
        go_wp2_with fail
        obtain ⟨wb0, hwb0⟩ : ∃ W, w.alloc (.cells #[.slice adux ux.length cpux, .int .i64 uo, .int .i64 uw] 37) = W := ⟨_, rfl⟩
        rw [hwb0]
        have hgb0 : Grow w wb0 := hwb0 ▸ (Grow.refl w).alloc _
        have hsz0 : wb0.heap.size = w.heap.size + 1 := by rw [← hwb0, World.size_alloc]
        have hbb0 : wb0.heap[w.heap.size]? = some (.cells #[.slice adux ux.length cpux, .int .i64 uo, .int .i64 uw] 37 (0, 0)) := by have h := heap_alloc_new w (.cells #[.slice adux ux.length cpux, .int .i64 uo, .int .i64 uw] 37); rw [hwb0] at h; exact h
        clear hwb0
        have hgr1 : Grow w wb0 := by first | exact hgb0 | exact Grow.trans ((Grow.refl _).alloc _) hgb0 | exact Grow.trans (((Grow.refl _).alloc _).alloc _) hgb0 | exact Grow.trans ((((Grow.refl _).alloc _).alloc _).alloc _) hgb0 | exact Grow.trans (((((Grow.refl _).alloc _).alloc _).alloc _).alloc _) hgb0 | exact Grow.trans ((Grow.refl _).drewN _) hgb0
        have HP_1 := Lib.hid (HP_.out.grow hgr1)
        have HUX_1 := Lib.hid (HUX_.out.grow hgr1)
        have HXL_1 := Lib.hid (HXL_.out.grow hgr1)
        have HXV_1 := Lib.hid (HXV_.out.grow hgr1)
        have GCH1 := Lib.hid hgr1
        clear hgb0 hgr1 HP_ HUX_ HXL_ HXV_
        obtain ⟨eu0, eu1, eu2⟩ := box3 hbb0
        have zu := lt_of_block hbb0
        have HBB0 := Lib.hid hbb0
        clear hbb0
        obtain ⟨wb1, hwb1⟩ : ∃ W, wb0.alloc (.cells #[.slice adxl xl.length cpxl, .slice adxv xv.length cpxv] 39) = W := ⟨_, rfl⟩
        rw [hwb1]
        have hgb1 : Grow wb0 wb1 := hwb1 ▸ (Grow.refl wb0).alloc _
        have hsz1 : wb1.heap.size = w.heap.size + 2 := by rw [← hwb1, World.size_alloc]; rw [hsz0]
        have hbb1 : wb1.heap[w.heap.size + 1]? = some (.cells #[.slice adxl xl.length cpxl, .slice adxv xv.length cpxv] 39 (0, 0)) := by have h := heap_alloc_new wb0 (.cells #[.slice adxl xl.length cpxl, .slice adxv xv.length cpxv] 39); rw [hsz0] at h; rw [hwb1] at h; exact h
        clear hwb1
        have hgr2 : Grow wb0 wb1 := by first | exact hgb1 | exact Grow.trans ((Grow.refl _).alloc _) hgb1 | exact Grow.trans (((Grow.refl _).alloc _).alloc _) hgb1 | exact Grow.trans ((((Grow.refl _).alloc _).alloc _).alloc _) hgb1 | exact Grow.trans (((((Grow.refl _).alloc _).alloc _).alloc _).alloc _) hgb1 | exact Grow.trans ((Grow.refl _).drewN _) hgb1
        have HP_2 := Lib.hid (HP_1.out.grow hgr2)
        have HUX_2 := Lib.hid (HUX_1.out.grow hgr2)
        have HXL_2 := Lib.hid (HXL_1.out.grow hgr2)
        have HXV_2 := Lib.hid (HXV_1.out.grow hgr2)
        have GCH2 := Lib.hid (GCH1.out.trans hgr2)
        have hbx_2 := hgr2.blk HBB0.out
        clear eu0 eu1 eu2 zu
        obtain ⟨eu0, eu1, eu2⟩ := box3 hbx_2
        have zu := lt_of_block hbx_2
        have HBX0_2 := Lib.hid hbx_2
        clear hbx_2
        clear hgb1 hgr2 HP_1 HUX_1 HXL_1 HXV_1 GCH1 HBB0
        obtain ⟨ex0, ex1⟩ := box2 hbb1
        have zx := lt_of_block hbb1
        have HBB1 := Lib.hid hbb1
        clear hbb1
        clear hsz0 hsz1
        refine long1_any p _ _ (by first | exact HP_2.out | exact HP_2.out.grow ((Grow.refl _).alloc _) | exact HP_2.out.grow (((Grow.refl _).alloc _).alloc _) | exact HP_2.out.grow ((((Grow.refl _).alloc _).alloc _).alloc _) | exact HP_2.out.grow (((((Grow.refl _).alloc _).alloc _).alloc _).alloc _) | exact HP_2.out.grow ((Grow.refl _).drewN _)) _ ?_
        rw [HGD0.out]
        go_wp2_with fail
        refine large3_any ux _ _ (by first | exact HUX_2.out | exact HUX_2.out.grow ((Grow.refl _).alloc _) | exact HUX_2.out.grow (((Grow.refl _).alloc _).alloc _) | exact HUX_2.out.grow ((((Grow.refl _).alloc _).alloc _).alloc _) | exact HUX_2.out.grow (((((Grow.refl _).alloc _).alloc _).alloc _).alloc _) | exact HUX_2.out.grow ((Grow.refl _).drewN _)) _ ?_
        rw [HGD1.out]
        go_wp2_with fail
        refine large3_any xl _ _ (by first | exact HXL_2.out | exact HXL_2.out.grow ((Grow.refl _).alloc _) | exact HXL_2.out.grow (((Grow.refl _).alloc _).alloc _) | exact HXL_2.out.grow ((((Grow.refl _).alloc _).alloc _).alloc _) | exact HXL_2.out.grow (((((Grow.refl _).alloc _).alloc _).alloc _).alloc _) | exact HXL_2.out.grow ((Grow.refl _).drewN _)) _ ?_
        rw [HGD2.out]
        go_wp2_with fail
        refine known3_any _ _ ?_
        intro wz3 hg3 
        have hgr3 : Grow wb1 wz3 := by first | exact hg3 | exact Grow.trans ((Grow.refl _).alloc _) hg3 | exact Grow.trans (((Grow.refl _).alloc _).alloc _) hg3 | exact Grow.trans ((((Grow.refl _).alloc _).alloc _).alloc _) hg3 | exact Grow.trans (((((Grow.refl _).alloc _).alloc _).alloc _).alloc _) hg3 | exact Grow.trans ((Grow.refl _).drewN _) hg3
        have HP_3 := Lib.hid (HP_2.out.grow hgr3)
        have HUX_3 := Lib.hid (HUX_2.out.grow hgr3)
        have HXL_3 := Lib.hid (HXL_2.out.grow hgr3)
        have HXV_3 := Lib.hid (HXV_2.out.grow hgr3)
        have GCH3 := Lib.hid (GCH2.out.trans hgr3)
        have hbx_3 := hgr3.blk HBX0_2.out
        clear eu0 eu1 eu2 zu
        obtain ⟨eu0, eu1, eu2⟩ := box3 hbx_3
        have zu := lt_of_block hbx_3
        have HBX0_3 := Lib.hid hbx_3
        clear hbx_3
        have hbx_3 := hgr3.blk HBB1.out
        clear ex0 ex1 zx
        obtain ⟨ex0, ex1⟩ := box2 hbx_3
        have zx := lt_of_block hbx_3
        have HBX1_3 := Lib.hid hbx_3
        clear hbx_3
        clear hg3 hgr3 HP_2 HUX_2 HXL_2 HXV_2 GCH2 HBX0_2 HBB1
        go_wp2_with fail
        first | exact HR.out _ (GCH3.out) | exact HR.out _ (Grow.trans GCH3.out ((Grow.refl _).alloc _)) | exact HR.out _ (Grow.trans GCH3.out (((Grow.refl _).alloc _).alloc _)) | exact HR.out _ (Grow.trans GCH3.out ((((Grow.refl _).alloc _).alloc _).alloc _)) | exact HR.out _ (Grow.trans GCH3.out (((((Grow.refl _).alloc _).alloc _).alloc _).alloc _)) | exact HR.out _ (Grow.trans GCH3.out ((Grow.refl _).drewN _))
      | false =>
        obtain ⟨gq3, hgq3⟩ : ∃ z, decide (100 < xv.length) = z := ⟨_, rfl⟩
        have HGD3 := Lib.hid hgq3
        clear hgq3
        cases gq3 with
        | true =>
          go_enter Tryz.func6, Tryz.ntmps6
          go_wp2_with fail
          obtain ⟨wb0, hwb0⟩ : ∃ W, w.alloc (.cells #[.slice adux ux.length cpux, .int .i64 uo, .int .i64 uw] 37) = W := ⟨_, rfl⟩
          rw [hwb0]
          have hgb0 : Grow w wb0 := hwb0 ▸ (Grow.refl w).alloc _
          have hsz0 : wb0.heap.size = w.heap.size + 1 := by rw [← hwb0, World.size_alloc]
          have hbb0 : wb0.heap[w.heap.size]? = some (.cells #[.slice adux ux.length cpux, .int .i64 uo, .int .i64 uw] 37 (0, 0)) := by have h := heap_alloc_new w (.cells #[.slice adux ux.length cpux, .int .i64 uo, .int .i64 uw] 37); rw [hwb0] at h; exact h
          clear hwb0
          have hgr1 : Grow w wb0 := by first | exact hgb0 | exact Grow.trans ((Grow.refl _).alloc _) hgb0 | exact Grow.trans (((Grow.refl _).alloc _).alloc _) hgb0 | exact Grow.trans ((((Grow.refl _).alloc _).alloc _).alloc _) hgb0 | exact Grow.trans (((((Grow.refl _).alloc _).alloc _).alloc _).alloc _) hgb0 | exact Grow.trans ((Grow.refl _).drewN _) hgb0
          have HP_1 := Lib.hid (HP_.out.grow hgr1)
          have HUX_1 := Lib.hid (HUX_.out.grow hgr1)
          have HXL_1 := Lib.hid (HXL_.out.grow hgr1)
          have HXV_1 := Lib.hid (HXV_.out.grow hgr1)
          have GCH1 := Lib.hid hgr1
          clear hgb0 hgr1 HP_ HUX_ HXL_ HXV_
          obtain ⟨eu0, eu1, eu2⟩ := box3 hbb0
          have zu := lt_of_block hbb0
          have HBB0 := Lib.hid hbb0
          clear hbb0
          obtain ⟨wb1, hwb1⟩ : ∃ W, wb0.alloc (.cells #[.slice adxl xl.length cpxl, .slice adxv xv.length cpxv] 39) = W := ⟨_, rfl⟩
          rw [hwb1]
          have hgb1 : Grow wb0 wb1 := hwb1 ▸ (Grow.refl wb0).alloc _
          have hsz1 : wb1.heap.size = w.heap.size + 2 := by rw [← hwb1, World.size_alloc]; rw [hsz0]
          have hbb1 : wb1.heap[w.heap.size + 1]? = some (.cells #[.slice adxl xl.length cpxl, .slice adxv xv.length cpxv] 39 (0, 0)) := by have h := heap_alloc_new wb0 (.cells #[.slice adxl xl.length cpxl, .slice adxv xv.length cpxv] 39); rw [hsz0] at h; rw [hwb1] at h; exact h
          clear hwb1
          have hgr2 : Grow wb0 wb1 := by first | exact hgb1 | exact Grow.trans ((Grow.refl _).alloc _) hgb1 | exact Grow.trans (((Grow.refl _).alloc _).alloc _) hgb1 | exact Grow.trans ((((Grow.refl _).alloc _).alloc _).alloc _) hgb1 | exact Grow.trans (((((Grow.refl _).alloc _).alloc _).alloc _).alloc _) hgb1 | exact Grow.trans ((Grow.refl _).drewN _) hgb1
          have HP_2 := Lib.hid (HP_1.out.grow hgr2)
          have HUX_2 := Lib.hid (HUX_1.out.grow hgr2)
          have HXL_2 := Lib.hid (HXL_1.out.grow hgr2)
          have HXV_2 := Lib.hid (HXV_1.out.grow hgr2)
          have GCH2 := Lib.hid (GCH1.out.trans hgr2)
          have hbx_2 := hgr2.blk HBB0.out
          clear eu0 eu1 eu2 zu
          obtain ⟨eu0, eu1, eu2⟩ := box3 hbx_2
          have zu := lt_of_block hbx_2
          have HBX0_2 := Lib.hid hbx_2
          clear hbx_2
          clear hgb1 hgr2 HP_1 HUX_1 HXL_1 HXV_1 GCH1 HBB0
          obtain ⟨ex0, ex1⟩ := box2 hbb1
          have zx := lt_of_block hbb1
          have HBB1 := Lib.hid hbb1
          clear hbb1
          clear hsz0 hsz1
          refine long1_any p _ _ (by first | exact HP_2.out | exact HP_2.out.grow ((Grow.refl _).alloc _) | exact HP_2.out.grow (((Grow.refl _).alloc _).alloc _) | exact HP_2.out.grow ((((Grow.refl _).alloc _).alloc _).alloc _) | exact HP_2.out.grow (((((Grow.refl _).alloc _).alloc _).alloc _).alloc _) | exact HP_2.out.grow ((Grow.refl _).drewN _)) _ ?_
          rw [HGD0.out]
          go_wp2_with fail
          refine large3_any ux _ _ (by first | exact HUX_2.out | exact HUX_2.out.grow ((Grow.refl _).alloc _) | exact HUX_2.out.grow (((Grow.refl _).alloc _).alloc _) | exact HUX_2.out.grow ((((Grow.refl _).alloc _).alloc _).alloc _) | exact HUX_2.out.grow (((((Grow.refl _).alloc _).alloc _).alloc _).alloc _) | exact HUX_2.out.grow ((Grow.refl _).drewN _)) _ ?_
          rw [HGD1.out]
          go_wp2_with fail
          refine large3_any xl _ _ (by first | exact HXL_2.out | exact HXL_2.out.grow ((Grow.refl _).alloc _) | exact HXL_2.out.grow (((Grow.refl _).alloc _).alloc _) | exact HXL_2.out.grow ((((Grow.refl _).alloc _).alloc _).alloc _) | exact HXL_2.out.grow (((((Grow.refl _).alloc _).alloc _).alloc _).alloc _) | exact HXL_2.out.grow ((Grow.refl _).drewN _)) _ ?_
          rw [HGD2.out]
          go_wp2_with fail
          refine large3_any xv _ _ (by first | exact HXV_2.out | exact HXV_2.out.grow ((Grow.refl _).alloc _) | exact HXV_2.out.grow (((Grow.refl _).alloc _).alloc _) | exact HXV_2.out.grow ((((Grow.refl _).alloc _).alloc _).alloc _) | exact HXV_2.out.grow (((((Grow.refl _).alloc _).alloc _).alloc _).alloc _) | exact HXV_2.out.grow ((Grow.refl _).drewN _)) _ ?_
          rw [HGD3.out]
          go_wp2_with fail
          refine known3_any _ _ ?_
          intro wz3 hg3 
          have hgr3 : Grow wb1 wz3 := by first | exact hg3 | exact Grow.trans ((Grow.refl _).alloc _) hg3 | exact Grow.trans (((Grow.refl _).alloc _).alloc _) hg3 | exact Grow.trans ((((Grow.refl _).alloc _).alloc _).alloc _) hg3 | exact Grow.trans (((((Grow.refl _).alloc _).alloc _).alloc _).alloc _) hg3 | exact Grow.trans ((Grow.refl _).drewN _) hg3
          have HP_3 := Lib.hid (HP_2.out.grow hgr3)
          have HUX_3 := Lib.hid (HUX_2.out.grow hgr3)
          have HXL_3 := Lib.hid (HXL_2.out.grow hgr3)
          have HXV_3 := Lib.hid (HXV_2.out.grow hgr3)
          have GCH3 := Lib.hid (GCH2.out.trans hgr3)
          have hbx_3 := hgr3.blk HBX0_2.out
          clear eu0 eu1 eu2 zu
          obtain ⟨eu0, eu1, eu2⟩ := box3 hbx_3
          have zu := lt_of_block hbx_3
          have HBX0_3 := Lib.hid hbx_3
          clear hbx_3
          have hbx_3 := hgr3.blk HBB1.out
          clear ex0 ex1 zx
          obtain ⟨ex0, ex1⟩ := box2 hbx_3
          have zx := lt_of_block hbx_3
          have HBX1_3 := Lib.hid hbx_3
          clear hbx_3
          clear hg3 hgr3 HP_2 HUX_2 HXL_2 HXV_2 GCH2 HBX0_2 HBB1
          go_wp2_with fail
          first | exact HR.out _ (GCH3.out) | exact HR.out _ (Grow.trans GCH3.out ((Grow.refl _).alloc _)) | exact HR.out _ (Grow.trans GCH3.out (((Grow.refl _).alloc _).alloc _)) | exact HR.out _ (Grow.trans GCH3.out ((((Grow.refl _).alloc _).alloc _).alloc _)) | exact HR.out _ (Grow.trans GCH3.out (((((Grow.refl _).alloc _).alloc _).alloc _).alloc _)) | exact HR.out _ (Grow.trans GCH3.out ((Grow.refl _).drewN _))
        | false =>
          obtain ⟨e, he⟩ : ∃ z, psE p ⟨.slice adux ux.length cpux, ux, uo, uw⟩ xl xv = z := ⟨_, rfl⟩
          have HE := Lib.hid he
          clear he
          have t2 : (e == e) = true := by simp
          have hln : xl.length < 4611686018427387904 := by have := HGD2.out; simp at this; omega
          go_enter Tryz.func6, Tryz.ntmps6
          go_wp2_with fail
          obtain ⟨wb0, hwb0⟩ : ∃ W, w.alloc (.cells #[.slice adux ux.length cpux, .int .i64 uo, .int .i64 uw] 37) = W := ⟨_, rfl⟩
          rw [hwb0]
          have hgb0 : Grow w wb0 := hwb0 ▸ (Grow.refl w).alloc _
          have hsz0 : wb0.heap.size = w.heap.size + 1 := by rw [← hwb0, World.size_alloc]
          have hbb0 : wb0.heap[w.heap.size]? = some (.cells #[.slice adux ux.length cpux, .int .i64 uo, .int .i64 uw] 37 (0, 0)) := by have h := heap_alloc_new w (.cells #[.slice adux ux.length cpux, .int .i64 uo, .int .i64 uw] 37); rw [hwb0] at h; exact h
          clear hwb0
          have hgr1 : Grow w wb0 := by first | exact hgb0 | exact Grow.trans ((Grow.refl _).alloc _) hgb0 | exact Grow.trans (((Grow.refl _).alloc _).alloc _) hgb0 | exact Grow.trans ((((Grow.refl _).alloc _).alloc _).alloc _) hgb0 | exact Grow.trans (((((Grow.refl _).alloc _).alloc _).alloc _).alloc _) hgb0 | exact Grow.trans ((Grow.refl _).drewN _) hgb0
          have HP_1 := Lib.hid (HP_.out.grow hgr1)
          have HUX_1 := Lib.hid (HUX_.out.grow hgr1)
          have HXL_1 := Lib.hid (HXL_.out.grow hgr1)
          have HXV_1 := Lib.hid (HXV_.out.grow hgr1)
          have GCH1 := Lib.hid hgr1
          clear hgb0 hgr1 HP_ HUX_ HXL_ HXV_
          obtain ⟨eu0, eu1, eu2⟩ := box3 hbb0
          have zu := lt_of_block hbb0
          have HBB0 := Lib.hid hbb0
          clear hbb0
          obtain ⟨wb1, hwb1⟩ : ∃ W, wb0.alloc (.cells #[.slice adxl xl.length cpxl, .slice adxv xv.length cpxv] 39) = W := ⟨_, rfl⟩
          rw [hwb1]
          have hgb1 : Grow wb0 wb1 := hwb1 ▸ (Grow.refl wb0).alloc _
          have hsz1 : wb1.heap.size = w.heap.size + 2 := by rw [← hwb1, World.size_alloc]; rw [hsz0]
          have hbb1 : wb1.heap[w.heap.size + 1]? = some (.cells #[.slice adxl xl.length cpxl, .slice adxv xv.length cpxv] 39 (0, 0)) := by have h := heap_alloc_new wb0 (.cells #[.slice adxl xl.length cpxl, .slice adxv xv.length cpxv] 39); rw [hsz0] at h; rw [hwb1] at h; exact h
          clear hwb1
          have hgr2 : Grow wb0 wb1 := by first | exact hgb1 | exact Grow.trans ((Grow.refl _).alloc _) hgb1 | exact Grow.trans (((Grow.refl _).alloc _).alloc _) hgb1 | exact Grow.trans ((((Grow.refl _).alloc _).alloc _).alloc _) hgb1 | exact Grow.trans (((((Grow.refl _).alloc _).alloc _).alloc _).alloc _) hgb1 | exact Grow.trans ((Grow.refl _).drewN _) hgb1
          have HP_2 := Lib.hid (HP_1.out.grow hgr2)
          have HUX_2 := Lib.hid (HUX_1.out.grow hgr2)
          have HXL_2 := Lib.hid (HXL_1.out.grow hgr2)
          have HXV_2 := Lib.hid (HXV_1.out.grow hgr2)
          have GCH2 := Lib.hid (GCH1.out.trans hgr2)
          have hbx_2 := hgr2.blk HBB0.out
          clear eu0 eu1 eu2 zu
          obtain ⟨eu0, eu1, eu2⟩ := box3 hbx_2
          have zu := lt_of_block hbx_2
          have HBX0_2 := Lib.hid hbx_2
          clear hbx_2
          clear hgb1 hgr2 HP_1 HUX_1 HXL_1 HXV_1 GCH1 HBB0
          obtain ⟨ex0, ex1⟩ := box2 hbb1
          have zx := lt_of_block hbb1
          have HBB1 := Lib.hid hbb1
          clear hbb1
          clear hsz0 hsz1
          refine long1_any p _ _ (by first | exact HP_2.out | exact HP_2.out.grow ((Grow.refl _).alloc _) | exact HP_2.out.grow (((Grow.refl _).alloc _).alloc _) | exact HP_2.out.grow ((((Grow.refl _).alloc _).alloc _).alloc _) | exact HP_2.out.grow (((((Grow.refl _).alloc _).alloc _).alloc _).alloc _) | exact HP_2.out.grow ((Grow.refl _).drewN _)) _ ?_
          rw [HGD0.out]
          go_wp2_with fail
          refine large3_any ux _ _ (by first | exact HUX_2.out | exact HUX_2.out.grow ((Grow.refl _).alloc _) | exact HUX_2.out.grow (((Grow.refl _).alloc _).alloc _) | exact HUX_2.out.grow ((((Grow.refl _).alloc _).alloc _).alloc _) | exact HUX_2.out.grow (((((Grow.refl _).alloc _).alloc _).alloc _).alloc _) | exact HUX_2.out.grow ((Grow.refl _).drewN _)) _ ?_
          rw [HGD1.out]
          go_wp2_with fail
          refine large3_any xl _ _ (by first | exact HXL_2.out | exact HXL_2.out.grow ((Grow.refl _).alloc _) | exact HXL_2.out.grow (((Grow.refl _).alloc _).alloc _) | exact HXL_2.out.grow ((((Grow.refl _).alloc _).alloc _).alloc _) | exact HXL_2.out.grow (((((Grow.refl _).alloc _).alloc _).alloc _).alloc _) | exact HXL_2.out.grow ((Grow.refl _).drewN _)) _ ?_
          rw [HGD2.out]
          go_wp2_with fail
          refine large3_any xv _ _ (by first | exact HXV_2.out | exact HXV_2.out.grow ((Grow.refl _).alloc _) | exact HXV_2.out.grow (((Grow.refl _).alloc _).alloc _) | exact HXV_2.out.grow ((((Grow.refl _).alloc _).alloc _).alloc _) | exact HXV_2.out.grow (((((Grow.refl _).alloc _).alloc _).alloc _).alloc _) | exact HXV_2.out.grow ((Grow.refl _).drewN _)) _ ?_
          rw [HGD3.out]
          go_wp2_with fail
          clear eu0 eu1 eu2 zu ex0 ex1 zx
          refine wp_region_held_drew (S := fun X => Grow wb1 X) (by kernel_rfl) ((Grow.refl wb1).drew) (fun hH => ?_)
          refine wpAnyH_take (i := 0) (v := .slice adp p.length cpp) rfl (by kernel_rfl) (by kernel_rfl) (by kernel_rfl) (fun _ _ _ h => h) (Or.inl ⟨by rfl, ?_⟩) hH ?_
          · intro w9 hw9
            go_simp
          try simp only [List.getElem_toArray, List.getElem_cons_zero, Act.put, List.setIfInBounds_toArray, List.set_cons_zero, List.set_cons_succ]
          refine wpAnyH_take (i := 1) (v := .agg #[.slice adux ux.length cpux, .int .i64 uo, .int .i64 uw]) rfl (by kernel_rfl) (by kernel_rfl) (by kernel_rfl) (fun _ _ _ h => h) (Or.inl ⟨by rfl, ?_⟩) hH ?_
          · intro w9 hw9
            obtain ⟨u0, u1, u2⟩ := box3 (hw9.blk HBX0_2.out)
            have uz := lt_of_block (hw9.blk HBX0_2.out)
            go_simp
          try simp only [List.getElem_toArray, List.getElem_cons_succ, List.getElem_cons_zero, Act.put, List.setIfInBounds_toArray, List.set_cons_zero, List.set_cons_succ]
          refine wpAnyH_take (i := 2) (v := .pointer (some ⟨w.heap.size + 1, 0, none⟩)) rfl (by kernel_rfl) (by kernel_rfl) (by kernel_rfl) (fun _ _ _ h => h) (Or.inl ⟨by rfl, ?_⟩) hH ?_
          · intro w9 hw9
            have uz := lt_of_block (hw9.blk HBB1.out)
            go_simp
          try simp only [List.getElem_toArray, List.getElem_cons_succ, List.getElem_cons_zero, Act.put, List.setIfInBounds_toArray, List.set_cons_zero, List.set_cons_succ]
          refine wpAnyH_take (i := 3) (v := .slice adxl xl.length cpxl) rfl (by kernel_rfl) (by kernel_rfl) (by kernel_rfl) (fun _ _ _ h => h) (Or.inl ⟨by rfl, ?_⟩) hH ?_
          · intro w9 hw9
            obtain ⟨u0, u1⟩ := box2 (hw9.blk HBB1.out)
            go_simp
          try simp only [List.getElem_toArray, List.getElem_cons_succ, List.getElem_cons_zero, Act.put, List.setIfInBounds_toArray, List.set_cons_zero, List.set_cons_succ]
          refine wpAnyH_take (i := 4) (v := .pointer (some ⟨w.heap.size + 1, 1, none⟩)) rfl (by kernel_rfl) (by kernel_rfl) (by kernel_rfl) (fun _ _ _ h => h) (Or.inl ⟨by rfl, ?_⟩) hH ?_
          · intro w9 hw9
            have uz := lt_of_block (hw9.blk HBB1.out)
            go_simp
          try simp only [List.getElem_toArray, List.getElem_cons_succ, List.getElem_cons_zero, Act.put, List.setIfInBounds_toArray, List.set_cons_zero, List.set_cons_succ]
          refine wpAnyH_take (i := 5) (v := .slice adxv xv.length cpxv) rfl (by kernel_rfl) (by kernel_rfl) (by kernel_rfl) (fun _ _ _ h => h) (Or.inl ⟨by rfl, ?_⟩) hH ?_
          · intro w9 hw9
            obtain ⟨u0, u1⟩ := box2 (hw9.blk HBB1.out)
            go_simp
          try simp only [List.getElem_toArray, List.getElem_cons_succ, List.getElem_cons_zero, Act.put, List.setIfInBounds_toArray, List.set_cons_zero, List.set_cons_succ]
          refine wpAnyH_take (i := 7) (v := .slice adp p.length cpp) rfl (by kernel_rfl) (by kernel_rfl) (by kernel_rfl) (fun _ _ _ h => h) (Or.inl ⟨by rfl, ?_⟩) hH ?_
          · intro w9 hw9
            go_simp
          try simp only [List.getElem_toArray, List.getElem_cons_succ, List.getElem_cons_zero, Act.put, List.setIfInBounds_toArray, List.set_cons_zero, List.set_cons_succ]
          refine wpAnyH_take (i := 8) (v := .agg #[.slice adux ux.length cpux, .int .i64 uo, .int .i64 uw]) rfl (by kernel_rfl) (by kernel_rfl) (by kernel_rfl) (fun _ _ _ h => h) (Or.inl ⟨by rfl, ?_⟩) hH ?_
          · intro w9 hw9
            obtain ⟨u0, u1, u2⟩ := box3 (hw9.blk HBX0_2.out)
            have uz := lt_of_block (hw9.blk HBX0_2.out)
            go_simp
          try simp only [List.getElem_toArray, List.getElem_cons_succ, List.getElem_cons_zero, Act.put, List.setIfInBounds_toArray, List.set_cons_zero, List.set_cons_succ]
          refine wpAnyH_take (i := 9) (v := .pointer (some ⟨w.heap.size + 1, 0, none⟩)) rfl (by kernel_rfl) (by kernel_rfl) (by kernel_rfl) (fun _ _ _ h => h) (Or.inl ⟨by rfl, ?_⟩) hH ?_
          · intro w9 hw9
            have uz := lt_of_block (hw9.blk HBB1.out)
            go_simp
          try simp only [List.getElem_toArray, List.getElem_cons_succ, List.getElem_cons_zero, Act.put, List.setIfInBounds_toArray, List.set_cons_zero, List.set_cons_succ]
          refine wpAnyH_take (i := 10) (v := .slice adxl xl.length cpxl) rfl (by kernel_rfl) (by kernel_rfl) (by kernel_rfl) (fun _ _ _ h => h) (Or.inl ⟨by rfl, ?_⟩) hH ?_
          · intro w9 hw9
            obtain ⟨u0, u1⟩ := box2 (hw9.blk HBB1.out)
            go_simp
          try simp only [List.getElem_toArray, List.getElem_cons_succ, List.getElem_cons_zero, Act.put, List.setIfInBounds_toArray, List.set_cons_zero, List.set_cons_succ]
          refine wpAnyH_take (i := 11) (v := .pointer (some ⟨w.heap.size + 1, 1, none⟩)) rfl (by kernel_rfl) (by kernel_rfl) (by kernel_rfl) (fun _ _ _ h => h) (Or.inl ⟨by rfl, ?_⟩) hH ?_
          · intro w9 hw9
            have uz := lt_of_block (hw9.blk HBB1.out)
            go_simp
          try simp only [List.getElem_toArray, List.getElem_cons_succ, List.getElem_cons_zero, Act.put, List.setIfInBounds_toArray, List.set_cons_zero, List.set_cons_succ]
          refine wpAnyH_take (i := 12) (v := .slice adxv xv.length cpxv) rfl (by kernel_rfl) (by kernel_rfl) (by kernel_rfl) (fun _ _ _ h => h) (Or.inl ⟨by rfl, ?_⟩) hH ?_
          · intro w9 hw9
            obtain ⟨u0, u1⟩ := box2 (hw9.blk HBB1.out)
            go_simp
          try simp only [List.getElem_toArray, List.getElem_cons_succ, List.getElem_cons_zero, Act.put, List.setIfInBounds_toArray, List.set_cons_zero, List.set_cons_succ]
          refine wpAnyH_ready (rs := [6]) (by kernel_rfl) (by simp) ?_
          refine AllReadyH.cons rfl (fun K hK => ?_) AllReadyH.nil
          go_simp
          refine CheckPass_any p ⟨.slice adux ux.length cpux, ux, uo, uw⟩ xl xv _ _ _ _ (HP_2.out.grow hH) (HUX_2.out.grow hH) (HXL_2.out.grow hH) (HXV_2.out.grow hH) hln _ ?_
          intro w5 hg5
          rw [HE.out]
          have hH5 : Grow wb1 w5 := Grow.trans hH hg5
          clear hg5
          go_wp2_with fail
          refine hK.out _ _ hH5 (fun hH2 => ?_)
          clear hK K hH
          have hH := hH2
          clear hH2
          try simp only [List.getElem_toArray, List.getElem_cons_succ, List.getElem_cons_zero, Act.put, List.setIfInBounds_toArray, List.set_cons_zero, List.set_cons_succ]
          refine wpAnyH_ready (rs := [13]) (by kernel_rfl) (by simp) ?_
          refine AllReadyH.cons rfl (fun K hK => ?_) AllReadyH.nil
          go_simp
          refine r3CheckPass_any p ⟨.slice adux ux.length cpux, ux, uo, uw⟩ xl xv _ _ _ _ (HP_2.out.grow hH) (HUX_2.out.grow hH) (HXL_2.out.grow hH) (HXV_2.out.grow hH) _ ?_
          intro w6 hg6
          rw [HE.out]
          have hH6 : Grow wb1 w6 := Grow.trans hH hg6
          clear hg6
          go_wp2_with fail
          refine hK.out _ _ hH6 (fun hH2 => ?_)
          clear hK K hH
          have hH := hH2
          clear hH2
          try simp only [List.getElem_toArray, List.getElem_cons_succ, List.getElem_cons_zero, Act.put, List.setIfInBounds_toArray, List.set_cons_zero, List.set_cons_succ]
          refine wpAnyH_take (i := 14) (v := .bool true) rfl (by kernel_rfl) (by kernel_rfl) (by kernel_rfl) (fun _ _ _ h => h) (Or.inl ⟨by rfl, ?_⟩) hH ?_
          · intro w9 hw9
            go_simp
          try simp only [List.getElem_toArray, List.getElem_cons_succ, List.getElem_cons_zero, Act.put, List.setIfInBounds_toArray, List.set_cons_zero, List.set_cons_succ]
          refine wpAnyH_take (i := 15) (v := .bool true) rfl (by kernel_rfl) (by kernel_rfl) (by kernel_rfl) (fun _ _ _ h => h) (Or.inl ⟨by rfl, ?_⟩) hH ?_
          · intro w9 hw9
            go_simp
          try simp only [List.getElem_toArray, List.getElem_cons_succ, List.getElem_cons_zero, Act.put, List.setIfInBounds_toArray, List.set_cons_zero, List.set_cons_succ]
          refine wpAnyH_ready (rs := [16]) (by kernel_rfl) (by simp) ?_
          refine AllReadyH.cons rfl (fun K hK => ?_) AllReadyH.nil
          go_simp
          refine known3_any _ _ ?_
          intro w7 hg7
          have hH7 : Grow wb1 w7 := Grow.trans hH hg7
          clear hg7
          go_wp2_with fail
          refine hK.out _ _ hH7 (fun hH2 => ?_)
          clear hK K hH
          have hH := hH2
          clear hH2
          try simp only [List.getElem_toArray, List.getElem_cons_succ, List.getElem_cons_zero, Act.put, List.setIfInBounds_toArray, List.set_cons_zero, List.set_cons_succ]
          refine wpAnyH_take (i := 17) (v := .bool true) rfl (by kernel_rfl) (by kernel_rfl) (by kernel_rfl) (fun _ _ _ h => h) (Or.inl ⟨by rfl, ?_⟩) hH ?_
          · intro w9 hw9
            go_simp
          try simp only [List.getElem_toArray, List.getElem_cons_succ, List.getElem_cons_zero, Act.put, List.setIfInBounds_toArray, List.set_cons_zero, List.set_cons_succ]
          refine wpAnyH_take (i := 18) (v := .bool true) rfl (by kernel_rfl) (by kernel_rfl) (by kernel_rfl) (fun _ _ _ h => h) (Or.inl ⟨by rfl, ?_⟩) hH ?_
          · intro w9 hw9
            go_simp
          try simp only [List.getElem_toArray, List.getElem_cons_succ, List.getElem_cons_zero, Act.put, List.setIfInBounds_toArray, List.set_cons_zero, List.set_cons_succ]
          refine wpAnyH_done (by kernel_rfl) ?_ _
          have HF := Lib.hid (HR.out w7 (GCH2.out.trans hH7))
          clear hH hH5 hH6 hH7
          go_wp2_with fail
          exact HF.out
end Go.Proofs.YtmlbgfnddgbpbaaGreat

namespace Go.Proofs.YtmlbgfnddgbpbaaGreat
open Go.ChangeShapes Go.WideShapes Go.ChangeAt Go.RowKit

variable {H : Type} {enc : TypeId × Value → H}

set_option maxRecDepth 100000 in
theorem arg_forced {W : World} {base : Nat} {v : Value} {d : DataW H} {p : List MemPlace} (hv : Value.okWide Tryz.prog W .any base 39 v) (h : DataW.Trod enc Tryz.prog W 0 (fun _ => true) true 39 v d p) : ∃ v0 v1 xs ys, v = .agg #[v0, v1] ∧ IntsAt W v0 xs ∧ IntsAt W v1 ys := by
  obtain ⟨v0, v1, y0, y1, n, rfl, _, _, h0, h1⟩ := Go.Joins.open_agg2 Tryz.underlying39 (by kernel_rfl) (by kernel_rfl) hv h
  obtain ⟨xs, hx⟩ := cells_ints h0
  obtain ⟨ys, hy⟩ := cells_ints h1
  exact ⟨v0, v1, xs, ys, rfl, hx, hy⟩
end Go.Proofs.YtmlbgfnddgbpbaaGreat

namespace Go.Proofs.YtmlbgfnddgbpbaaGreat
open Go.ChangeShapes Go.WideShapes Go.ChangeAt Go.RowKit

theorem Tryz.own : ownKnob Tryz.prog.godebug = none := by kernel_rfl
theorem Tryz.laidOut : laidOutB Tryz.prog = true := by kernel_rfl

set_option maxRecDepth 100000 in
set_option maxHeartbeats 4000000 in
theorem blamePasses_lifted (os : Os) (started : os.Started) (H : Type) (enc : TypeId × Value → H) :
    ReturnsInHanded {} Tryz.checked os 6 .any (Rows.blamePassesSpec.pre6 enc Tryz.prog Tryz.f6 Rows.blamePassesRow.domain false) (Rows.blamePassesSpec.post enc Tryz.prog Tryz.f6 false true false false) := by
  refine returnsInHanded_of_change (C := Tryz.checked) Tryz.own started (by kernel_rfl) Tryz.func6
    (ChangeSpec.witness6 (enc := enc) (C := Tryz.checked) false ⟨#[], #[.slice none 0 0, .agg #[.slice none 0 0, .int .i64 0, .int .i64 0], .agg #[.slice none 0 0, .slice none 0 0]], []⟩ 8 (by kernel_rfl) (by kernel_rfl) (by kernel_rfl) (by kernel_rfl)) ?_
  intro W base args ds gs before hval0 hW hcnd _
  have hval : ∀ (j : Nat) t v, Tryz.f6.params[j]? = some t → args[j]? = some v → Value.okWide Tryz.prog W .any base t v := hval0
  have hW' := hW
  obtain ⟨p, q, hA0, hV, rfl, hfz, hnd⟩ := hW
  have hA : DataW.TrodAll enc Tryz.prog W 0 (fun _ => true) true Tryz.f6.params.toList args.toList ds p := hA0
  rw [Tryz.params6] at hA hval
  obtain ⟨v0, v1, v2, d0, d1, d2, p0, p1, p2, rfl, rfl, rfl, h0, h1, h2⟩ := trodAll_three hA
  obtain ⟨rfl, rfl⟩ := trodVars_none hV
  have hk0 := h0
  have hk1 := h1
  have hk2 := h2
  obtain ⟨x0, hx0⟩ := arg_lines (hval 0 35 v0 rfl rfl) h0
  obtain ⟨x1, rfl, hx1⟩ := arg_test (hval 1 37 v1 rfl rfl) h1
  obtain ⟨z20, z21, x20, x21, rfl, hx20, hx21⟩ := arg_forced (hval 2 39 v2 rfl rfl) h2
  clear hA0 hval0
  refine Calls.mono (blamePasses_any x0 x1.xs x1.o x1.wt x20 x21 W v0 x1.v z20 z21 hx0 hx1 hx20 hx21 (fun e W' => e = .returned (.bool true) ∧ Grow W W') (fun W' hg => ⟨rfl, hg⟩)) fun e W' ⟨he, hB⟩ => ?_
  subst he
  have hlt0 : ∀ x ∈ p0, x.block < W.heap.size := fun x hx => hW'.lt x (List.mem_append_left _ (List.mem_append_left _ (List.mem_append_left _ (hx))))
  have ht0 := Below.trod Tryz.laidOut (by kernel_rfl) (of_decide_eq_true (by kernel_rfl)) hk0 hB hlt0
  have hlt1 : ∀ x ∈ p1, x.block < W.heap.size := fun x hx => hW'.lt x (List.mem_append_left _ (List.mem_append_left _ (List.mem_append_right _ hx)))
  have ht1 := Below.trod Tryz.laidOut (by kernel_rfl) (of_decide_eq_true (by kernel_rfl)) hk1 hB hlt1
  have hlt2 : ∀ x ∈ p2, x.block < W.heap.size := fun x hx => hW'.lt x (List.mem_append_left _ (List.mem_append_right _ hx))
  have ht2 := Below.trod Tryz.laidOut (by kernel_rfl) (of_decide_eq_true (by kernel_rfl)) hk2 hB hlt2
  exact ⟨_, rfl, _, _, _, [], _, [], hW', trodAll_mk1 (shut_bool Tryz.underlying4 true), trodAll_mk3 ht0 ht1 ht2, rfl, hB.frame _, fun h => by cases h⟩

theorem blamePasses_holds : Rows.BlamePassesSaid :=
  OpenClaim.holds_of_wide 6 Tryz.f6 rfl rfl rfl rfl rfl rfl rfl ⟨rfl, rfl, rfl, rfl, rfl⟩ rfl rfl rfl rfl rfl (by kernel_rfl) Tryz.func6 (by kernel_rfl)
    (of_decide_eq_true (by kernel_rfl)) (by unfold Func.isWrapper; first | (rw [if_pos (by decide +kernel)]; kernel_rfl) | (rw [if_neg (by decide +kernel)]; exact ⟨rfl, rfl⟩))
    (fun os started H enc _ => blamePasses_lifted os started H enc)

end Go.Proofs.YtmlbgfnddgbpbaaGreat
