/- The walk of the statement CodeForces. -/
import Derived.Test.YtmaphlbmmemgcaaLawA
import Derived.Test.YtmaphlbmmemgcaaRefG
import Derived.Test.YtmaphlbmmemgcaaOpen
namespace Go.Proofs.Ytmaphlbmmemgcaa
open Go.RowKit

set_option maxRecDepth 100000 in
set_option maxHeartbeats 4000000 in
theorem codeForces_any (p : List Ln) (s : List Int) (xl xv : List Int) (w : World) (vp vs vxl vxv : Value) (hp : LinesAt w vp p) (hs : IntsAt w vs s) (hxl : IntsAt w vxl xl) (hxv : IntsAt w vxv xv) (R : Ending → World → Prop) (hR : ∀ w', Grow w w' → R (.returned (.bool true)) w') :
    Calls Try.prog 12 #[vp, vs, .agg #[vxl, vxv]] w R := by
  have HR := Lib.hid hR
  have HP_ := Lib.hid hp
  obtain ⟨adp, cpp, rfl, qp1, qp2, _⟩ := hp
  have HS_ := Lib.hid hs
  obtain ⟨ads, cps, rfl, qs1, qs2, _⟩ := hs
  have HXL_ := Lib.hid hxl
  obtain ⟨adxl, cpxl, rfl, qxl1, qxl2, _⟩ := hxl
  have HXV_ := Lib.hid hxv
  obtain ⟨adxv, cpxv, rfl, qxv1, qxv2, _⟩ := hxv
  clear hR
  by_cases gd0 : 100 < p.length
  · have hd0 : decide (100 < p.length) = true := decide_eq_true gd0
    have HD0 := Lib.hid hd0
    clear hd0 gd0
    go_enter Try.func12, Try.ntmps12
    go_wp2_with fail
    obtain ⟨wb0, hwb0⟩ : ∃ W, w.alloc (.cells #[.slice adxl xl.length cpxl, .slice adxv xv.length cpxv] 59) = W := ⟨_, rfl⟩
    rw [hwb0]
    have hgb0 : Grow w wb0 := hwb0 ▸ (Grow.refl w).alloc _
    have hsz0 : wb0.heap.size = w.heap.size + 1 := by rw [← hwb0, World.size_alloc]
    have hbb0 : wb0.heap[w.heap.size]? = some (.cells #[.slice adxl xl.length cpxl, .slice adxv xv.length cpxv] 59 (0, 0)) := by have h := heap_alloc_new w (.cells #[.slice adxl xl.length cpxl, .slice adxv xv.length cpxv] 59); rw [hwb0] at h; exact h
    clear hwb0
    have hgr1 : Grow w wb0 := by first | exact hgb0 | exact Grow.trans ((Grow.refl _).alloc _) hgb0 | exact Grow.trans (((Grow.refl _).alloc _).alloc _) hgb0 | exact Grow.trans ((((Grow.refl _).alloc _).alloc _).alloc _) hgb0 | exact Grow.trans (((((Grow.refl _).alloc _).alloc _).alloc _).alloc _) hgb0 | exact Grow.trans ((Grow.refl _).drewN _) hgb0
    have HP_1 := Lib.hid (HP_.out.grow hgr1)
    have HS_1 := Lib.hid (HS_.out.grow hgr1)
    have HXL_1 := Lib.hid (HXL_.out.grow hgr1)
    have HXV_1 := Lib.hid (HXV_.out.grow hgr1)
    have GCH1 := Lib.hid hgr1
    clear hgb0 hgr1 HP_ HS_ HXL_ HXV_
    obtain ⟨ex0, ex1⟩ := box2 hbb0
    have zx := lt_of_block hbb0
    have HBB0 := Lib.hid hbb0
    clear hbb0
    clear hsz0
    refine long_any p _ _ (by first | exact HP_1.out | exact HP_1.out.grow ((Grow.refl _).alloc _) | exact HP_1.out.grow (((Grow.refl _).alloc _).alloc _) | exact HP_1.out.grow ((((Grow.refl _).alloc _).alloc _).alloc _) | exact HP_1.out.grow (((((Grow.refl _).alloc _).alloc _).alloc _).alloc _) | exact HP_1.out.grow ((Grow.refl _).drewN _)) _ ?_
    rw [HD0.out]
    go_wp2_with fail
    refine known_any _ _ ?_
    intro wz2 hg2 
    have hgr2 : Grow wb0 wz2 := by first | exact hg2 | exact Grow.trans ((Grow.refl _).alloc _) hg2 | exact Grow.trans (((Grow.refl _).alloc _).alloc _) hg2 | exact Grow.trans ((((Grow.refl _).alloc _).alloc _).alloc _) hg2 | exact Grow.trans (((((Grow.refl _).alloc _).alloc _).alloc _).alloc _) hg2 | exact Grow.trans ((Grow.refl _).drewN _) hg2
    have HP_2 := Lib.hid (HP_1.out.grow hgr2)
    have HS_2 := Lib.hid (HS_1.out.grow hgr2)
    have HXL_2 := Lib.hid (HXL_1.out.grow hgr2)
    have HXV_2 := Lib.hid (HXV_1.out.grow hgr2)
    have GCH2 := Lib.hid (GCH1.out.trans hgr2)
    have hbx_2 := hgr2.blk HBB0.out
    clear ex0 ex1 zx
    obtain ⟨ex0, ex1⟩ := box2 hbx_2
    have zx := lt_of_block hbx_2
    have HBX0_2 := Lib.hid hbx_2
    clear hbx_2
    clear hg2 hgr2 HP_1 HS_1 HXL_1 HXV_1 GCH1 HBB0
    go_wp2_with fail
    first | exact HR.out _ (GCH2.out) | exact HR.out _ (Grow.trans GCH2.out ((Grow.refl _).alloc _)) | exact HR.out _ (Grow.trans GCH2.out (((Grow.refl _).alloc _).alloc _)) | exact HR.out _ (Grow.trans GCH2.out ((((Grow.refl _).alloc _).alloc _).alloc _)) | exact HR.out _ (Grow.trans GCH2.out (((((Grow.refl _).alloc _).alloc _).alloc _).alloc _)) | exact HR.out _ (Grow.trans GCH2.out ((Grow.refl _).drewN _))
  · have hd0 : decide (100 < p.length) = false := decide_eq_false gd0
    have HD0 := Lib.hid hd0
    clear hd0
    by_cases gd1 : 100 < s.length
    · have hd1 : decide (100 < s.length) = true := decide_eq_true gd1
      have HD1 := Lib.hid hd1
      clear hd1 gd1
      go_enter Try.func12, Try.ntmps12
      go_wp2_with fail
      obtain ⟨wb0, hwb0⟩ : ∃ W, w.alloc (.cells #[.slice adxl xl.length cpxl, .slice adxv xv.length cpxv] 59) = W := ⟨_, rfl⟩
      rw [hwb0]
      have hgb0 : Grow w wb0 := hwb0 ▸ (Grow.refl w).alloc _
      have hsz0 : wb0.heap.size = w.heap.size + 1 := by rw [← hwb0, World.size_alloc]
      have hbb0 : wb0.heap[w.heap.size]? = some (.cells #[.slice adxl xl.length cpxl, .slice adxv xv.length cpxv] 59 (0, 0)) := by have h := heap_alloc_new w (.cells #[.slice adxl xl.length cpxl, .slice adxv xv.length cpxv] 59); rw [hwb0] at h; exact h
      clear hwb0
      have hgr1 : Grow w wb0 := by first | exact hgb0 | exact Grow.trans ((Grow.refl _).alloc _) hgb0 | exact Grow.trans (((Grow.refl _).alloc _).alloc _) hgb0 | exact Grow.trans ((((Grow.refl _).alloc _).alloc _).alloc _) hgb0 | exact Grow.trans (((((Grow.refl _).alloc _).alloc _).alloc _).alloc _) hgb0 | exact Grow.trans ((Grow.refl _).drewN _) hgb0
      have HP_1 := Lib.hid (HP_.out.grow hgr1)
      have HS_1 := Lib.hid (HS_.out.grow hgr1)
      have HXL_1 := Lib.hid (HXL_.out.grow hgr1)
      have HXV_1 := Lib.hid (HXV_.out.grow hgr1)
      have GCH1 := Lib.hid hgr1
      clear hgb0 hgr1 HP_ HS_ HXL_ HXV_
      obtain ⟨ex0, ex1⟩ := box2 hbb0
      have zx := lt_of_block hbb0
      have HBB0 := Lib.hid hbb0
      clear hbb0
      clear hsz0
      refine long_any p _ _ (by first | exact HP_1.out | exact HP_1.out.grow ((Grow.refl _).alloc _) | exact HP_1.out.grow (((Grow.refl _).alloc _).alloc _) | exact HP_1.out.grow ((((Grow.refl _).alloc _).alloc _).alloc _) | exact HP_1.out.grow (((((Grow.refl _).alloc _).alloc _).alloc _).alloc _) | exact HP_1.out.grow ((Grow.refl _).drewN _)) _ ?_
      rw [HD0.out]
      go_wp2_with fail
      refine large_any s _ _ (by first | exact HS_1.out | exact HS_1.out.grow ((Grow.refl _).alloc _) | exact HS_1.out.grow (((Grow.refl _).alloc _).alloc _) | exact HS_1.out.grow ((((Grow.refl _).alloc _).alloc _).alloc _) | exact HS_1.out.grow (((((Grow.refl _).alloc _).alloc _).alloc _).alloc _) | exact HS_1.out.grow ((Grow.refl _).drewN _)) _ ?_
      rw [HD1.out]
      go_wp2_with fail
      refine known_any _ _ ?_
      intro wz2 hg2 
      have hgr2 : Grow wb0 wz2 := by first | exact hg2 | exact Grow.trans ((Grow.refl _).alloc _) hg2 | exact Grow.trans (((Grow.refl _).alloc _).alloc _) hg2 | exact Grow.trans ((((Grow.refl _).alloc _).alloc _).alloc _) hg2 | exact Grow.trans (((((Grow.refl _).alloc _).alloc _).alloc _).alloc _) hg2 | exact Grow.trans ((Grow.refl _).drewN _) hg2
      have HP_2 := Lib.hid (HP_1.out.grow hgr2)
      have HS_2 := Lib.hid (HS_1.out.grow hgr2)
      have HXL_2 := Lib.hid (HXL_1.out.grow hgr2)
      have HXV_2 := Lib.hid (HXV_1.out.grow hgr2)
      have GCH2 := Lib.hid (GCH1.out.trans hgr2)
      have hbx_2 := hgr2.blk HBB0.out
      clear ex0 ex1 zx
      obtain ⟨ex0, ex1⟩ := box2 hbx_2
      have zx := lt_of_block hbx_2
      have HBX0_2 := Lib.hid hbx_2
      clear hbx_2
      clear hg2 hgr2 HP_1 HS_1 HXL_1 HXV_1 GCH1 HBB0
      go_wp2_with fail
      first | exact HR.out _ (GCH2.out) | exact HR.out _ (Grow.trans GCH2.out ((Grow.refl _).alloc _)) | exact HR.out _ (Grow.trans GCH2.out (((Grow.refl _).alloc _).alloc _)) | exact HR.out _ (Grow.trans GCH2.out ((((Grow.refl _).alloc _).alloc _).alloc _)) | exact HR.out _ (Grow.trans GCH2.out (((((Grow.refl _).alloc _).alloc _).alloc _).alloc _)) | exact HR.out _ (Grow.trans GCH2.out ((Grow.refl _).drewN _))
    · have hd1 : decide (100 < s.length) = false := decide_eq_false gd1
      have HD1 := Lib.hid hd1
      clear hd1
      by_cases gd2 : 100 < xl.length
      · have hd2 : decide (100 < xl.length) = true := decide_eq_true gd2
        have HD2 := Lib.hid hd2
        clear hd2 gd2
        go_enter Try.func12, Try.ntmps12
        go_wp2_with fail
        obtain ⟨wb0, hwb0⟩ : ∃ W, w.alloc (.cells #[.slice adxl xl.length cpxl, .slice adxv xv.length cpxv] 59) = W := ⟨_, rfl⟩
        rw [hwb0]
        have hgb0 : Grow w wb0 := hwb0 ▸ (Grow.refl w).alloc _
        have hsz0 : wb0.heap.size = w.heap.size + 1 := by rw [← hwb0, World.size_alloc]
        have hbb0 : wb0.heap[w.heap.size]? = some (.cells #[.slice adxl xl.length cpxl, .slice adxv xv.length cpxv] 59 (0, 0)) := by have h := heap_alloc_new w (.cells #[.slice adxl xl.length cpxl, .slice adxv xv.length cpxv] 59); rw [hwb0] at h; exact h
        clear hwb0
        have hgr1 : Grow w wb0 := by first | exact hgb0 | exact Grow.trans ((Grow.refl _).alloc _) hgb0 | exact Grow.trans (((Grow.refl _).alloc _).alloc _) hgb0 | exact Grow.trans ((((Grow.refl _).alloc _).alloc _).alloc _) hgb0 | exact Grow.trans (((((Grow.refl _).alloc _).alloc _).alloc _).alloc _) hgb0 | exact Grow.trans ((Grow.refl _).drewN _) hgb0
        have HP_1 := Lib.hid (HP_.out.grow hgr1)
        have HS_1 := Lib.hid (HS_.out.grow hgr1)
        have HXL_1 := Lib.hid (HXL_.out.grow hgr1)
        have HXV_1 := Lib.hid (HXV_.out.grow hgr1)
        have GCH1 := Lib.hid hgr1
        clear hgb0 hgr1 HP_ HS_ HXL_ HXV_
        obtain ⟨ex0, ex1⟩ := box2 hbb0
        have zx := lt_of_block hbb0
        have HBB0 := Lib.hid hbb0
        clear hbb0
        clear hsz0
        refine long_any p _ _ (by first | exact HP_1.out | exact HP_1.out.grow ((Grow.refl _).alloc _) | exact HP_1.out.grow (((Grow.refl _).alloc _).alloc _) | exact HP_1.out.grow ((((Grow.refl _).alloc _).alloc _).alloc _) | exact HP_1.out.grow (((((Grow.refl _).alloc _).alloc _).alloc _).alloc _) | exact HP_1.out.grow ((Grow.refl _).drewN _)) _ ?_
        rw [HD0.out]
        go_wp2_with fail
        refine large_any s _ _ (by first | exact HS_1.out | exact HS_1.out.grow ((Grow.refl _).alloc _) | exact HS_1.out.grow (((Grow.refl _).alloc _).alloc _) | exact HS_1.out.grow ((((Grow.refl _).alloc _).alloc _).alloc _) | exact HS_1.out.grow (((((Grow.refl _).alloc _).alloc _).alloc _).alloc _) | exact HS_1.out.grow ((Grow.refl _).drewN _)) _ ?_
        rw [HD1.out]
        go_wp2_with fail
        refine large_any xl _ _ (by first | exact HXL_1.out | exact HXL_1.out.grow ((Grow.refl _).alloc _) | exact HXL_1.out.grow (((Grow.refl _).alloc _).alloc _) | exact HXL_1.out.grow ((((Grow.refl _).alloc _).alloc _).alloc _) | exact HXL_1.out.grow (((((Grow.refl _).alloc _).alloc _).alloc _).alloc _) | exact HXL_1.out.grow ((Grow.refl _).drewN _)) _ ?_
        rw [HD2.out]
        go_wp2_with fail
        refine known_any _ _ ?_
        intro wz2 hg2 
        have hgr2 : Grow wb0 wz2 := by first | exact hg2 | exact Grow.trans ((Grow.refl _).alloc _) hg2 | exact Grow.trans (((Grow.refl _).alloc _).alloc _) hg2 | exact Grow.trans ((((Grow.refl _).alloc _).alloc _).alloc _) hg2 | exact Grow.trans (((((Grow.refl _).alloc _).alloc _).alloc _).alloc _) hg2 | exact Grow.trans ((Grow.refl _).drewN _) hg2
        have HP_2 := Lib.hid (HP_1.out.grow hgr2)
        have HS_2 := Lib.hid (HS_1.out.grow hgr2)
        have HXL_2 := Lib.hid (HXL_1.out.grow hgr2)
        have HXV_2 := Lib.hid (HXV_1.out.grow hgr2)
        have GCH2 := Lib.hid (GCH1.out.trans hgr2)
        have hbx_2 := hgr2.blk HBB0.out
        clear ex0 ex1 zx
        obtain ⟨ex0, ex1⟩ := box2 hbx_2
        have zx := lt_of_block hbx_2
        have HBX0_2 := Lib.hid hbx_2
        clear hbx_2
        clear hg2 hgr2 HP_1 HS_1 HXL_1 HXV_1 GCH1 HBB0
        go_wp2_with fail
        first | exact HR.out _ (GCH2.out) | exact HR.out _ (Grow.trans GCH2.out ((Grow.refl _).alloc _)) | exact HR.out _ (Grow.trans GCH2.out (((Grow.refl _).alloc _).alloc _)) | exact HR.out _ (Grow.trans GCH2.out ((((Grow.refl _).alloc _).alloc _).alloc _)) | exact HR.out _ (Grow.trans GCH2.out (((((Grow.refl _).alloc _).alloc _).alloc _).alloc _)) | exact HR.out _ (Grow.trans GCH2.out ((Grow.refl _).drewN _))
      · have hd2 : decide (100 < xl.length) = false := decide_eq_false gd2
        have HD2 := Lib.hid hd2
        clear hd2
        by_cases gd3 : 100 < xv.length
        · have hd3 : decide (100 < xv.length) = true := decide_eq_true gd3
          have HD3 := Lib.hid hd3
          clear hd3 gd3
          go_enter Try.func12, Try.ntmps12
          go_wp2_with fail
          obtain ⟨wb0, hwb0⟩ : ∃ W, w.alloc (.cells #[.slice adxl xl.length cpxl, .slice adxv xv.length cpxv] 59) = W := ⟨_, rfl⟩
          rw [hwb0]
          have hgb0 : Grow w wb0 := hwb0 ▸ (Grow.refl w).alloc _
          have hsz0 : wb0.heap.size = w.heap.size + 1 := by rw [← hwb0, World.size_alloc]
          have hbb0 : wb0.heap[w.heap.size]? = some (.cells #[.slice adxl xl.length cpxl, .slice adxv xv.length cpxv] 59 (0, 0)) := by have h := heap_alloc_new w (.cells #[.slice adxl xl.length cpxl, .slice adxv xv.length cpxv] 59); rw [hwb0] at h; exact h
          clear hwb0
          have hgr1 : Grow w wb0 := by first | exact hgb0 | exact Grow.trans ((Grow.refl _).alloc _) hgb0 | exact Grow.trans (((Grow.refl _).alloc _).alloc _) hgb0 | exact Grow.trans ((((Grow.refl _).alloc _).alloc _).alloc _) hgb0 | exact Grow.trans (((((Grow.refl _).alloc _).alloc _).alloc _).alloc _) hgb0 | exact Grow.trans ((Grow.refl _).drewN _) hgb0
          have HP_1 := Lib.hid (HP_.out.grow hgr1)
          have HS_1 := Lib.hid (HS_.out.grow hgr1)
          have HXL_1 := Lib.hid (HXL_.out.grow hgr1)
          have HXV_1 := Lib.hid (HXV_.out.grow hgr1)
          have GCH1 := Lib.hid hgr1
          clear hgb0 hgr1 HP_ HS_ HXL_ HXV_
          obtain ⟨ex0, ex1⟩ := box2 hbb0
          have zx := lt_of_block hbb0
          have HBB0 := Lib.hid hbb0
          clear hbb0
          clear hsz0
          refine long_any p _ _ (by first | exact HP_1.out | exact HP_1.out.grow ((Grow.refl _).alloc _) | exact HP_1.out.grow (((Grow.refl _).alloc _).alloc _) | exact HP_1.out.grow ((((Grow.refl _).alloc _).alloc _).alloc _) | exact HP_1.out.grow (((((Grow.refl _).alloc _).alloc _).alloc _).alloc _) | exact HP_1.out.grow ((Grow.refl _).drewN _)) _ ?_
          rw [HD0.out]
          go_wp2_with fail
          refine large_any s _ _ (by first | exact HS_1.out | exact HS_1.out.grow ((Grow.refl _).alloc _) | exact HS_1.out.grow (((Grow.refl _).alloc _).alloc _) | exact HS_1.out.grow ((((Grow.refl _).alloc _).alloc _).alloc _) | exact HS_1.out.grow (((((Grow.refl _).alloc _).alloc _).alloc _).alloc _) | exact HS_1.out.grow ((Grow.refl _).drewN _)) _ ?_
          rw [HD1.out]
          go_wp2_with fail
          refine large_any xl _ _ (by first | exact HXL_1.out | exact HXL_1.out.grow ((Grow.refl _).alloc _) | exact HXL_1.out.grow (((Grow.refl _).alloc _).alloc _) | exact HXL_1.out.grow ((((Grow.refl _).alloc _).alloc _).alloc _) | exact HXL_1.out.grow (((((Grow.refl _).alloc _).alloc _).alloc _).alloc _) | exact HXL_1.out.grow ((Grow.refl _).drewN _)) _ ?_
          rw [HD2.out]
          go_wp2_with fail
          refine large_any xv _ _ (by first | exact HXV_1.out | exact HXV_1.out.grow ((Grow.refl _).alloc _) | exact HXV_1.out.grow (((Grow.refl _).alloc _).alloc _) | exact HXV_1.out.grow ((((Grow.refl _).alloc _).alloc _).alloc _) | exact HXV_1.out.grow (((((Grow.refl _).alloc _).alloc _).alloc _).alloc _) | exact HXV_1.out.grow ((Grow.refl _).drewN _)) _ ?_
          rw [HD3.out]
          go_wp2_with fail
          refine known_any _ _ ?_
          intro wz2 hg2 
          have hgr2 : Grow wb0 wz2 := by first | exact hg2 | exact Grow.trans ((Grow.refl _).alloc _) hg2 | exact Grow.trans (((Grow.refl _).alloc _).alloc _) hg2 | exact Grow.trans ((((Grow.refl _).alloc _).alloc _).alloc _) hg2 | exact Grow.trans (((((Grow.refl _).alloc _).alloc _).alloc _).alloc _) hg2 | exact Grow.trans ((Grow.refl _).drewN _) hg2
          have HP_2 := Lib.hid (HP_1.out.grow hgr2)
          have HS_2 := Lib.hid (HS_1.out.grow hgr2)
          have HXL_2 := Lib.hid (HXL_1.out.grow hgr2)
          have HXV_2 := Lib.hid (HXV_1.out.grow hgr2)
          have GCH2 := Lib.hid (GCH1.out.trans hgr2)
          have hbx_2 := hgr2.blk HBB0.out
          clear ex0 ex1 zx
          obtain ⟨ex0, ex1⟩ := box2 hbx_2
          have zx := lt_of_block hbx_2
          have HBX0_2 := Lib.hid hbx_2
          clear hbx_2
          clear hg2 hgr2 HP_1 HS_1 HXL_1 HXV_1 GCH1 HBB0
          go_wp2_with fail
          first | exact HR.out _ (GCH2.out) | exact HR.out _ (Grow.trans GCH2.out ((Grow.refl _).alloc _)) | exact HR.out _ (Grow.trans GCH2.out (((Grow.refl _).alloc _).alloc _)) | exact HR.out _ (Grow.trans GCH2.out ((((Grow.refl _).alloc _).alloc _).alloc _)) | exact HR.out _ (Grow.trans GCH2.out (((((Grow.refl _).alloc _).alloc _).alloc _).alloc _)) | exact HR.out _ (Grow.trans GCH2.out ((Grow.refl _).drewN _))
        · have hd3 : decide (100 < xv.length) = false := decide_eq_false gd3
          have HD3 := Lib.hid hd3
          clear hd3
          obtain ⟨e, he⟩ : ∃ z, frcE p s xl xv = z := ⟨_, rfl⟩
          have HE := Lib.hid he
          clear he
          obtain ⟨m, hm⟩ : ∃ z, frcM p s xl xv = z := ⟨_, rfl⟩
          have HM := Lib.hid hm
          clear hm
          go_enter Try.func12, Try.ntmps12
          go_wp2_with fail
          obtain ⟨wb0, hwb0⟩ : ∃ W, w.alloc (.cells #[.slice adxl xl.length cpxl, .slice adxv xv.length cpxv] 59) = W := ⟨_, rfl⟩
          rw [hwb0]
          have hgb0 : Grow w wb0 := hwb0 ▸ (Grow.refl w).alloc _
          have hsz0 : wb0.heap.size = w.heap.size + 1 := by rw [← hwb0, World.size_alloc]
          have hbb0 : wb0.heap[w.heap.size]? = some (.cells #[.slice adxl xl.length cpxl, .slice adxv xv.length cpxv] 59 (0, 0)) := by have h := heap_alloc_new w (.cells #[.slice adxl xl.length cpxl, .slice adxv xv.length cpxv] 59); rw [hwb0] at h; exact h
          clear hwb0
          have hgr1 : Grow w wb0 := by first | exact hgb0 | exact Grow.trans ((Grow.refl _).alloc _) hgb0 | exact Grow.trans (((Grow.refl _).alloc _).alloc _) hgb0 | exact Grow.trans ((((Grow.refl _).alloc _).alloc _).alloc _) hgb0 | exact Grow.trans (((((Grow.refl _).alloc _).alloc _).alloc _).alloc _) hgb0 | exact Grow.trans ((Grow.refl _).drewN _) hgb0
          have HP_1 := Lib.hid (HP_.out.grow hgr1)
          have HS_1 := Lib.hid (HS_.out.grow hgr1)
          have HXL_1 := Lib.hid (HXL_.out.grow hgr1)
          have HXV_1 := Lib.hid (HXV_.out.grow hgr1)
          have GCH1 := Lib.hid hgr1
          clear hgb0 hgr1 HP_ HS_ HXL_ HXV_
          obtain ⟨ex0, ex1⟩ := box2 hbb0
          have zx := lt_of_block hbb0
          have HBB0 := Lib.hid hbb0
          clear hbb0
          clear hsz0
          refine long_any p _ _ (by first | exact HP_1.out | exact HP_1.out.grow ((Grow.refl _).alloc _) | exact HP_1.out.grow (((Grow.refl _).alloc _).alloc _) | exact HP_1.out.grow ((((Grow.refl _).alloc _).alloc _).alloc _) | exact HP_1.out.grow (((((Grow.refl _).alloc _).alloc _).alloc _).alloc _) | exact HP_1.out.grow ((Grow.refl _).drewN _)) _ ?_
          rw [HD0.out]
          go_wp2_with fail
          refine large_any s _ _ (by first | exact HS_1.out | exact HS_1.out.grow ((Grow.refl _).alloc _) | exact HS_1.out.grow (((Grow.refl _).alloc _).alloc _) | exact HS_1.out.grow ((((Grow.refl _).alloc _).alloc _).alloc _) | exact HS_1.out.grow (((((Grow.refl _).alloc _).alloc _).alloc _).alloc _) | exact HS_1.out.grow ((Grow.refl _).drewN _)) _ ?_
          rw [HD1.out]
          go_wp2_with fail
          refine large_any xl _ _ (by first | exact HXL_1.out | exact HXL_1.out.grow ((Grow.refl _).alloc _) | exact HXL_1.out.grow (((Grow.refl _).alloc _).alloc _) | exact HXL_1.out.grow ((((Grow.refl _).alloc _).alloc _).alloc _) | exact HXL_1.out.grow (((((Grow.refl _).alloc _).alloc _).alloc _).alloc _) | exact HXL_1.out.grow ((Grow.refl _).drewN _)) _ ?_
          rw [HD2.out]
          go_wp2_with fail
          refine large_any xv _ _ (by first | exact HXV_1.out | exact HXV_1.out.grow ((Grow.refl _).alloc _) | exact HXV_1.out.grow (((Grow.refl _).alloc _).alloc _) | exact HXV_1.out.grow ((((Grow.refl _).alloc _).alloc _).alloc _) | exact HXV_1.out.grow (((((Grow.refl _).alloc _).alloc _).alloc _).alloc _) | exact HXV_1.out.grow ((Grow.refl _).drewN _)) _ ?_
          rw [HD3.out]
          go_wp2_with fail
          refine Force_any p s xl xv _ _ _ _ _ (by first | exact HP_1.out | exact HP_1.out.grow ((Grow.refl _).alloc _) | exact HP_1.out.grow (((Grow.refl _).alloc _).alloc _) | exact HP_1.out.grow ((((Grow.refl _).alloc _).alloc _).alloc _) | exact HP_1.out.grow (((((Grow.refl _).alloc _).alloc _).alloc _).alloc _) | exact HP_1.out.grow ((Grow.refl _).drewN _)) (by first | exact HS_1.out | exact HS_1.out.grow ((Grow.refl _).alloc _) | exact HS_1.out.grow (((Grow.refl _).alloc _).alloc _) | exact HS_1.out.grow ((((Grow.refl _).alloc _).alloc _).alloc _) | exact HS_1.out.grow (((((Grow.refl _).alloc _).alloc _).alloc _).alloc _) | exact HS_1.out.grow ((Grow.refl _).drewN _)) (by first | exact HXL_1.out | exact HXL_1.out.grow ((Grow.refl _).alloc _) | exact HXL_1.out.grow (((Grow.refl _).alloc _).alloc _) | exact HXL_1.out.grow ((((Grow.refl _).alloc _).alloc _).alloc _) | exact HXL_1.out.grow (((((Grow.refl _).alloc _).alloc _).alloc _).alloc _) | exact HXL_1.out.grow ((Grow.refl _).drewN _)) (by first | exact HXV_1.out | exact HXV_1.out.grow ((Grow.refl _).alloc _) | exact HXV_1.out.grow (((Grow.refl _).alloc _).alloc _) | exact HXV_1.out.grow ((((Grow.refl _).alloc _).alloc _).alloc _) | exact HXV_1.out.grow (((((Grow.refl _).alloc _).alloc _).alloc _).alloc _) | exact HXV_1.out.grow ((Grow.refl _).drewN _)) (by omega) _ ?_
          intro wz2 x2_0 hg2 hx2_0
          have hgr2 : Grow wb0 wz2 := by first | exact hg2 | exact Grow.trans ((Grow.refl _).alloc _) hg2 | exact Grow.trans (((Grow.refl _).alloc _).alloc _) hg2 | exact Grow.trans ((((Grow.refl _).alloc _).alloc _).alloc _) hg2 | exact Grow.trans (((((Grow.refl _).alloc _).alloc _).alloc _).alloc _) hg2 | exact Grow.trans ((Grow.refl _).drewN _) hg2
          have HP_2 := Lib.hid (HP_1.out.grow hgr2)
          have HS_2 := Lib.hid (HS_1.out.grow hgr2)
          have HXL_2 := Lib.hid (HXL_1.out.grow hgr2)
          have HXV_2 := Lib.hid (HXV_1.out.grow hgr2)
          have GCH2 := Lib.hid (GCH1.out.trans hgr2)
          have hbx_2 := hgr2.blk HBB0.out
          clear ex0 ex1 zx
          obtain ⟨ex0, ex1⟩ := box2 hbx_2
          have zx := lt_of_block hbx_2
          have HBX0_2 := Lib.hid hbx_2
          clear hbx_2
          clear hg2 hgr2 HP_1 HS_1 HXL_1 HXV_1 GCH1 HBB0
          rw [HM.out] at hx2_0
          have hyHA_2 := hx2_0
          have HA_2 := Lib.hid hyHA_2
          obtain ⟨aHA_2, cHA_2, rfl, qHA_21, qHA_22, _⟩ := hyHA_2
          clear hx2_0
          rw [HE.out]
          go_wp2_with fail
          refine rForce_any p s xl xv _ _ _ _ _ (by first | exact HP_2.out | exact HP_2.out.grow ((Grow.refl _).alloc _) | exact HP_2.out.grow (((Grow.refl _).alloc _).alloc _) | exact HP_2.out.grow ((((Grow.refl _).alloc _).alloc _).alloc _) | exact HP_2.out.grow (((((Grow.refl _).alloc _).alloc _).alloc _).alloc _) | exact HP_2.out.grow ((Grow.refl _).drewN _)) (by first | exact HS_2.out | exact HS_2.out.grow ((Grow.refl _).alloc _) | exact HS_2.out.grow (((Grow.refl _).alloc _).alloc _) | exact HS_2.out.grow ((((Grow.refl _).alloc _).alloc _).alloc _) | exact HS_2.out.grow (((((Grow.refl _).alloc _).alloc _).alloc _).alloc _) | exact HS_2.out.grow ((Grow.refl _).drewN _)) (by first | exact HXL_2.out | exact HXL_2.out.grow ((Grow.refl _).alloc _) | exact HXL_2.out.grow (((Grow.refl _).alloc _).alloc _) | exact HXL_2.out.grow ((((Grow.refl _).alloc _).alloc _).alloc _) | exact HXL_2.out.grow (((((Grow.refl _).alloc _).alloc _).alloc _).alloc _) | exact HXL_2.out.grow ((Grow.refl _).drewN _)) (by first | exact HXV_2.out | exact HXV_2.out.grow ((Grow.refl _).alloc _) | exact HXV_2.out.grow (((Grow.refl _).alloc _).alloc _) | exact HXV_2.out.grow ((((Grow.refl _).alloc _).alloc _).alloc _) | exact HXV_2.out.grow (((((Grow.refl _).alloc _).alloc _).alloc _).alloc _) | exact HXV_2.out.grow ((Grow.refl _).drewN _)) _ ?_
          intro wz3 x3_0 hg3 hx3_0
          have hgr3 : Grow wz2 wz3 := by first | exact hg3 | exact Grow.trans ((Grow.refl _).alloc _) hg3 | exact Grow.trans (((Grow.refl _).alloc _).alloc _) hg3 | exact Grow.trans ((((Grow.refl _).alloc _).alloc _).alloc _) hg3 | exact Grow.trans (((((Grow.refl _).alloc _).alloc _).alloc _).alloc _) hg3 | exact Grow.trans ((Grow.refl _).drewN _) hg3
          have HP_3 := Lib.hid (HP_2.out.grow hgr3)
          have HS_3 := Lib.hid (HS_2.out.grow hgr3)
          have HXL_3 := Lib.hid (HXL_2.out.grow hgr3)
          have HXV_3 := Lib.hid (HXV_2.out.grow hgr3)
          have HA_3 := Lib.hid (HA_2.out.grow hgr3)
          have GCH3 := Lib.hid (GCH2.out.trans hgr3)
          have hbx_3 := hgr3.blk HBX0_2.out
          clear ex0 ex1 zx
          obtain ⟨ex0, ex1⟩ := box2 hbx_3
          have zx := lt_of_block hbx_3
          have HBX0_3 := Lib.hid hbx_3
          clear hbx_3
          clear hg3 hgr3 HP_2 HS_2 HXL_2 HXV_2 HA_2 GCH2 HBX0_2
          rw [HM.out] at hx3_0
          have hyHC_3 := hx3_0
          have HC_3 := Lib.hid hyHC_3
          obtain ⟨aHC_3, cHC_3, rfl, qHC_31, qHC_32, _⟩ := hyHC_3
          clear hx3_0
          rw [HE.out]
          go_wp2_with fail
          refine sameInts_any m m _ _ _ (by first | exact HA_3.out | exact HA_3.out.grow ((Grow.refl _).alloc _) | exact HA_3.out.grow (((Grow.refl _).alloc _).alloc _) | exact HA_3.out.grow ((((Grow.refl _).alloc _).alloc _).alloc _) | exact HA_3.out.grow (((((Grow.refl _).alloc _).alloc _).alloc _).alloc _) | exact HA_3.out.grow ((Grow.refl _).drewN _)) (by first | exact HC_3.out | exact HC_3.out.grow ((Grow.refl _).alloc _) | exact HC_3.out.grow (((Grow.refl _).alloc _).alloc _) | exact HC_3.out.grow ((((Grow.refl _).alloc _).alloc _).alloc _) | exact HC_3.out.grow (((((Grow.refl _).alloc _).alloc _).alloc _).alloc _) | exact HC_3.out.grow ((Grow.refl _).drewN _)) _ ?_
          intro wz4 hg4 
          have hgr4 : Grow wz3 wz4 := by first | exact hg4 | exact Grow.trans ((Grow.refl _).alloc _) hg4 | exact Grow.trans (((Grow.refl _).alloc _).alloc _) hg4 | exact Grow.trans ((((Grow.refl _).alloc _).alloc _).alloc _) hg4 | exact Grow.trans (((((Grow.refl _).alloc _).alloc _).alloc _).alloc _) hg4 | exact Grow.trans ((Grow.refl _).drewN _) hg4
          have HP_4 := Lib.hid (HP_3.out.grow hgr4)
          have HS_4 := Lib.hid (HS_3.out.grow hgr4)
          have HXL_4 := Lib.hid (HXL_3.out.grow hgr4)
          have HXV_4 := Lib.hid (HXV_3.out.grow hgr4)
          have HA_4 := Lib.hid (HA_3.out.grow hgr4)
          have HC_4 := Lib.hid (HC_3.out.grow hgr4)
          have GCH4 := Lib.hid (GCH3.out.trans hgr4)
          have hbx_4 := hgr4.blk HBX0_3.out
          clear ex0 ex1 zx
          obtain ⟨ex0, ex1⟩ := box2 hbx_4
          have zx := lt_of_block hbx_4
          have HBX0_4 := Lib.hid hbx_4
          clear hbx_4
          clear hg4 hgr4 HP_3 HS_3 HXL_3 HXV_3 HA_3 HC_3 GCH3 HBX0_3
          rw [show decide (m = m) = true from decide_eq_true rfl]
          go_wp2_with fail
          refine known_any _ _ ?_
          intro wz5 hg5 
          have hgr5 : Grow wz4 wz5 := by first | exact hg5 | exact Grow.trans ((Grow.refl _).alloc _) hg5 | exact Grow.trans (((Grow.refl _).alloc _).alloc _) hg5 | exact Grow.trans ((((Grow.refl _).alloc _).alloc _).alloc _) hg5 | exact Grow.trans (((((Grow.refl _).alloc _).alloc _).alloc _).alloc _) hg5 | exact Grow.trans ((Grow.refl _).drewN _) hg5
          have HP_5 := Lib.hid (HP_4.out.grow hgr5)
          have HS_5 := Lib.hid (HS_4.out.grow hgr5)
          have HXL_5 := Lib.hid (HXL_4.out.grow hgr5)
          have HXV_5 := Lib.hid (HXV_4.out.grow hgr5)
          have HA_5 := Lib.hid (HA_4.out.grow hgr5)
          have HC_5 := Lib.hid (HC_4.out.grow hgr5)
          have GCH5 := Lib.hid (GCH4.out.trans hgr5)
          have hbx_5 := hgr5.blk HBX0_4.out
          clear ex0 ex1 zx
          obtain ⟨ex0, ex1⟩ := box2 hbx_5
          have zx := lt_of_block hbx_5
          have HBX0_5 := Lib.hid hbx_5
          clear hbx_5
          clear hg5 hgr5 HP_4 HS_4 HXL_4 HXV_4 HA_4 HC_4 GCH4 HBX0_4
          go_wp2_with fail
          first | exact HR.out _ (GCH5.out) | exact HR.out _ (Grow.trans GCH5.out ((Grow.refl _).alloc _)) | exact HR.out _ (Grow.trans GCH5.out (((Grow.refl _).alloc _).alloc _)) | exact HR.out _ (Grow.trans GCH5.out ((((Grow.refl _).alloc _).alloc _).alloc _)) | exact HR.out _ (Grow.trans GCH5.out (((((Grow.refl _).alloc _).alloc _).alloc _).alloc _)) | exact HR.out _ (Grow.trans GCH5.out ((Grow.refl _).drewN _))
end Go.Proofs.Ytmaphlbmmemgcaa
