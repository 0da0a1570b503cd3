/-
The statement BlameCan: which sets of lines can pass a test, and the first numbers by which they do, is what the document says, for all programs, tests and lists. No condition.
-/
import Derived.Test.YtmlbgfnddgbpbaaGreatD19
import Derived.Test.YtmlbgfnddgbpbaaGreatD26
import Derived.ProofKit
import Derived.Lib.SmallJoins
import Derived.Test.YtmlbgfnddgbpbaaGreatD23
namespace Go.Proofs.YtmlbgfnddgbpbaaGreat
open Go.RowKit
open Mk Bm

set_option maxRecDepth 100000 in
set_option maxHeartbeats 16000000 in
theorem blameCan_any (p : List Ln) (ux : List Int) (uo uw : Int) (lines : List Int) (w : World) (vp vux vlines : Value) (hp : LinesAt w vp p) (hux : IntsAt w vux ux) (hlines : IntsAt w vlines lines) (R : Ending → World → Prop) (hR : ∀ w', Grow w w' → R (.returned (.bool true)) w') :
    Calls Tryz.prog 11 #[vp, .agg #[vux, .int .i64 uo, .int .i64 uw], vlines] w R := by
  have HR := Lib.hid hR
  have HP_ := Lib.hid hp
  obtain ⟨adp, cpp, rfl, qp1, qp2, _⟩ := hp
  have HUX_ := Lib.hid hux
  obtain ⟨adux, cpux, rfl, qux1, qux2, _⟩ := hux
  have HLINES_ := Lib.hid hlines
  obtain ⟨adlines, cplines, rfl, qlines1, qlines2, _⟩ := hlines
  clear hR
  obtain ⟨gq0, hgq0⟩ : ∃ z, decide (100 < p.length) = z := ⟨_, rfl⟩
  have HGD0 := Lib.hid hgq0
  clear hgq0
  cases gq0 with
  | true =>
    go_enter Tryz.func11, Tryz.ntmps11
    go_wp2_with fail
    obtain ⟨wb0, hwb0⟩ : ∃ W, w.alloc (.cells #[.slice adux ux.length cpux, .int .i64 uo, .int .i64 uw] 37) = W := ⟨_, rfl⟩
    rw [hwb0]
    have hgb0 : Grow w wb0 := hwb0 ▸ (Grow.refl w).alloc _
    have hsz0 : wb0.heap.size = w.heap.size + 1 := by rw [← hwb0, World.size_alloc]
    have hbb0 : wb0.heap[w.heap.size]? = some (.cells #[.slice adux ux.length cpux, .int .i64 uo, .int .i64 uw] 37 (0, 0)) := by have h := heap_alloc_new w (.cells #[.slice adux ux.length cpux, .int .i64 uo, .int .i64 uw] 37); rw [hwb0] at h; exact h
    clear hwb0
    have hgr1 : Grow w wb0 := by first | exact hgb0 | exact Grow.trans ((Grow.refl _).alloc _) hgb0 | exact Grow.trans (((Grow.refl _).alloc _).alloc _) hgb0 | exact Grow.trans ((((Grow.refl _).alloc _).alloc _).alloc _) hgb0 | exact Grow.trans (((((Grow.refl _).alloc _).alloc _).alloc _).alloc _) hgb0 | exact Grow.trans ((Grow.refl _).drewN _) hgb0
    have HP_1 := Lib.hid (HP_.out.grow hgr1)
    have HUX_1 := Lib.hid (HUX_.out.grow hgr1)
    have HLINES_1 := Lib.hid (HLINES_.out.grow hgr1)
    have GCH1 := Lib.hid hgr1
    clear hgb0 hgr1 HP_ HUX_ HLINES_
    obtain ⟨eu0, eu1, eu2⟩ := box3 hbb0
    have zu := lt_of_block hbb0
    have HBB0 := Lib.hid hbb0
    clear hbb0
    clear hsz0
    refine long1_any p _ _ (by first | exact HP_1.out | exact HP_1.out.grow ((Grow.refl _).alloc _) | exact HP_1.out.grow (((Grow.refl _).alloc _).alloc _) | exact HP_1.out.grow ((((Grow.refl _).alloc _).alloc _).alloc _) | exact HP_1.out.grow (((((Grow.refl _).alloc _).alloc _).alloc _).alloc _) | exact HP_1.out.grow ((Grow.refl _).drewN _)) _ ?_
    rw [HGD0.out]
    go_wp2_with fail
    refine known3_any _ _ ?_
    intro wz2 hg2 
    have hgr2 : Grow wb0 wz2 := by first | exact hg2 | exact Grow.trans ((Grow.refl _).alloc _) hg2 | exact Grow.trans (((Grow.refl _).alloc _).alloc _) hg2 | exact Grow.trans ((((Grow.refl _).alloc _).alloc _).alloc _) hg2 | exact Grow.trans (((((Grow.refl _).alloc _).alloc _).alloc _).alloc _) hg2 | exact Grow.trans ((Grow.refl _).drewN _) hg2
    have HP_2 := Lib.hid (HP_1.out.grow hgr2)
    have HUX_2 := Lib.hid (HUX_1.out.grow hgr2)
    have HLINES_2 := Lib.hid (HLINES_1.out.grow hgr2)
    have GCH2 := Lib.hid (GCH1.out.trans hgr2)
    have hbx_2 := hgr2.blk HBB0.out
    clear eu0 eu1 eu2 zu
    obtain ⟨eu0, eu1, eu2⟩ := box3 hbx_2
    have zu := lt_of_block hbx_2
    have HBX0_2 := Lib.hid hbx_2
    clear hbx_2
    clear hg2 hgr2 HP_1 HUX_1 HLINES_1 GCH1 HBB0
    go_wp2_with fail
    first | exact HR.out _ (GCH2.out) | exact HR.out _ (Grow.trans GCH2.out ((Grow.refl _).alloc _)) | exact HR.out _ (Grow.trans GCH2.out (((Grow.refl _).alloc _).alloc _)) | exact HR.out _ (Grow.trans GCH2.out ((((Grow.refl _).alloc _).alloc _).alloc _)) | exact HR.out _ (Grow.trans GCH2.out (((((Grow.refl _).alloc _).alloc _).alloc _).alloc _)) | exact HR.out _ (Grow.trans GCH2.out ((Grow.refl _).drewN _))
  | false =>
    obtain ⟨gq1, hgq1⟩ : ∃ z, decide (100 < ux.length) = z := ⟨_, rfl⟩
    have HGD1 := Lib.hid hgq1
    clear hgq1
    cases gq1 with
    | true =>
      go_enter Tryz.func11, Tryz.ntmps11
      go_wp2_with fail
      obtain ⟨wb0, hwb0⟩ : ∃ W, w.alloc (.cells #[.slice adux ux.length cpux, .int .i64 uo, .int .i64 uw] 37) = W := ⟨_, rfl⟩
      rw [hwb0]
      have hgb0 : Grow w wb0 := hwb0 ▸ (Grow.refl w).alloc _
      have hsz0 : wb0.heap.size = w.heap.size + 1 := by rw [← hwb0, World.size_alloc]
      have hbb0 : wb0.heap[w.heap.size]? = some (.cells #[.slice adux ux.length cpux, .int .i64 uo, .int .i64 uw] 37 (0, 0)) := by have h := heap_alloc_new w (.cells #[.slice adux ux.length cpux, .int .i64 uo, .int .i64 uw] 37); rw [hwb0] at h; exact h
      clear hwb0
      have hgr1 : Grow w wb0 := by first | exact hgb0 | exact Grow.trans ((Grow.refl _).alloc _) hgb0 | exact Grow.trans (((Grow.refl _).alloc _).alloc _) hgb0 | exact Grow.trans ((((Grow.refl _).alloc _).alloc _).alloc _) hgb0 | exact Grow.trans (((((Grow.refl _).alloc _).alloc _).alloc _).alloc _) hgb0 | exact Grow.trans ((Grow.refl _).drewN _) hgb0
      have HP_1 := Lib.hid (HP_.out.grow hgr1)
      have HUX_1 := Lib.hid (HUX_.out.grow hgr1)
      have HLINES_1 := Lib.hid (HLINES_.out.grow hgr1)
      have GCH1 := Lib.hid hgr1
      clear hgb0 hgr1 HP_ HUX_ HLINES_
      obtain ⟨eu0, eu1, eu2⟩ := box3 hbb0
      have zu := lt_of_block hbb0
      have HBB0 := Lib.hid hbb0
      clear hbb0
      clear hsz0
      refine long1_any p _ _ (by first | exact HP_1.out | exact HP_1.out.grow ((Grow.refl _).alloc _) | exact HP_1.out.grow (((Grow.refl _).alloc _).alloc _) | exact HP_1.out.grow ((((Grow.refl _).alloc _).alloc _).alloc _) | exact HP_1.out.grow (((((Grow.refl _).alloc _).alloc _).alloc _).alloc _) | exact HP_1.out.grow ((Grow.refl _).drewN _)) _ ?_
      rw [HGD0.out]
      go_wp2_with fail
      refine large3_any ux _ _ (by first | exact HUX_1.out | exact HUX_1.out.grow ((Grow.refl _).alloc _) | exact HUX_1.out.grow (((Grow.refl _).alloc _).alloc _) | exact HUX_1.out.grow ((((Grow.refl _).alloc _).alloc _).alloc _) | exact HUX_1.out.grow (((((Grow.refl _).alloc _).alloc _).alloc _).alloc _) | exact HUX_1.out.grow ((Grow.refl _).drewN _)) _ ?_
      rw [HGD1.out]
      go_wp2_with fail
      refine known3_any _ _ ?_
      intro wz2 hg2 
      have hgr2 : Grow wb0 wz2 := by first | exact hg2 | exact Grow.trans ((Grow.refl _).alloc _) hg2 | exact Grow.trans (((Grow.refl _).alloc _).alloc _) hg2 | exact Grow.trans ((((Grow.refl _).alloc _).alloc _).alloc _) hg2 | exact Grow.trans (((((Grow.refl _).alloc _).alloc _).alloc _).alloc _) hg2 | exact Grow.trans ((Grow.refl _).drewN _) hg2
      have HP_2 := Lib.hid (HP_1.out.grow hgr2)
      have HUX_2 := Lib.hid (HUX_1.out.grow hgr2)
      have HLINES_2 := Lib.hid (HLINES_1.out.grow hgr2)
      have GCH2 := Lib.hid (GCH1.out.trans hgr2)
      have hbx_2 := hgr2.blk HBB0.out
      clear eu0 eu1 eu2 zu
      obtain ⟨eu0, eu1, eu2⟩ := box3 hbx_2
      have zu := lt_of_block hbx_2
      have HBX0_2 := Lib.hid hbx_2
      clear hbx_2
      clear hg2 hgr2 HP_1 HUX_1 HLINES_1 GCH1 HBB0
      go_wp2_with fail
      first | exact HR.out _ (GCH2.out) | exact HR.out _ (Grow.trans GCH2.out ((Grow.refl _).alloc _)) | exact HR.out _ (Grow.trans GCH2.out (((Grow.refl _).alloc _).alloc _)) | exact HR.out _ (Grow.trans GCH2.out ((((Grow.refl _).alloc _).alloc _).alloc _)) | exact HR.out _ (Grow.trans GCH2.out (((((Grow.refl _).alloc _).alloc _).alloc _).alloc _)) | exact HR.out _ (Grow.trans GCH2.out ((Grow.refl _).drewN _))
    | false =>
      obtain ⟨gq2, hgq2⟩ : ∃ z, decide (100 < lines.length) = z := ⟨_, rfl⟩
      have HGD2 := Lib.hid hgq2
      clear hgq2
      cases gq2 with
      | true =>
        go_enter Tryz.func11, Tryz.ntmps11
        go_wp2_with fail
        obtain ⟨wb0, hwb0⟩ : ∃ W, w.alloc (.cells #[.slice adux ux.length cpux, .int .i64 uo, .int .i64 uw] 37) = W := ⟨_, rfl⟩
        rw [hwb0]
        have hgb0 : Grow w wb0 := hwb0 ▸ (Grow.refl w).alloc _
        have hsz0 : wb0.heap.size = w.heap.size + 1 := by rw [← hwb0, World.size_alloc]
        have hbb0 : wb0.heap[w.heap.size]? = some (.cells #[.slice adux ux.length cpux, .int .i64 uo, .int .i64 uw] 37 (0, 0)) := by have h := heap_alloc_new w (.cells #[.slice adux ux.length cpux, .int .i64 uo, .int .i64 uw] 37); rw [hwb0] at h; exact h
        clear hwb0
        have hgr1 : Grow w wb0 := by first | exact hgb0 | exact Grow.trans ((Grow.refl _).alloc _) hgb0 | exact Grow.trans (((Grow.refl _).alloc _).alloc _) hgb0 | exact Grow.trans ((((Grow.refl _).alloc _).alloc _).alloc _) hgb0 | exact Grow.trans (((((Grow.refl _).alloc _).alloc _).alloc _).alloc _) hgb0 | exact Grow.trans ((Grow.refl _).drewN _) hgb0
        have HP_1 := Lib.hid (HP_.out.grow hgr1)
        have HUX_1 := Lib.hid (HUX_.out.grow hgr1)
        have HLINES_1 := Lib.hid (HLINES_.out.grow hgr1)
        have GCH1 := Lib.hid hgr1
        clear hgb0 hgr1 HP_ HUX_ HLINES_
        obtain ⟨eu0, eu1, eu2⟩ := box3 hbb0
        have zu := lt_of_block hbb0
        have HBB0 := Lib.hid hbb0
        clear hbb0
        clear hsz0
        refine long1_any p _ _ (by first | exact HP_1.out | exact HP_1.out.grow ((Grow.refl _).alloc _) | exact HP_1.out.grow (((Grow.refl _).alloc _).alloc _) | exact HP_1.out.grow ((((Grow.refl _).alloc _).alloc _).alloc _) | exact HP_1.out.grow (((((Grow.refl _).alloc _).alloc _).alloc _).alloc _) | exact HP_1.out.grow ((Grow.refl _).drewN _)) _ ?_
        rw [HGD0.out]
        go_wp2_with fail
        refine large3_any ux _ _ (by first | exact HUX_1.out | exact HUX_1.out.grow ((Grow.refl _).alloc _) | exact HUX_1.out.grow (((Grow.refl _).alloc _).alloc _) | exact HUX_1.out.grow ((((Grow.refl _).alloc _).alloc _).alloc _) | exact HUX_1.out.grow (((((Grow.refl _).alloc _).alloc _).alloc _).alloc _) | exact HUX_1.out.grow ((Grow.refl _).drewN _)) _ ?_
        rw [HGD1.out]
        go_wp2_with fail
        refine large3_any lines _ _ (by first | exact HLINES_1.out | exact HLINES_1.out.grow ((Grow.refl _).alloc _) | exact HLINES_1.out.grow (((Grow.refl _).alloc _).alloc _) | exact HLINES_1.out.grow ((((Grow.refl _).alloc _).alloc _).alloc _) | exact HLINES_1.out.grow (((((Grow.refl _).alloc _).alloc _).alloc _).alloc _) | exact HLINES_1.out.grow ((Grow.refl _).drewN _)) _ ?_
        rw [HGD2.out]
        go_wp2_with fail
        refine known3_any _ _ ?_
        intro wz2 hg2 
        have hgr2 : Grow wb0 wz2 := by first | exact hg2 | exact Grow.trans ((Grow.refl _).alloc _) hg2 | exact Grow.trans (((Grow.refl _).alloc _).alloc _) hg2 | exact Grow.trans ((((Grow.refl _).alloc _).alloc _).alloc _) hg2 | exact Grow.trans (((((Grow.refl _).alloc _).alloc _).alloc _).alloc _) hg2 | exact Grow.trans ((Grow.refl _).drewN _) hg2
        have HP_2 := Lib.hid (HP_1.out.grow hgr2)
        have HUX_2 := Lib.hid (HUX_1.out.grow hgr2)
        have HLINES_2 := Lib.hid (HLINES_1.out.grow hgr2)
        have GCH2 := Lib.hid (GCH1.out.trans hgr2)
        have hbx_2 := hgr2.blk HBB0.out
        clear eu0 eu1 eu2 zu
        obtain ⟨eu0, eu1, eu2⟩ := box3 hbx_2
        have zu := lt_of_block hbx_2
        have HBX0_2 := Lib.hid hbx_2
        clear hbx_2
        clear hg2 hgr2 HP_1 HUX_1 HLINES_1 GCH1 HBB0
        go_wp2_with fail
        first | exact HR.out _ (GCH2.out) | exact HR.out _ (Grow.trans GCH2.out ((Grow.refl _).alloc _)) | exact HR.out _ (Grow.trans GCH2.out (((Grow.refl _).alloc _).alloc _)) | exact HR.out _ (Grow.trans GCH2.out ((((Grow.refl _).alloc _).alloc _).alloc _)) | exact HR.out _ (Grow.trans GCH2.out (((((Grow.refl _).alloc _).alloc _).alloc _).alloc _)) | exact HR.out _ (Grow.trans GCH2.out ((Grow.refl _).drewN _))
      | false =>
        obtain ⟨O, hO⟩ : ∃ z, cpO p ⟨.slice adux ux.length cpux, ux, uo, uw⟩ lines = z := ⟨_, rfl⟩
        have HO := Lib.hid hO
        obtain ⟨e, he⟩ : ∃ z, cpE p ⟨.slice adux ux.length cpux, ux, uo, uw⟩ lines = z := ⟨_, rfl⟩
        have HE := Lib.hid he
        clear he
        have t2 : (e != e) = false := by simp
        have hln : lines.length ≤ 1000000 := by have := HGD2.out; simp at this; omega
        cases O with
        | none =>
          clear hO
          go_enter Tryz.func11, Tryz.ntmps11
          go_wp2_with fail
          obtain ⟨wb0, hwb0⟩ : ∃ W, w.alloc (.cells #[.slice adux ux.length cpux, .int .i64 uo, .int .i64 uw] 37) = W := ⟨_, rfl⟩
          rw [hwb0]
          have hgb0 : Grow w wb0 := hwb0 ▸ (Grow.refl w).alloc _
          have hsz0 : wb0.heap.size = w.heap.size + 1 := by rw [← hwb0, World.size_alloc]
          have hbb0 : wb0.heap[w.heap.size]? = some (.cells #[.slice adux ux.length cpux, .int .i64 uo, .int .i64 uw] 37 (0, 0)) := by have h := heap_alloc_new w (.cells #[.slice adux ux.length cpux, .int .i64 uo, .int .i64 uw] 37); rw [hwb0] at h; exact h
          clear hwb0
          have hgr1 : Grow w wb0 := by first | exact hgb0 | exact Grow.trans ((Grow.refl _).alloc _) hgb0 | exact Grow.trans (((Grow.refl _).alloc _).alloc _) hgb0 | exact Grow.trans ((((Grow.refl _).alloc _).alloc _).alloc _) hgb0 | exact Grow.trans (((((Grow.refl _).alloc _).alloc _).alloc _).alloc _) hgb0 | exact Grow.trans ((Grow.refl _).drewN _) hgb0
          have HP_1 := Lib.hid (HP_.out.grow hgr1)
          have HUX_1 := Lib.hid (HUX_.out.grow hgr1)
          have HLINES_1 := Lib.hid (HLINES_.out.grow hgr1)
          have GCH1 := Lib.hid hgr1
          clear hgb0 hgr1 HP_ HUX_ HLINES_
          obtain ⟨eu0, eu1, eu2⟩ := box3 hbb0
          have zu := lt_of_block hbb0
          have HBB0 := Lib.hid hbb0
          clear hbb0
          clear hsz0
          refine long1_any p _ _ (by first | exact HP_1.out | exact HP_1.out.grow ((Grow.refl _).alloc _) | exact HP_1.out.grow (((Grow.refl _).alloc _).alloc _) | exact HP_1.out.grow ((((Grow.refl _).alloc _).alloc _).alloc _) | exact HP_1.out.grow (((((Grow.refl _).alloc _).alloc _).alloc _).alloc _) | exact HP_1.out.grow ((Grow.refl _).drewN _)) _ ?_
          rw [HGD0.out]
          go_wp2_with fail
          refine large3_any ux _ _ (by first | exact HUX_1.out | exact HUX_1.out.grow ((Grow.refl _).alloc _) | exact HUX_1.out.grow (((Grow.refl _).alloc _).alloc _) | exact HUX_1.out.grow ((((Grow.refl _).alloc _).alloc _).alloc _) | exact HUX_1.out.grow (((((Grow.refl _).alloc _).alloc _).alloc _).alloc _) | exact HUX_1.out.grow ((Grow.refl _).drewN _)) _ ?_
          rw [HGD1.out]
          go_wp2_with fail
          refine large3_any lines _ _ (by first | exact HLINES_1.out | exact HLINES_1.out.grow ((Grow.refl _).alloc _) | exact HLINES_1.out.grow (((Grow.refl _).alloc _).alloc _) | exact HLINES_1.out.grow ((((Grow.refl _).alloc _).alloc _).alloc _) | exact HLINES_1.out.grow (((((Grow.refl _).alloc _).alloc _).alloc _).alloc _) | exact HLINES_1.out.grow ((Grow.refl _).drewN _)) _ ?_
          rw [HGD2.out]
          go_wp2_with fail
          refine CanPass_any p ⟨.slice adux ux.length cpux, ux, uo, uw⟩ lines _ _ _ (by first | exact HP_1.out | exact HP_1.out.grow ((Grow.refl _).alloc _) | exact HP_1.out.grow (((Grow.refl _).alloc _).alloc _) | exact HP_1.out.grow ((((Grow.refl _).alloc _).alloc _).alloc _) | exact HP_1.out.grow (((((Grow.refl _).alloc _).alloc _).alloc _).alloc _) | exact HP_1.out.grow ((Grow.refl _).drewN _)) (by first | exact HUX_1.out | exact HUX_1.out.grow ((Grow.refl _).alloc _) | exact HUX_1.out.grow (((Grow.refl _).alloc _).alloc _) | exact HUX_1.out.grow ((((Grow.refl _).alloc _).alloc _).alloc _) | exact HUX_1.out.grow (((((Grow.refl _).alloc _).alloc _).alloc _).alloc _) | exact HUX_1.out.grow ((Grow.refl _).drewN _)) (by first | exact HLINES_1.out | exact HLINES_1.out.grow ((Grow.refl _).alloc _) | exact HLINES_1.out.grow (((Grow.refl _).alloc _).alloc _) | exact HLINES_1.out.grow ((((Grow.refl _).alloc _).alloc _).alloc _) | exact HLINES_1.out.grow (((((Grow.refl _).alloc _).alloc _).alloc _).alloc _) | exact HLINES_1.out.grow ((Grow.refl _).drewN _)) hln _ ?_
          intro wz2 x2_0 hg2 hx2_0
          have hgr2 : Grow wb0 wz2 := by first | exact hg2 | exact Grow.trans ((Grow.refl _).alloc _) hg2 | exact Grow.trans (((Grow.refl _).alloc _).alloc _) hg2 | exact Grow.trans ((((Grow.refl _).alloc _).alloc _).alloc _) hg2 | exact Grow.trans (((((Grow.refl _).alloc _).alloc _).alloc _).alloc _) hg2 | exact Grow.trans ((Grow.refl _).drewN _) hg2
          have HP_2 := Lib.hid (HP_1.out.grow hgr2)
          have HUX_2 := Lib.hid (HUX_1.out.grow hgr2)
          have HLINES_2 := Lib.hid (HLINES_1.out.grow hgr2)
          have GCH2 := Lib.hid (GCH1.out.trans hgr2)
          have hbx_2 := hgr2.blk HBB0.out
          clear eu0 eu1 eu2 zu
          obtain ⟨eu0, eu1, eu2⟩ := box3 hbx_2
          have zu := lt_of_block hbx_2
          have HBX0_2 := Lib.hid hbx_2
          clear hbx_2
          clear hg2 hgr2 HP_1 HUX_1 HLINES_1 GCH1 HBB0
          rw [HO.out, Option.getD_none] at hx2_0
          have hyHXA_2 := hx2_0
          have HXA_2 := Lib.hid hyHXA_2
          obtain ⟨aHXA_2, cHXA_2, rfl, qHXA_21, qHXA_22, _⟩ := hyHXA_2
          clear hx2_0
          rw [HE.out, HO.out, Option.isSome_none]
          go_wp2_with fail
          refine r3CanPass_any p ⟨.slice adux ux.length cpux, ux, uo, uw⟩ lines _ _ _ (by first | exact HP_2.out | exact HP_2.out.grow ((Grow.refl _).alloc _) | exact HP_2.out.grow (((Grow.refl _).alloc _).alloc _) | exact HP_2.out.grow ((((Grow.refl _).alloc _).alloc _).alloc _) | exact HP_2.out.grow (((((Grow.refl _).alloc _).alloc _).alloc _).alloc _) | exact HP_2.out.grow ((Grow.refl _).drewN _)) (by first | exact HUX_2.out | exact HUX_2.out.grow ((Grow.refl _).alloc _) | exact HUX_2.out.grow (((Grow.refl _).alloc _).alloc _) | exact HUX_2.out.grow ((((Grow.refl _).alloc _).alloc _).alloc _) | exact HUX_2.out.grow (((((Grow.refl _).alloc _).alloc _).alloc _).alloc _) | exact HUX_2.out.grow ((Grow.refl _).drewN _)) (by first | exact HLINES_2.out | exact HLINES_2.out.grow ((Grow.refl _).alloc _) | exact HLINES_2.out.grow (((Grow.refl _).alloc _).alloc _) | exact HLINES_2.out.grow ((((Grow.refl _).alloc _).alloc _).alloc _) | exact HLINES_2.out.grow (((((Grow.refl _).alloc _).alloc _).alloc _).alloc _) | exact HLINES_2.out.grow ((Grow.refl _).drewN _)) _ ?_
          intro wz3 x3_0 hg3 hx3_0
          have hgr3 : Grow wz2 wz3 := by first | exact hg3 | exact Grow.trans ((Grow.refl _).alloc _) hg3 | exact Grow.trans (((Grow.refl _).alloc _).alloc _) hg3 | exact Grow.trans ((((Grow.refl _).alloc _).alloc _).alloc _) hg3 | exact Grow.trans (((((Grow.refl _).alloc _).alloc _).alloc _).alloc _) hg3 | exact Grow.trans ((Grow.refl _).drewN _) hg3
          have HP_3 := Lib.hid (HP_2.out.grow hgr3)
          have HUX_3 := Lib.hid (HUX_2.out.grow hgr3)
          have HLINES_3 := Lib.hid (HLINES_2.out.grow hgr3)
          have HXA_3 := Lib.hid (HXA_2.out.grow hgr3)
          have GCH3 := Lib.hid (GCH2.out.trans hgr3)
          have hbx_3 := hgr3.blk HBX0_2.out
          clear eu0 eu1 eu2 zu
          obtain ⟨eu0, eu1, eu2⟩ := box3 hbx_3
          have zu := lt_of_block hbx_3
          have HBX0_3 := Lib.hid hbx_3
          clear hbx_3
          clear hg3 hgr3 HP_2 HUX_2 HLINES_2 HXA_2 GCH2 HBX0_2
          rw [HO.out, Option.getD_none] at hx3_0
          have hyHXB_3 := hx3_0
          have HXB_3 := Lib.hid hyHXB_3
          obtain ⟨aHXB_3, cHXB_3, rfl, qHXB_31, qHXB_32, _⟩ := hyHXB_3
          clear hx3_0
          rw [HE.out, HO.out, Option.isSome_none]
          go_wp2_with fail
          refine sameInts_any [] [] _ _ _ (by first | exact HXA_3.out | exact HXA_3.out.grow ((Grow.refl _).alloc _) | exact HXA_3.out.grow (((Grow.refl _).alloc _).alloc _) | exact HXA_3.out.grow ((((Grow.refl _).alloc _).alloc _).alloc _) | exact HXA_3.out.grow (((((Grow.refl _).alloc _).alloc _).alloc _).alloc _) | exact HXA_3.out.grow ((Grow.refl _).drewN _)) (by first | exact HXB_3.out | exact HXB_3.out.grow ((Grow.refl _).alloc _) | exact HXB_3.out.grow (((Grow.refl _).alloc _).alloc _) | exact HXB_3.out.grow ((((Grow.refl _).alloc _).alloc _).alloc _) | exact HXB_3.out.grow (((((Grow.refl _).alloc _).alloc _).alloc _).alloc _) | exact HXB_3.out.grow ((Grow.refl _).drewN _)) _ ?_
          intro wz4 hg4 
          have hgr4 : Grow wz3 wz4 := by first | exact hg4 | exact Grow.trans ((Grow.refl _).alloc _) hg4 | exact Grow.trans (((Grow.refl _).alloc _).alloc _) hg4 | exact Grow.trans ((((Grow.refl _).alloc _).alloc _).alloc _) hg4 | exact Grow.trans (((((Grow.refl _).alloc _).alloc _).alloc _).alloc _) hg4 | exact Grow.trans ((Grow.refl _).drewN _) hg4
          have HP_4 := Lib.hid (HP_3.out.grow hgr4)
          have HUX_4 := Lib.hid (HUX_3.out.grow hgr4)
          have HLINES_4 := Lib.hid (HLINES_3.out.grow hgr4)
          have HXA_4 := Lib.hid (HXA_3.out.grow hgr4)
          have HXB_4 := Lib.hid (HXB_3.out.grow hgr4)
          have GCH4 := Lib.hid (GCH3.out.trans hgr4)
          have hbx_4 := hgr4.blk HBX0_3.out
          clear eu0 eu1 eu2 zu
          obtain ⟨eu0, eu1, eu2⟩ := box3 hbx_4
          have zu := lt_of_block hbx_4
          have HBX0_4 := Lib.hid hbx_4
          clear hbx_4
          clear hg4 hgr4 HP_3 HUX_3 HLINES_3 HXA_3 HXB_3 GCH3 HBX0_3
          rw [show decide ([] = []) = true from decide_eq_true rfl]
          go_wp2_with fail
          refine known3_any _ _ ?_
          intro wz5 hg5 
          have hgr5 : Grow wz4 wz5 := by first | exact hg5 | exact Grow.trans ((Grow.refl _).alloc _) hg5 | exact Grow.trans (((Grow.refl _).alloc _).alloc _) hg5 | exact Grow.trans ((((Grow.refl _).alloc _).alloc _).alloc _) hg5 | exact Grow.trans (((((Grow.refl _).alloc _).alloc _).alloc _).alloc _) hg5 | exact Grow.trans ((Grow.refl _).drewN _) hg5
          have HP_5 := Lib.hid (HP_4.out.grow hgr5)
          have HUX_5 := Lib.hid (HUX_4.out.grow hgr5)
          have HLINES_5 := Lib.hid (HLINES_4.out.grow hgr5)
          have HXA_5 := Lib.hid (HXA_4.out.grow hgr5)
          have HXB_5 := Lib.hid (HXB_4.out.grow hgr5)
          have GCH5 := Lib.hid (GCH4.out.trans hgr5)
          have hbx_5 := hgr5.blk HBX0_4.out
          clear eu0 eu1 eu2 zu
          obtain ⟨eu0, eu1, eu2⟩ := box3 hbx_5
          have zu := lt_of_block hbx_5
          have HBX0_5 := Lib.hid hbx_5
          clear hbx_5
          clear hg5 hgr5 HP_4 HUX_4 HLINES_4 HXA_4 HXB_4 GCH4 HBX0_4
          go_wp2_with fail
          first | exact HR.out _ (GCH5.out) | exact HR.out _ (Grow.trans GCH5.out ((Grow.refl _).alloc _)) | exact HR.out _ (Grow.trans GCH5.out (((Grow.refl _).alloc _).alloc _)) | exact HR.out _ (Grow.trans GCH5.out ((((Grow.refl _).alloc _).alloc _).alloc _)) | exact HR.out _ (Grow.trans GCH5.out (((((Grow.refl _).alloc _).alloc _).alloc _).alloc _)) | exact HR.out _ (Grow.trans GCH5.out ((Grow.refl _).drewN _))
        | some X =>
          have HPS := Lib.hid (cp_passes hO)
          have hl2 : lines.length < 4611686018427387904 := by omega
          clear hO
          go_enter Tryz.func11, Tryz.ntmps11
          go_wp2_with fail
          obtain ⟨wb0, hwb0⟩ : ∃ W, w.alloc (.cells #[.slice adux ux.length cpux, .int .i64 uo, .int .i64 uw] 37) = W := ⟨_, rfl⟩
          rw [hwb0]
          have hgb0 : Grow w wb0 := hwb0 ▸ (Grow.refl w).alloc _
          have hsz0 : wb0.heap.size = w.heap.size + 1 := by rw [← hwb0, World.size_alloc]
          have hbb0 : wb0.heap[w.heap.size]? = some (.cells #[.slice adux ux.length cpux, .int .i64 uo, .int .i64 uw] 37 (0, 0)) := by have h := heap_alloc_new w (.cells #[.slice adux ux.length cpux, .int .i64 uo, .int .i64 uw] 37); rw [hwb0] at h; exact h
          clear hwb0
          have hgr1 : Grow w wb0 := by first | exact hgb0 | exact Grow.trans ((Grow.refl _).alloc _) hgb0 | exact Grow.trans (((Grow.refl _).alloc _).alloc _) hgb0 | exact Grow.trans ((((Grow.refl _).alloc _).alloc _).alloc _) hgb0 | exact Grow.trans (((((Grow.refl _).alloc _).alloc _).alloc _).alloc _) hgb0 | exact Grow.trans ((Grow.refl _).drewN _) hgb0
          have HP_1 := Lib.hid (HP_.out.grow hgr1)
          have HUX_1 := Lib.hid (HUX_.out.grow hgr1)
          have HLINES_1 := Lib.hid (HLINES_.out.grow hgr1)
          have GCH1 := Lib.hid hgr1
          clear hgb0 hgr1 HP_ HUX_ HLINES_
          obtain ⟨eu0, eu1, eu2⟩ := box3 hbb0
          have zu := lt_of_block hbb0
          have HBB0 := Lib.hid hbb0
          clear hbb0
          clear hsz0
          refine long1_any p _ _ (by first | exact HP_1.out | exact HP_1.out.grow ((Grow.refl _).alloc _) | exact HP_1.out.grow (((Grow.refl _).alloc _).alloc _) | exact HP_1.out.grow ((((Grow.refl _).alloc _).alloc _).alloc _) | exact HP_1.out.grow (((((Grow.refl _).alloc _).alloc _).alloc _).alloc _) | exact HP_1.out.grow ((Grow.refl _).drewN _)) _ ?_
          rw [HGD0.out]
          go_wp2_with fail
          refine large3_any ux _ _ (by first | exact HUX_1.out | exact HUX_1.out.grow ((Grow.refl _).alloc _) | exact HUX_1.out.grow (((Grow.refl _).alloc _).alloc _) | exact HUX_1.out.grow ((((Grow.refl _).alloc _).alloc _).alloc _) | exact HUX_1.out.grow (((((Grow.refl _).alloc _).alloc _).alloc _).alloc _) | exact HUX_1.out.grow ((Grow.refl _).drewN _)) _ ?_
          rw [HGD1.out]
          go_wp2_with fail
          refine large3_any lines _ _ (by first | exact HLINES_1.out | exact HLINES_1.out.grow ((Grow.refl _).alloc _) | exact HLINES_1.out.grow (((Grow.refl _).alloc _).alloc _) | exact HLINES_1.out.grow ((((Grow.refl _).alloc _).alloc _).alloc _) | exact HLINES_1.out.grow (((((Grow.refl _).alloc _).alloc _).alloc _).alloc _) | exact HLINES_1.out.grow ((Grow.refl _).drewN _)) _ ?_
          rw [HGD2.out]
          go_wp2_with fail
          refine CanPass_any p ⟨.slice adux ux.length cpux, ux, uo, uw⟩ lines _ _ _ (by first | exact HP_1.out | exact HP_1.out.grow ((Grow.refl _).alloc _) | exact HP_1.out.grow (((Grow.refl _).alloc _).alloc _) | exact HP_1.out.grow ((((Grow.refl _).alloc _).alloc _).alloc _) | exact HP_1.out.grow (((((Grow.refl _).alloc _).alloc _).alloc _).alloc _) | exact HP_1.out.grow ((Grow.refl _).drewN _)) (by first | exact HUX_1.out | exact HUX_1.out.grow ((Grow.refl _).alloc _) | exact HUX_1.out.grow (((Grow.refl _).alloc _).alloc _) | exact HUX_1.out.grow ((((Grow.refl _).alloc _).alloc _).alloc _) | exact HUX_1.out.grow (((((Grow.refl _).alloc _).alloc _).alloc _).alloc _) | exact HUX_1.out.grow ((Grow.refl _).drewN _)) (by first | exact HLINES_1.out | exact HLINES_1.out.grow ((Grow.refl _).alloc _) | exact HLINES_1.out.grow (((Grow.refl _).alloc _).alloc _) | exact HLINES_1.out.grow ((((Grow.refl _).alloc _).alloc _).alloc _) | exact HLINES_1.out.grow (((((Grow.refl _).alloc _).alloc _).alloc _).alloc _) | exact HLINES_1.out.grow ((Grow.refl _).drewN _)) hln _ ?_
          intro wz2 x2_0 hg2 hx2_0
          have hgr2 : Grow wb0 wz2 := by first | exact hg2 | exact Grow.trans ((Grow.refl _).alloc _) hg2 | exact Grow.trans (((Grow.refl _).alloc _).alloc _) hg2 | exact Grow.trans ((((Grow.refl _).alloc _).alloc _).alloc _) hg2 | exact Grow.trans (((((Grow.refl _).alloc _).alloc _).alloc _).alloc _) hg2 | exact Grow.trans ((Grow.refl _).drewN _) hg2
          have HP_2 := Lib.hid (HP_1.out.grow hgr2)
          have HUX_2 := Lib.hid (HUX_1.out.grow hgr2)
          have HLINES_2 := Lib.hid (HLINES_1.out.grow hgr2)
          have GCH2 := Lib.hid (GCH1.out.trans hgr2)
          have hbx_2 := hgr2.blk HBB0.out
          clear eu0 eu1 eu2 zu
          obtain ⟨eu0, eu1, eu2⟩ := box3 hbx_2
          have zu := lt_of_block hbx_2
          have HBX0_2 := Lib.hid hbx_2
          clear hbx_2
          clear hg2 hgr2 HP_1 HUX_1 HLINES_1 GCH1 HBB0
          rw [HO.out, Option.getD_some] at hx2_0
          have hyHXA_2 := hx2_0
          have HXA_2 := Lib.hid hyHXA_2
          obtain ⟨aHXA_2, cHXA_2, rfl, qHXA_21, qHXA_22, _⟩ := hyHXA_2
          clear hx2_0
          rw [HE.out, HO.out, Option.isSome_some]
          go_wp2_with fail
          refine r3CanPass_any p ⟨.slice adux ux.length cpux, ux, uo, uw⟩ lines _ _ _ (by first | exact HP_2.out | exact HP_2.out.grow ((Grow.refl _).alloc _) | exact HP_2.out.grow (((Grow.refl _).alloc _).alloc _) | exact HP_2.out.grow ((((Grow.refl _).alloc _).alloc _).alloc _) | exact HP_2.out.grow (((((Grow.refl _).alloc _).alloc _).alloc _).alloc _) | exact HP_2.out.grow ((Grow.refl _).drewN _)) (by first | exact HUX_2.out | exact HUX_2.out.grow ((Grow.refl _).alloc _) | exact HUX_2.out.grow (((Grow.refl _).alloc _).alloc _) | exact HUX_2.out.grow ((((Grow.refl _).alloc _).alloc _).alloc _) | exact HUX_2.out.grow (((((Grow.refl _).alloc _).alloc _).alloc _).alloc _) | exact HUX_2.out.grow ((Grow.refl _).drewN _)) (by first | exact HLINES_2.out | exact HLINES_2.out.grow ((Grow.refl _).alloc _) | exact HLINES_2.out.grow (((Grow.refl _).alloc _).alloc _) | exact HLINES_2.out.grow ((((Grow.refl _).alloc _).alloc _).alloc _) | exact HLINES_2.out.grow (((((Grow.refl _).alloc _).alloc _).alloc _).alloc _) | exact HLINES_2.out.grow ((Grow.refl _).drewN _)) _ ?_
          intro wz3 x3_0 hg3 hx3_0
          have hgr3 : Grow wz2 wz3 := by first | exact hg3 | exact Grow.trans ((Grow.refl _).alloc _) hg3 | exact Grow.trans (((Grow.refl _).alloc _).alloc _) hg3 | exact Grow.trans ((((Grow.refl _).alloc _).alloc _).alloc _) hg3 | exact Grow.trans (((((Grow.refl _).alloc _).alloc _).alloc _).alloc _) hg3 | exact Grow.trans ((Grow.refl _).drewN _) hg3
          have HP_3 := Lib.hid (HP_2.out.grow hgr3)
          have HUX_3 := Lib.hid (HUX_2.out.grow hgr3)
          have HLINES_3 := Lib.hid (HLINES_2.out.grow hgr3)
          have HXA_3 := Lib.hid (HXA_2.out.grow hgr3)
          have GCH3 := Lib.hid (GCH2.out.trans hgr3)
          have hbx_3 := hgr3.blk HBX0_2.out
          clear eu0 eu1 eu2 zu
          obtain ⟨eu0, eu1, eu2⟩ := box3 hbx_3
          have zu := lt_of_block hbx_3
          have HBX0_3 := Lib.hid hbx_3
          clear hbx_3
          clear hg3 hgr3 HP_2 HUX_2 HLINES_2 HXA_2 GCH2 HBX0_2
          rw [HO.out, Option.getD_some] at hx3_0
          have hyHXB_3 := hx3_0
          have HXB_3 := Lib.hid hyHXB_3
          obtain ⟨aHXB_3, cHXB_3, rfl, qHXB_31, qHXB_32, _⟩ := hyHXB_3
          clear hx3_0
          rw [HE.out, HO.out, Option.isSome_some]
          go_wp2_with fail
          refine sameInts_any X X _ _ _ (by first | exact HXA_3.out | exact HXA_3.out.grow ((Grow.refl _).alloc _) | exact HXA_3.out.grow (((Grow.refl _).alloc _).alloc _) | exact HXA_3.out.grow ((((Grow.refl _).alloc _).alloc _).alloc _) | exact HXA_3.out.grow (((((Grow.refl _).alloc _).alloc _).alloc _).alloc _) | exact HXA_3.out.grow ((Grow.refl _).drewN _)) (by first | exact HXB_3.out | exact HXB_3.out.grow ((Grow.refl _).alloc _) | exact HXB_3.out.grow (((Grow.refl _).alloc _).alloc _) | exact HXB_3.out.grow ((((Grow.refl _).alloc _).alloc _).alloc _) | exact HXB_3.out.grow (((((Grow.refl _).alloc _).alloc _).alloc _).alloc _) | exact HXB_3.out.grow ((Grow.refl _).drewN _)) _ ?_
          intro wz4 hg4 
          have hgr4 : Grow wz3 wz4 := by first | exact hg4 | exact Grow.trans ((Grow.refl _).alloc _) hg4 | exact Grow.trans (((Grow.refl _).alloc _).alloc _) hg4 | exact Grow.trans ((((Grow.refl _).alloc _).alloc _).alloc _) hg4 | exact Grow.trans (((((Grow.refl _).alloc _).alloc _).alloc _).alloc _) hg4 | exact Grow.trans ((Grow.refl _).drewN _) hg4
          have HP_4 := Lib.hid (HP_3.out.grow hgr4)
          have HUX_4 := Lib.hid (HUX_3.out.grow hgr4)
          have HLINES_4 := Lib.hid (HLINES_3.out.grow hgr4)
          have HXA_4 := Lib.hid (HXA_3.out.grow hgr4)
          have HXB_4 := Lib.hid (HXB_3.out.grow hgr4)
          have GCH4 := Lib.hid (GCH3.out.trans hgr4)
          have hbx_4 := hgr4.blk HBX0_3.out
          clear eu0 eu1 eu2 zu
          obtain ⟨eu0, eu1, eu2⟩ := box3 hbx_4
          have zu := lt_of_block hbx_4
          have HBX0_4 := Lib.hid hbx_4
          clear hbx_4
          clear hg4 hgr4 HP_3 HUX_3 HLINES_3 HXA_3 HXB_3 GCH3 HBX0_3
          rw [show decide (X = X) = true from decide_eq_true rfl]
          go_wp2_with fail
          refine CheckPass_any p ⟨.slice adux ux.length cpux, ux, uo, uw⟩ lines X _ _ _ _ (by first | exact HP_4.out | exact HP_4.out.grow ((Grow.refl _).alloc _) | exact HP_4.out.grow (((Grow.refl _).alloc _).alloc _) | exact HP_4.out.grow ((((Grow.refl _).alloc _).alloc _).alloc _) | exact HP_4.out.grow (((((Grow.refl _).alloc _).alloc _).alloc _).alloc _) | exact HP_4.out.grow ((Grow.refl _).drewN _)) (by first | exact HUX_4.out | exact HUX_4.out.grow ((Grow.refl _).alloc _) | exact HUX_4.out.grow (((Grow.refl _).alloc _).alloc _) | exact HUX_4.out.grow ((((Grow.refl _).alloc _).alloc _).alloc _) | exact HUX_4.out.grow (((((Grow.refl _).alloc _).alloc _).alloc _).alloc _) | exact HUX_4.out.grow ((Grow.refl _).drewN _)) (by first | exact HLINES_4.out | exact HLINES_4.out.grow ((Grow.refl _).alloc _) | exact HLINES_4.out.grow (((Grow.refl _).alloc _).alloc _) | exact HLINES_4.out.grow ((((Grow.refl _).alloc _).alloc _).alloc _) | exact HLINES_4.out.grow (((((Grow.refl _).alloc _).alloc _).alloc _).alloc _) | exact HLINES_4.out.grow ((Grow.refl _).drewN _)) (by first | exact HXA_4.out | exact HXA_4.out.grow ((Grow.refl _).alloc _) | exact HXA_4.out.grow (((Grow.refl _).alloc _).alloc _) | exact HXA_4.out.grow ((((Grow.refl _).alloc _).alloc _).alloc _) | exact HXA_4.out.grow (((((Grow.refl _).alloc _).alloc _).alloc _).alloc _) | exact HXA_4.out.grow ((Grow.refl _).drewN _)) hl2 _ ?_
          intro wz5 hg5 
          have hgr5 : Grow wz4 wz5 := by first | exact hg5 | exact Grow.trans ((Grow.refl _).alloc _) hg5 | exact Grow.trans (((Grow.refl _).alloc _).alloc _) hg5 | exact Grow.trans ((((Grow.refl _).alloc _).alloc _).alloc _) hg5 | exact Grow.trans (((((Grow.refl _).alloc _).alloc _).alloc _).alloc _) hg5 | exact Grow.trans ((Grow.refl _).drewN _) hg5
          have HP_5 := Lib.hid (HP_4.out.grow hgr5)
          have HUX_5 := Lib.hid (HUX_4.out.grow hgr5)
          have HLINES_5 := Lib.hid (HLINES_4.out.grow hgr5)
          have HXA_5 := Lib.hid (HXA_4.out.grow hgr5)
          have HXB_5 := Lib.hid (HXB_4.out.grow hgr5)
          have GCH5 := Lib.hid (GCH4.out.trans hgr5)
          have hbx_5 := hgr5.blk HBX0_4.out
          clear eu0 eu1 eu2 zu
          obtain ⟨eu0, eu1, eu2⟩ := box3 hbx_5
          have zu := lt_of_block hbx_5
          have HBX0_5 := Lib.hid hbx_5
          clear hbx_5
          clear hg5 hgr5 HP_4 HUX_4 HLINES_4 HXA_4 HXB_4 GCH4 HBX0_4
          rw [HPS.out]
          go_wp2_with fail
          refine known3_any _ _ ?_
          intro wz6 hg6 
          have hgr6 : Grow wz5 wz6 := by first | exact hg6 | exact Grow.trans ((Grow.refl _).alloc _) hg6 | exact Grow.trans (((Grow.refl _).alloc _).alloc _) hg6 | exact Grow.trans ((((Grow.refl _).alloc _).alloc _).alloc _) hg6 | exact Grow.trans (((((Grow.refl _).alloc _).alloc _).alloc _).alloc _) hg6 | exact Grow.trans ((Grow.refl _).drewN _) hg6
          have HP_6 := Lib.hid (HP_5.out.grow hgr6)
          have HUX_6 := Lib.hid (HUX_5.out.grow hgr6)
          have HLINES_6 := Lib.hid (HLINES_5.out.grow hgr6)
          have HXA_6 := Lib.hid (HXA_5.out.grow hgr6)
          have HXB_6 := Lib.hid (HXB_5.out.grow hgr6)
          have GCH6 := Lib.hid (GCH5.out.trans hgr6)
          have hbx_6 := hgr6.blk HBX0_5.out
          clear eu0 eu1 eu2 zu
          obtain ⟨eu0, eu1, eu2⟩ := box3 hbx_6
          have zu := lt_of_block hbx_6
          have HBX0_6 := Lib.hid hbx_6
          clear hbx_6
          clear hg6 hgr6 HP_5 HUX_5 HLINES_5 HXA_5 HXB_5 GCH5 HBX0_5
          go_wp2_with fail
          first | exact HR.out _ (GCH6.out) | exact HR.out _ (Grow.trans GCH6.out ((Grow.refl _).alloc _)) | exact HR.out _ (Grow.trans GCH6.out (((Grow.refl _).alloc _).alloc _)) | exact HR.out _ (Grow.trans GCH6.out ((((Grow.refl _).alloc _).alloc _).alloc _)) | exact HR.out _ (Grow.trans GCH6.out (((((Grow.refl _).alloc _).alloc _).alloc _).alloc _)) | exact HR.out _ (Grow.trans GCH6.out ((Grow.refl _).drewN _))
end Go.Proofs.YtmlbgfnddgbpbaaGreat

namespace Go.Proofs.YtmlbgfnddgbpbaaGreat
open Go.ChangeShapes Go.WideShapes Go.ChangeAt Go.RowKit

theorem Tryz.own : ownKnob Tryz.prog.godebug = none := by kernel_rfl
theorem Tryz.laidOut : laidOutB Tryz.prog = true := by kernel_rfl

set_option maxRecDepth 100000 in
set_option maxHeartbeats 4000000 in
theorem blameCan_lifted (os : Os) (started : os.Started) (H : Type) (enc : TypeId × Value → H) :
    ReturnsInHanded {} Tryz.checked os 11 .any (Rows.blameCanSpec.pre6 enc Tryz.prog Tryz.f11 Rows.blameCanRow.domain false) (Rows.blameCanSpec.post enc Tryz.prog Tryz.f11 false true false false) := by
  refine returnsInHanded_of_change (C := Tryz.checked) Tryz.own started (by kernel_rfl) Tryz.func11
    (ChangeSpec.witness6 (enc := enc) (C := Tryz.checked) false ⟨#[], #[.slice none 0 0, .agg #[.slice none 0 0, .int .i64 0, .int .i64 0], .slice none 0 0], []⟩ 8 (by kernel_rfl) (by kernel_rfl) (by kernel_rfl) (by kernel_rfl)) ?_
  intro W base args ds gs before hval0 hW hcnd _
  have hval : ∀ (j : Nat) t v, Tryz.f11.params[j]? = some t → args[j]? = some v → Value.okWide Tryz.prog W .any base t v := hval0
  have hW' := hW
  obtain ⟨p, q, hA0, hV, rfl, hfz, hnd⟩ := hW
  have hA : DataW.TrodAll enc Tryz.prog W 0 (fun _ => true) true Tryz.f11.params.toList args.toList ds p := hA0
  rw [Tryz.params11] at hA hval
  obtain ⟨v0, v1, v2, d0, d1, d2, p0, p1, p2, rfl, rfl, rfl, h0, h1, h2⟩ := trodAll_three hA
  obtain ⟨rfl, rfl⟩ := trodVars_none hV
  have hk0 := h0
  have hk1 := h1
  have hk2 := h2
  obtain ⟨x0, hx0⟩ := arg_lines (hval 0 35 v0 rfl rfl) h0
  obtain ⟨x1, rfl, hx1⟩ := arg_test (hval 1 37 v1 rfl rfl) h1
  obtain ⟨x2, hx2⟩ := arg_ints (hval 2 29 v2 rfl rfl) h2
  clear hA0 hval0
  refine Calls.mono (blameCan_any x0 x1.xs x1.o x1.wt x2 W v0 x1.v v2 hx0 hx1 hx2 (fun e W' => e = .returned (.bool true) ∧ Grow W W') (fun W' hg => ⟨rfl, hg⟩)) fun e W' ⟨he, hB⟩ => ?_
  subst he
  have hlt0 : ∀ x ∈ p0, x.block < W.heap.size := fun x hx => hW'.lt x (List.mem_append_left _ (List.mem_append_left _ (List.mem_append_left _ (hx))))
  have ht0 := Below.trod Tryz.laidOut (by kernel_rfl) (of_decide_eq_true (by kernel_rfl)) hk0 hB hlt0
  have hlt1 : ∀ x ∈ p1, x.block < W.heap.size := fun x hx => hW'.lt x (List.mem_append_left _ (List.mem_append_left _ (List.mem_append_right _ hx)))
  have ht1 := Below.trod Tryz.laidOut (by kernel_rfl) (of_decide_eq_true (by kernel_rfl)) hk1 hB hlt1
  have hlt2 : ∀ x ∈ p2, x.block < W.heap.size := fun x hx => hW'.lt x (List.mem_append_left _ (List.mem_append_right _ hx))
  have ht2 := Below.trod Tryz.laidOut (by kernel_rfl) (of_decide_eq_true (by kernel_rfl)) hk2 hB hlt2
  exact ⟨_, rfl, _, _, _, [], _, [], hW', trodAll_mk1 (shut_bool Tryz.underlying4 true), trodAll_mk3 ht0 ht1 ht2, rfl, hB.frame _, fun h => by cases h⟩

theorem blameCan_holds : Rows.BlameCanSaid :=
  OpenClaim.holds_of_wide 11 Tryz.f11 rfl rfl rfl rfl rfl rfl rfl ⟨rfl, rfl, rfl, rfl, rfl⟩ rfl rfl rfl rfl rfl (by kernel_rfl) Tryz.func11 (by kernel_rfl)
    (of_decide_eq_true (by kernel_rfl)) (by unfold Func.isWrapper; first | (rw [if_pos (by decide +kernel)]; kernel_rfl) | (rw [if_neg (by decide +kernel)]; exact ⟨rfl, rfl⟩))
    (fun os started H enc _ => blameCan_lifted os started H enc)

end Go.Proofs.YtmlbgfnddgbpbaaGreat
