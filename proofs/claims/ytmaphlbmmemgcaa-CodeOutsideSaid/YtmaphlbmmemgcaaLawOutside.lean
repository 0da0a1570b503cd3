/- The walk of the statement CodeOutside. -/
import Derived.Test.YtmaphlbmmemgcaaLawA
import Derived.Test.YtmaphlbmmemgcaaPlO
import Derived.Test.YtmaphlbmmemgcaaRefC
import Derived.Test.YtmaphlbmmemgcaaCodeJ
import Derived.Test.YtmaphlbmmemgcaaOpen
import Derived.StillTailTactics
namespace Go.Proofs.Ytmaphlbmmemgcaa
open Go.RowKit

set_option maxHeartbeats 2000000 in
theorem rHas_any (xs : List Int) (x : Int) (v : Value) (w : World) (hx : IntsAt w v xs) (R : Ending → World → Prop) (hR : R (.returned (.bool (xs.contains x))) w) :
    Calls Try.prog 52 #[v, .int .i64 x] w R := by
  have HX := Lib.hid hx
  have HR := Lib.hid hR
  obtain ⟨a, c, rfl, h1, h2, _⟩ := hx
  clear hR
  go_enter Try.func52, Try.ntmps52
  go_wp2_with fail
  go_loopw [5] (fun i wr => ∃ k : Nat, k ≤ xs.length ∧ i = .int .i64 k ∧ wr = w ∧ ∀ y ∈ xs.take k, (y == x) = false) (fun i _ => xs.length - (intOf i).toNat)
  case atStart => exact ⟨0, Nat.zero_le _, rfl, rfl, by simp⟩
  case round =>
    obtain ⟨k, hk, rfl, rfl, hno⟩ := hrel
    have HNO := Lib.hid hno
    clear hno
    by_cases hlt : k < xs.length
    · obtain ⟨y, hy⟩ : ∃ y, xs[k]? = some y := ⟨_, List.getElem?_eq_getElem hlt⟩
      obtain ⟨b, o, rfl, _, ey⟩ := ints_at HX.out hy
      have HY := Lib.hid hy
      clear hy
      cases hyx : (y == x) with
      | true =>
        have hc : xs.contains x = true := by
          have e : y = x := by simpa using hyx
          subst e
          simpa using List.mem_of_getElem? HY.out
        rw [hc] at HR
        clear hc
        go_wp2_with fail
        exact HR.out
      | false =>
        have HYX := Lib.hid hyx
        go_wp2_with fail
        go_roundw
        case rel => exact ⟨k + 1, by omega, by go_num, trivial, any_take_succ HNO.out HY.out HYX.out⟩
        case measure => simp [intOf]; omega
    · have hc : xs.contains x = false := by
        have := any_of_take HNO.out (show xs.length ≤ k by omega)
        cases e : xs.contains x with
        | false => rfl
        | true =>
          have hm : x ∈ xs := by simpa using e
          have := List.any_eq_false.1 this x hm
          simp at this
      rw [hc] at HR
      clear hc
      go_wp2_with fail
      exact HR.out

theorem slice_chk {p : List Ln} {s : List Int} {r : Int} (h : sliceE p s r = 0) : chk p s = 0 ∧ 0 ≤ r ∧ r ≤ 3 := by
  unfold sliceE at h
  by_cases hc : chk p s = 0
  · rw [if_pos hc] at h
    cases hi : inB r 0 3 with
    | true => exact ⟨hc, inB_true.1 hi⟩
    | false => rw [hi] at h; cases h
  · rw [if_neg hc] at h; exact absurd h hc

set_option maxRecDepth 100000 in
set_option maxHeartbeats 8000000 in
theorem codeOutside_any (p : List Ln) (xl : List Int) (xr : Int) (yl yv : List Int) (w : World) (vp vxl vyl vyv : Value) (hp : LinesAt w vp p) (hxl : IntsAt w vxl xl) (hyl : IntsAt w vyl yl) (hyv : IntsAt w vyv yv) (R : Ending → World → Prop) (hR : ∀ w', Grow w w' → R (.returned (.bool true)) w') :
    Calls Try.prog 13 #[vp, .agg #[vxl, .int .i64 xr], .agg #[vyl, vyv]] w R := by
  have HR := Lib.hid hR
  have HP_ := Lib.hid hp
  obtain ⟨adp, cpp, rfl, qp1, qp2, _⟩ := hp
  have HXL_ := Lib.hid hxl
  obtain ⟨adxl, cpxl, rfl, qxl1, qxl2, _⟩ := hxl
  have HYL_ := Lib.hid hyl
  obtain ⟨adyl, cpyl, rfl, qyl1, qyl2, _⟩ := hyl
  have HYV_ := Lib.hid hyv
  obtain ⟨adyv, cpyv, rfl, qyv1, qyv2, _⟩ := hyv
  clear hR
  by_cases gd0 : 100 < p.length
  · have hd0 : decide (100 < p.length) = true := decide_eq_true gd0
    have HD0 := Lib.hid hd0
    clear hd0 gd0
    go_enter Try.func13, Try.ntmps13
    go_wp2_with fail
    obtain ⟨wb0, hwb0⟩ : ∃ W, w.alloc (.cells #[.slice adxl xl.length cpxl, .int .i64 xr] 63) = W := ⟨_, rfl⟩
    rw [hwb0]
    have hgb0 : Grow w wb0 := hwb0 ▸ (Grow.refl w).alloc _
    have hsz0 : wb0.heap.size = w.heap.size + 1 := by rw [← hwb0, World.size_alloc]
    have hbb0 : wb0.heap[w.heap.size]? = some (.cells #[.slice adxl xl.length cpxl, .int .i64 xr] 63 (0, 0)) := by have h := heap_alloc_new w (.cells #[.slice adxl xl.length cpxl, .int .i64 xr] 63); rw [hwb0] at h; exact h
    clear hwb0
    have hgr1 : Grow w wb0 := by first | exact hgb0 | exact Grow.trans ((Grow.refl _).alloc _) hgb0 | exact Grow.trans (((Grow.refl _).alloc _).alloc _) hgb0 | exact Grow.trans ((((Grow.refl _).alloc _).alloc _).alloc _) hgb0 | exact Grow.trans (((((Grow.refl _).alloc _).alloc _).alloc _).alloc _) hgb0 | exact Grow.trans ((Grow.refl _).drewN _) hgb0
    have HP_1 := Lib.hid (HP_.out.grow hgr1)
    have HXL_1 := Lib.hid (HXL_.out.grow hgr1)
    have HYL_1 := Lib.hid (HYL_.out.grow hgr1)
    have HYV_1 := Lib.hid (HYV_.out.grow hgr1)
    have GCH1 := Lib.hid hgr1
    clear hgb0 hgr1 HP_ HXL_ HYL_ HYV_
    obtain ⟨ex0, ex1⟩ := box2 hbb0
    have zx := lt_of_block hbb0
    have HBB0 := Lib.hid hbb0
    clear hbb0
    obtain ⟨wb1, hwb1⟩ : ∃ W, wb0.alloc (.cells #[.slice adyl yl.length cpyl, .slice adyv yv.length cpyv] 59) = W := ⟨_, rfl⟩
    rw [hwb1]
    have hgb1 : Grow wb0 wb1 := hwb1 ▸ (Grow.refl wb0).alloc _
    have hsz1 : wb1.heap.size = w.heap.size + 2 := by rw [← hwb1, World.size_alloc]; rw [hsz0]
    have hbb1 : wb1.heap[w.heap.size + 1]? = some (.cells #[.slice adyl yl.length cpyl, .slice adyv yv.length cpyv] 59 (0, 0)) := by have h := heap_alloc_new wb0 (.cells #[.slice adyl yl.length cpyl, .slice adyv yv.length cpyv] 59); rw [hsz0] at h; rw [hwb1] at h; exact h
    clear hwb1
    have hgr2 : Grow wb0 wb1 := by first | exact hgb1 | exact Grow.trans ((Grow.refl _).alloc _) hgb1 | exact Grow.trans (((Grow.refl _).alloc _).alloc _) hgb1 | exact Grow.trans ((((Grow.refl _).alloc _).alloc _).alloc _) hgb1 | exact Grow.trans (((((Grow.refl _).alloc _).alloc _).alloc _).alloc _) hgb1 | exact Grow.trans ((Grow.refl _).drewN _) hgb1
    have HP_2 := Lib.hid (HP_1.out.grow hgr2)
    have HXL_2 := Lib.hid (HXL_1.out.grow hgr2)
    have HYL_2 := Lib.hid (HYL_1.out.grow hgr2)
    have HYV_2 := Lib.hid (HYV_1.out.grow hgr2)
    have GCH2 := Lib.hid (GCH1.out.trans hgr2)
    have hbx_2 := hgr2.blk HBB0.out
    clear ex0 ex1 zx
    obtain ⟨ex0, ex1⟩ := box2 hbx_2
    have zx := lt_of_block hbx_2
    have HBX0_2 := Lib.hid hbx_2
    clear hbx_2
    clear hgb1 hgr2 HP_1 HXL_1 HYL_1 HYV_1 GCH1 HBB0
    obtain ⟨ey0, ey1⟩ := box2 hbb1
    have zy := lt_of_block hbb1
    have HBB1 := Lib.hid hbb1
    clear hbb1
    clear hsz0 hsz1
    refine long_any p _ _ (by first | exact HP_2.out | exact HP_2.out.grow ((Grow.refl _).alloc _) | exact HP_2.out.grow (((Grow.refl _).alloc _).alloc _) | exact HP_2.out.grow ((((Grow.refl _).alloc _).alloc _).alloc _) | exact HP_2.out.grow (((((Grow.refl _).alloc _).alloc _).alloc _).alloc _) | exact HP_2.out.grow ((Grow.refl _).drewN _)) _ ?_
    rw [HD0.out]
    go_wp2_with fail
    refine known_any _ _ ?_
    intro wz3 hg3 
    have hgr3 : Grow wb1 wz3 := by first | exact hg3 | exact Grow.trans ((Grow.refl _).alloc _) hg3 | exact Grow.trans (((Grow.refl _).alloc _).alloc _) hg3 | exact Grow.trans ((((Grow.refl _).alloc _).alloc _).alloc _) hg3 | exact Grow.trans (((((Grow.refl _).alloc _).alloc _).alloc _).alloc _) hg3 | exact Grow.trans ((Grow.refl _).drewN _) hg3
    have HP_3 := Lib.hid (HP_2.out.grow hgr3)
    have HXL_3 := Lib.hid (HXL_2.out.grow hgr3)
    have HYL_3 := Lib.hid (HYL_2.out.grow hgr3)
    have HYV_3 := Lib.hid (HYV_2.out.grow hgr3)
    have GCH3 := Lib.hid (GCH2.out.trans hgr3)
    have hbx_3 := hgr3.blk HBX0_2.out
    clear ex0 ex1 zx
    obtain ⟨ex0, ex1⟩ := box2 hbx_3
    have zx := lt_of_block hbx_3
    have HBX0_3 := Lib.hid hbx_3
    clear hbx_3
    have hbx_3 := hgr3.blk HBB1.out
    clear ey0 ey1 zy
    obtain ⟨ey0, ey1⟩ := box2 hbx_3
    have zy := lt_of_block hbx_3
    have HBX1_3 := Lib.hid hbx_3
    clear hbx_3
    clear hg3 hgr3 HP_2 HXL_2 HYL_2 HYV_2 GCH2 HBX0_2 HBB1
    go_wp2_with fail
    first | exact HR.out _ (GCH3.out) | exact HR.out _ (Grow.trans GCH3.out ((Grow.refl _).alloc _)) | exact HR.out _ (Grow.trans GCH3.out (((Grow.refl _).alloc _).alloc _)) | exact HR.out _ (Grow.trans GCH3.out ((((Grow.refl _).alloc _).alloc _).alloc _)) | exact HR.out _ (Grow.trans GCH3.out (((((Grow.refl _).alloc _).alloc _).alloc _).alloc _)) | exact HR.out _ (Grow.trans GCH3.out ((Grow.refl _).drewN _))
  · have hd0 : decide (100 < p.length) = false := decide_eq_false gd0
    have HD0 := Lib.hid hd0
    clear hd0
    by_cases gd1 : 100 < xl.length
    · have hd1 : decide (100 < xl.length) = true := decide_eq_true gd1
      have HD1 := Lib.hid hd1
      clear hd1 gd1
      go_enter Try.func13, Try.ntmps13
      go_wp2_with fail
      obtain ⟨wb0, hwb0⟩ : ∃ W, w.alloc (.cells #[.slice adxl xl.length cpxl, .int .i64 xr] 63) = W := ⟨_, rfl⟩
      rw [hwb0]
      have hgb0 : Grow w wb0 := hwb0 ▸ (Grow.refl w).alloc _
      have hsz0 : wb0.heap.size = w.heap.size + 1 := by rw [← hwb0, World.size_alloc]
      have hbb0 : wb0.heap[w.heap.size]? = some (.cells #[.slice adxl xl.length cpxl, .int .i64 xr] 63 (0, 0)) := by have h := heap_alloc_new w (.cells #[.slice adxl xl.length cpxl, .int .i64 xr] 63); rw [hwb0] at h; exact h
      clear hwb0
      have hgr1 : Grow w wb0 := by first | exact hgb0 | exact Grow.trans ((Grow.refl _).alloc _) hgb0 | exact Grow.trans (((Grow.refl _).alloc _).alloc _) hgb0 | exact Grow.trans ((((Grow.refl _).alloc _).alloc _).alloc _) hgb0 | exact Grow.trans (((((Grow.refl _).alloc _).alloc _).alloc _).alloc _) hgb0 | exact Grow.trans ((Grow.refl _).drewN _) hgb0
      have HP_1 := Lib.hid (HP_.out.grow hgr1)
      have HXL_1 := Lib.hid (HXL_.out.grow hgr1)
      have HYL_1 := Lib.hid (HYL_.out.grow hgr1)
      have HYV_1 := Lib.hid (HYV_.out.grow hgr1)
      have GCH1 := Lib.hid hgr1
      clear hgb0 hgr1 HP_ HXL_ HYL_ HYV_
      obtain ⟨ex0, ex1⟩ := box2 hbb0
      have zx := lt_of_block hbb0
      have HBB0 := Lib.hid hbb0
      clear hbb0
      obtain ⟨wb1, hwb1⟩ : ∃ W, wb0.alloc (.cells #[.slice adyl yl.length cpyl, .slice adyv yv.length cpyv] 59) = W := ⟨_, rfl⟩
      rw [hwb1]
      have hgb1 : Grow wb0 wb1 := hwb1 ▸ (Grow.refl wb0).alloc _
      have hsz1 : wb1.heap.size = w.heap.size + 2 := by rw [← hwb1, World.size_alloc]; rw [hsz0]
      have hbb1 : wb1.heap[w.heap.size + 1]? = some (.cells #[.slice adyl yl.length cpyl, .slice adyv yv.length cpyv] 59 (0, 0)) := by have h := heap_alloc_new wb0 (.cells #[.slice adyl yl.length cpyl, .slice adyv yv.length cpyv] 59); rw [hsz0] at h; rw [hwb1] at h; exact h
      clear hwb1
      have hgr2 : Grow wb0 wb1 := by first | exact hgb1 | exact Grow.trans ((Grow.refl _).alloc _) hgb1 | exact Grow.trans (((Grow.refl _).alloc _).alloc _) hgb1 | exact Grow.trans ((((Grow.refl _).alloc _).alloc _).alloc _) hgb1 | exact Grow.trans (((((Grow.refl _).alloc _).alloc _).alloc _).alloc _) hgb1 | exact Grow.trans ((Grow.refl _).drewN _) hgb1
      have HP_2 := Lib.hid (HP_1.out.grow hgr2)
      have HXL_2 := Lib.hid (HXL_1.out.grow hgr2)
      have HYL_2 := Lib.hid (HYL_1.out.grow hgr2)
      have HYV_2 := Lib.hid (HYV_1.out.grow hgr2)
      have GCH2 := Lib.hid (GCH1.out.trans hgr2)
      have hbx_2 := hgr2.blk HBB0.out
      clear ex0 ex1 zx
      obtain ⟨ex0, ex1⟩ := box2 hbx_2
      have zx := lt_of_block hbx_2
      have HBX0_2 := Lib.hid hbx_2
      clear hbx_2
      clear hgb1 hgr2 HP_1 HXL_1 HYL_1 HYV_1 GCH1 HBB0
      obtain ⟨ey0, ey1⟩ := box2 hbb1
      have zy := lt_of_block hbb1
      have HBB1 := Lib.hid hbb1
      clear hbb1
      clear hsz0 hsz1
      refine long_any p _ _ (by first | exact HP_2.out | exact HP_2.out.grow ((Grow.refl _).alloc _) | exact HP_2.out.grow (((Grow.refl _).alloc _).alloc _) | exact HP_2.out.grow ((((Grow.refl _).alloc _).alloc _).alloc _) | exact HP_2.out.grow (((((Grow.refl _).alloc _).alloc _).alloc _).alloc _) | exact HP_2.out.grow ((Grow.refl _).drewN _)) _ ?_
      rw [HD0.out]
      go_wp2_with fail
      refine large_any xl _ _ (by first | exact HXL_2.out | exact HXL_2.out.grow ((Grow.refl _).alloc _) | exact HXL_2.out.grow (((Grow.refl _).alloc _).alloc _) | exact HXL_2.out.grow ((((Grow.refl _).alloc _).alloc _).alloc _) | exact HXL_2.out.grow (((((Grow.refl _).alloc _).alloc _).alloc _).alloc _) | exact HXL_2.out.grow ((Grow.refl _).drewN _)) _ ?_
      rw [HD1.out]
      go_wp2_with fail
      refine known_any _ _ ?_
      intro wz3 hg3 
      have hgr3 : Grow wb1 wz3 := by first | exact hg3 | exact Grow.trans ((Grow.refl _).alloc _) hg3 | exact Grow.trans (((Grow.refl _).alloc _).alloc _) hg3 | exact Grow.trans ((((Grow.refl _).alloc _).alloc _).alloc _) hg3 | exact Grow.trans (((((Grow.refl _).alloc _).alloc _).alloc _).alloc _) hg3 | exact Grow.trans ((Grow.refl _).drewN _) hg3
      have HP_3 := Lib.hid (HP_2.out.grow hgr3)
      have HXL_3 := Lib.hid (HXL_2.out.grow hgr3)
      have HYL_3 := Lib.hid (HYL_2.out.grow hgr3)
      have HYV_3 := Lib.hid (HYV_2.out.grow hgr3)
      have GCH3 := Lib.hid (GCH2.out.trans hgr3)
      have hbx_3 := hgr3.blk HBX0_2.out
      clear ex0 ex1 zx
      obtain ⟨ex0, ex1⟩ := box2 hbx_3
      have zx := lt_of_block hbx_3
      have HBX0_3 := Lib.hid hbx_3
      clear hbx_3
      have hbx_3 := hgr3.blk HBB1.out
      clear ey0 ey1 zy
      obtain ⟨ey0, ey1⟩ := box2 hbx_3
      have zy := lt_of_block hbx_3
      have HBX1_3 := Lib.hid hbx_3
      clear hbx_3
      clear hg3 hgr3 HP_2 HXL_2 HYL_2 HYV_2 GCH2 HBX0_2 HBB1
      go_wp2_with fail
      first | exact HR.out _ (GCH3.out) | exact HR.out _ (Grow.trans GCH3.out ((Grow.refl _).alloc _)) | exact HR.out _ (Grow.trans GCH3.out (((Grow.refl _).alloc _).alloc _)) | exact HR.out _ (Grow.trans GCH3.out ((((Grow.refl _).alloc _).alloc _).alloc _)) | exact HR.out _ (Grow.trans GCH3.out (((((Grow.refl _).alloc _).alloc _).alloc _).alloc _)) | exact HR.out _ (Grow.trans GCH3.out ((Grow.refl _).drewN _))
    · have hd1 : decide (100 < xl.length) = false := decide_eq_false gd1
      have HD1 := Lib.hid hd1
      clear hd1
      by_cases gd2 : 100 < yl.length
      · have hd2 : decide (100 < yl.length) = true := decide_eq_true gd2
        have HD2 := Lib.hid hd2
        clear hd2 gd2
        go_enter Try.func13, Try.ntmps13
        go_wp2_with fail
        obtain ⟨wb0, hwb0⟩ : ∃ W, w.alloc (.cells #[.slice adxl xl.length cpxl, .int .i64 xr] 63) = W := ⟨_, rfl⟩
        rw [hwb0]
        have hgb0 : Grow w wb0 := hwb0 ▸ (Grow.refl w).alloc _
        have hsz0 : wb0.heap.size = w.heap.size + 1 := by rw [← hwb0, World.size_alloc]
        have hbb0 : wb0.heap[w.heap.size]? = some (.cells #[.slice adxl xl.length cpxl, .int .i64 xr] 63 (0, 0)) := by have h := heap_alloc_new w (.cells #[.slice adxl xl.length cpxl, .int .i64 xr] 63); rw [hwb0] at h; exact h
        clear hwb0
        have hgr1 : Grow w wb0 := by first | exact hgb0 | exact Grow.trans ((Grow.refl _).alloc _) hgb0 | exact Grow.trans (((Grow.refl _).alloc _).alloc _) hgb0 | exact Grow.trans ((((Grow.refl _).alloc _).alloc _).alloc _) hgb0 | exact Grow.trans (((((Grow.refl _).alloc _).alloc _).alloc _).alloc _) hgb0 | exact Grow.trans ((Grow.refl _).drewN _) hgb0
        have HP_1 := Lib.hid (HP_.out.grow hgr1)
        have HXL_1 := Lib.hid (HXL_.out.grow hgr1)
        have HYL_1 := Lib.hid (HYL_.out.grow hgr1)
        have HYV_1 := Lib.hid (HYV_.out.grow hgr1)
        have GCH1 := Lib.hid hgr1
        clear hgb0 hgr1 HP_ HXL_ HYL_ HYV_
        obtain ⟨ex0, ex1⟩ := box2 hbb0
        have zx := lt_of_block hbb0
        have HBB0 := Lib.hid hbb0
        clear hbb0
        obtain ⟨wb1, hwb1⟩ : ∃ W, wb0.alloc (.cells #[.slice adyl yl.length cpyl, .slice adyv yv.length cpyv] 59) = W := ⟨_, rfl⟩
        rw [hwb1]
        have hgb1 : Grow wb0 wb1 := hwb1 ▸ (Grow.refl wb0).alloc _
        have hsz1 : wb1.heap.size = w.heap.size + 2 := by rw [← hwb1, World.size_alloc]; rw [hsz0]
        have hbb1 : wb1.heap[w.heap.size + 1]? = some (.cells #[.slice adyl yl.length cpyl, .slice adyv yv.length cpyv] 59 (0, 0)) := by have h := heap_alloc_new wb0 (.cells #[.slice adyl yl.length cpyl, .slice adyv yv.length cpyv] 59); rw [hsz0] at h; rw [hwb1] at h; exact h
        clear hwb1
        have hgr2 : Grow wb0 wb1 := by first | exact hgb1 | exact Grow.trans ((Grow.refl _).alloc _) hgb1 | exact Grow.trans (((Grow.refl _).alloc _).alloc _) hgb1 | exact Grow.trans ((((Grow.refl _).alloc _).alloc _).alloc _) hgb1 | exact Grow.trans (((((Grow.refl _).alloc _).alloc _).alloc _).alloc _) hgb1 | exact Grow.trans ((Grow.refl _).drewN _) hgb1
        have HP_2 := Lib.hid (HP_1.out.grow hgr2)
        have HXL_2 := Lib.hid (HXL_1.out.grow hgr2)
        have HYL_2 := Lib.hid (HYL_1.out.grow hgr2)
        have HYV_2 := Lib.hid (HYV_1.out.grow hgr2)
        have GCH2 := Lib.hid (GCH1.out.trans hgr2)
        have hbx_2 := hgr2.blk HBB0.out
        clear ex0 ex1 zx
        obtain ⟨ex0, ex1⟩ := box2 hbx_2
        have zx := lt_of_block hbx_2
        have HBX0_2 := Lib.hid hbx_2
        clear hbx_2
        clear hgb1 hgr2 HP_1 HXL_1 HYL_1 HYV_1 GCH1 HBB0
        obtain ⟨ey0, ey1⟩ := box2 hbb1
        have zy := lt_of_block hbb1
        have HBB1 := Lib.hid hbb1
        clear hbb1
        clear hsz0 hsz1
        refine long_any p _ _ (by first | exact HP_2.out | exact HP_2.out.grow ((Grow.refl _).alloc _) | exact HP_2.out.grow (((Grow.refl _).alloc _).alloc _) | exact HP_2.out.grow ((((Grow.refl _).alloc _).alloc _).alloc _) | exact HP_2.out.grow (((((Grow.refl _).alloc _).alloc _).alloc _).alloc _) | exact HP_2.out.grow ((Grow.refl _).drewN _)) _ ?_
        rw [HD0.out]
        go_wp2_with fail
        refine large_any xl _ _ (by first | exact HXL_2.out | exact HXL_2.out.grow ((Grow.refl _).alloc _) | exact HXL_2.out.grow (((Grow.refl _).alloc _).alloc _) | exact HXL_2.out.grow ((((Grow.refl _).alloc _).alloc _).alloc _) | exact HXL_2.out.grow (((((Grow.refl _).alloc _).alloc _).alloc _).alloc _) | exact HXL_2.out.grow ((Grow.refl _).drewN _)) _ ?_
        rw [HD1.out]
        go_wp2_with fail
        refine large_any yl _ _ (by first | exact HYL_2.out | exact HYL_2.out.grow ((Grow.refl _).alloc _) | exact HYL_2.out.grow (((Grow.refl _).alloc _).alloc _) | exact HYL_2.out.grow ((((Grow.refl _).alloc _).alloc _).alloc _) | exact HYL_2.out.grow (((((Grow.refl _).alloc _).alloc _).alloc _).alloc _) | exact HYL_2.out.grow ((Grow.refl _).drewN _)) _ ?_
        rw [HD2.out]
        go_wp2_with fail
        refine known_any _ _ ?_
        intro wz3 hg3 
        have hgr3 : Grow wb1 wz3 := by first | exact hg3 | exact Grow.trans ((Grow.refl _).alloc _) hg3 | exact Grow.trans (((Grow.refl _).alloc _).alloc _) hg3 | exact Grow.trans ((((Grow.refl _).alloc _).alloc _).alloc _) hg3 | exact Grow.trans (((((Grow.refl _).alloc _).alloc _).alloc _).alloc _) hg3 | exact Grow.trans ((Grow.refl _).drewN _) hg3
        have HP_3 := Lib.hid (HP_2.out.grow hgr3)
        have HXL_3 := Lib.hid (HXL_2.out.grow hgr3)
        have HYL_3 := Lib.hid (HYL_2.out.grow hgr3)
        have HYV_3 := Lib.hid (HYV_2.out.grow hgr3)
        have GCH3 := Lib.hid (GCH2.out.trans hgr3)
        have hbx_3 := hgr3.blk HBX0_2.out
        clear ex0 ex1 zx
        obtain ⟨ex0, ex1⟩ := box2 hbx_3
        have zx := lt_of_block hbx_3
        have HBX0_3 := Lib.hid hbx_3
        clear hbx_3
        have hbx_3 := hgr3.blk HBB1.out
        clear ey0 ey1 zy
        obtain ⟨ey0, ey1⟩ := box2 hbx_3
        have zy := lt_of_block hbx_3
        have HBX1_3 := Lib.hid hbx_3
        clear hbx_3
        clear hg3 hgr3 HP_2 HXL_2 HYL_2 HYV_2 GCH2 HBX0_2 HBB1
        go_wp2_with fail
        first | exact HR.out _ (GCH3.out) | exact HR.out _ (Grow.trans GCH3.out ((Grow.refl _).alloc _)) | exact HR.out _ (Grow.trans GCH3.out (((Grow.refl _).alloc _).alloc _)) | exact HR.out _ (Grow.trans GCH3.out ((((Grow.refl _).alloc _).alloc _).alloc _)) | exact HR.out _ (Grow.trans GCH3.out (((((Grow.refl _).alloc _).alloc _).alloc _).alloc _)) | exact HR.out _ (Grow.trans GCH3.out ((Grow.refl _).drewN _))
      · have hd2 : decide (100 < yl.length) = false := decide_eq_false gd2
        have HD2 := Lib.hid hd2
        clear hd2
        by_cases gd3 : 100 < yv.length
        · have hd3 : decide (100 < yv.length) = true := decide_eq_true gd3
          have HD3 := Lib.hid hd3
          clear hd3 gd3
          go_enter Try.func13, Try.ntmps13
          go_wp2_with fail
          obtain ⟨wb0, hwb0⟩ : ∃ W, w.alloc (.cells #[.slice adxl xl.length cpxl, .int .i64 xr] 63) = W := ⟨_, rfl⟩
          rw [hwb0]
          have hgb0 : Grow w wb0 := hwb0 ▸ (Grow.refl w).alloc _
          have hsz0 : wb0.heap.size = w.heap.size + 1 := by rw [← hwb0, World.size_alloc]
          have hbb0 : wb0.heap[w.heap.size]? = some (.cells #[.slice adxl xl.length cpxl, .int .i64 xr] 63 (0, 0)) := by have h := heap_alloc_new w (.cells #[.slice adxl xl.length cpxl, .int .i64 xr] 63); rw [hwb0] at h; exact h
          clear hwb0
          have hgr1 : Grow w wb0 := by first | exact hgb0 | exact Grow.trans ((Grow.refl _).alloc _) hgb0 | exact Grow.trans (((Grow.refl _).alloc _).alloc _) hgb0 | exact Grow.trans ((((Grow.refl _).alloc _).alloc _).alloc _) hgb0 | exact Grow.trans (((((Grow.refl _).alloc _).alloc _).alloc _).alloc _) hgb0 | exact Grow.trans ((Grow.refl _).drewN _) hgb0
          have HP_1 := Lib.hid (HP_.out.grow hgr1)
          have HXL_1 := Lib.hid (HXL_.out.grow hgr1)
          have HYL_1 := Lib.hid (HYL_.out.grow hgr1)
          have HYV_1 := Lib.hid (HYV_.out.grow hgr1)
          have GCH1 := Lib.hid hgr1
          clear hgb0 hgr1 HP_ HXL_ HYL_ HYV_
          obtain ⟨ex0, ex1⟩ := box2 hbb0
          have zx := lt_of_block hbb0
          have HBB0 := Lib.hid hbb0
          clear hbb0
          obtain ⟨wb1, hwb1⟩ : ∃ W, wb0.alloc (.cells #[.slice adyl yl.length cpyl, .slice adyv yv.length cpyv] 59) = W := ⟨_, rfl⟩
          rw [hwb1]
          have hgb1 : Grow wb0 wb1 := hwb1 ▸ (Grow.refl wb0).alloc _
          have hsz1 : wb1.heap.size = w.heap.size + 2 := by rw [← hwb1, World.size_alloc]; rw [hsz0]
          have hbb1 : wb1.heap[w.heap.size + 1]? = some (.cells #[.slice adyl yl.length cpyl, .slice adyv yv.length cpyv] 59 (0, 0)) := by have h := heap_alloc_new wb0 (.cells #[.slice adyl yl.length cpyl, .slice adyv yv.length cpyv] 59); rw [hsz0] at h; rw [hwb1] at h; exact h
          clear hwb1
          have hgr2 : Grow wb0 wb1 := by first | exact hgb1 | exact Grow.trans ((Grow.refl _).alloc _) hgb1 | exact Grow.trans (((Grow.refl _).alloc _).alloc _) hgb1 | exact Grow.trans ((((Grow.refl _).alloc _).alloc _).alloc _) hgb1 | exact Grow.trans (((((Grow.refl _).alloc _).alloc _).alloc _).alloc _) hgb1 | exact Grow.trans ((Grow.refl _).drewN _) hgb1
          have HP_2 := Lib.hid (HP_1.out.grow hgr2)
          have HXL_2 := Lib.hid (HXL_1.out.grow hgr2)
          have HYL_2 := Lib.hid (HYL_1.out.grow hgr2)
          have HYV_2 := Lib.hid (HYV_1.out.grow hgr2)
          have GCH2 := Lib.hid (GCH1.out.trans hgr2)
          have hbx_2 := hgr2.blk HBB0.out
          clear ex0 ex1 zx
          obtain ⟨ex0, ex1⟩ := box2 hbx_2
          have zx := lt_of_block hbx_2
          have HBX0_2 := Lib.hid hbx_2
          clear hbx_2
          clear hgb1 hgr2 HP_1 HXL_1 HYL_1 HYV_1 GCH1 HBB0
          obtain ⟨ey0, ey1⟩ := box2 hbb1
          have zy := lt_of_block hbb1
          have HBB1 := Lib.hid hbb1
          clear hbb1
          clear hsz0 hsz1
          refine long_any p _ _ (by first | exact HP_2.out | exact HP_2.out.grow ((Grow.refl _).alloc _) | exact HP_2.out.grow (((Grow.refl _).alloc _).alloc _) | exact HP_2.out.grow ((((Grow.refl _).alloc _).alloc _).alloc _) | exact HP_2.out.grow (((((Grow.refl _).alloc _).alloc _).alloc _).alloc _) | exact HP_2.out.grow ((Grow.refl _).drewN _)) _ ?_
          rw [HD0.out]
          go_wp2_with fail
          refine large_any xl _ _ (by first | exact HXL_2.out | exact HXL_2.out.grow ((Grow.refl _).alloc _) | exact HXL_2.out.grow (((Grow.refl _).alloc _).alloc _) | exact HXL_2.out.grow ((((Grow.refl _).alloc _).alloc _).alloc _) | exact HXL_2.out.grow (((((Grow.refl _).alloc _).alloc _).alloc _).alloc _) | exact HXL_2.out.grow ((Grow.refl _).drewN _)) _ ?_
          rw [HD1.out]
          go_wp2_with fail
          refine large_any yl _ _ (by first | exact HYL_2.out | exact HYL_2.out.grow ((Grow.refl _).alloc _) | exact HYL_2.out.grow (((Grow.refl _).alloc _).alloc _) | exact HYL_2.out.grow ((((Grow.refl _).alloc _).alloc _).alloc _) | exact HYL_2.out.grow (((((Grow.refl _).alloc _).alloc _).alloc _).alloc _) | exact HYL_2.out.grow ((Grow.refl _).drewN _)) _ ?_
          rw [HD2.out]
          go_wp2_with fail
          refine large_any yv _ _ (by first | exact HYV_2.out | exact HYV_2.out.grow ((Grow.refl _).alloc _) | exact HYV_2.out.grow (((Grow.refl _).alloc _).alloc _) | exact HYV_2.out.grow ((((Grow.refl _).alloc _).alloc _).alloc _) | exact HYV_2.out.grow (((((Grow.refl _).alloc _).alloc _).alloc _).alloc _) | exact HYV_2.out.grow ((Grow.refl _).drewN _)) _ ?_
          rw [HD3.out]
          go_wp2_with fail
          refine known_any _ _ ?_
          intro wz3 hg3 
          have hgr3 : Grow wb1 wz3 := by first | exact hg3 | exact Grow.trans ((Grow.refl _).alloc _) hg3 | exact Grow.trans (((Grow.refl _).alloc _).alloc _) hg3 | exact Grow.trans ((((Grow.refl _).alloc _).alloc _).alloc _) hg3 | exact Grow.trans (((((Grow.refl _).alloc _).alloc _).alloc _).alloc _) hg3 | exact Grow.trans ((Grow.refl _).drewN _) hg3
          have HP_3 := Lib.hid (HP_2.out.grow hgr3)
          have HXL_3 := Lib.hid (HXL_2.out.grow hgr3)
          have HYL_3 := Lib.hid (HYL_2.out.grow hgr3)
          have HYV_3 := Lib.hid (HYV_2.out.grow hgr3)
          have GCH3 := Lib.hid (GCH2.out.trans hgr3)
          have hbx_3 := hgr3.blk HBX0_2.out
          clear ex0 ex1 zx
          obtain ⟨ex0, ex1⟩ := box2 hbx_3
          have zx := lt_of_block hbx_3
          have HBX0_3 := Lib.hid hbx_3
          clear hbx_3
          have hbx_3 := hgr3.blk HBB1.out
          clear ey0 ey1 zy
          obtain ⟨ey0, ey1⟩ := box2 hbx_3
          have zy := lt_of_block hbx_3
          have HBX1_3 := Lib.hid hbx_3
          clear hbx_3
          clear hg3 hgr3 HP_2 HXL_2 HYL_2 HYV_2 GCH2 HBX0_2 HBB1
          go_wp2_with fail
          first | exact HR.out _ (GCH3.out) | exact HR.out _ (Grow.trans GCH3.out ((Grow.refl _).alloc _)) | exact HR.out _ (Grow.trans GCH3.out (((Grow.refl _).alloc _).alloc _)) | exact HR.out _ (Grow.trans GCH3.out ((((Grow.refl _).alloc _).alloc _).alloc _)) | exact HR.out _ (Grow.trans GCH3.out (((((Grow.refl _).alloc _).alloc _).alloc _).alloc _)) | exact HR.out _ (Grow.trans GCH3.out ((Grow.refl _).drewN _))
        · have hd3 : decide (100 < yv.length) = false := decide_eq_false gd3
          have HD3 := Lib.hid hd3
          clear hd3
          by_cases h1 : sliceE p xl xr = 0
          rotate_left
          · have H1 := Lib.hid h1
            obtain ⟨e, he⟩ : ∃ e, sliceE p xl xr = e := ⟨_, rfl⟩
            have hn : e ≠ 0 := by rw [← he]; exact h1
            have t1 : (e == 0) = false := by simpa using hn
            have t2 : (e != 0) = true := by simpa using hn
            have HE := Lib.hid he
            clear he hn h1
            obtain ⟨ec, hec⟩ : ∃ z, chk p xl = z := ⟨_, rfl⟩
            have HCK := Lib.hid hec
            clear hec
            obtain ⟨ef, hef⟩ : ∃ z, frcE p xl yl yv = z := ⟨_, rfl⟩
            have HFE := Lib.hid hef
            clear hef
            obtain ⟨sl, hsl⟩ : ∃ z, ifOK (sliceE p xl xr) (sliceM p xl xr) = z := ⟨_, rfl⟩
            have HSL := Lib.hid hsl
            clear hsl
            obtain ⟨en, hen⟩ : ∃ z, ifOK (chk p xl) (runM p xl) = z := ⟨_, rfl⟩
            have HEN := Lib.hid hen
            clear hen
            obtain ⟨fo, hfo⟩ : ∃ z, frcM p xl yl yv = z := ⟨_, rfl⟩
            have HFO := Lib.hid hfo
            clear hfo
            go_enter Try.func13, Try.ntmps13
            go_wp2_with fail
            obtain ⟨wb0, hwb0⟩ : ∃ W, w.alloc (.cells #[.slice adxl xl.length cpxl, .int .i64 xr] 63) = W := ⟨_, rfl⟩
            rw [hwb0]
            have hgb0 : Grow w wb0 := hwb0 ▸ (Grow.refl w).alloc _
            have hsz0 : wb0.heap.size = w.heap.size + 1 := by rw [← hwb0, World.size_alloc]
            have hbb0 : wb0.heap[w.heap.size]? = some (.cells #[.slice adxl xl.length cpxl, .int .i64 xr] 63 (0, 0)) := by have h := heap_alloc_new w (.cells #[.slice adxl xl.length cpxl, .int .i64 xr] 63); rw [hwb0] at h; exact h
            clear hwb0
            have hgr1 : Grow w wb0 := by first | exact hgb0 | exact Grow.trans ((Grow.refl _).alloc _) hgb0 | exact Grow.trans (((Grow.refl _).alloc _).alloc _) hgb0 | exact Grow.trans ((((Grow.refl _).alloc _).alloc _).alloc _) hgb0 | exact Grow.trans (((((Grow.refl _).alloc _).alloc _).alloc _).alloc _) hgb0 | exact Grow.trans ((Grow.refl _).drewN _) hgb0
            have HP_1 := Lib.hid (HP_.out.grow hgr1)
            have HXL_1 := Lib.hid (HXL_.out.grow hgr1)
            have HYL_1 := Lib.hid (HYL_.out.grow hgr1)
            have HYV_1 := Lib.hid (HYV_.out.grow hgr1)
            have GCH1 := Lib.hid hgr1
            clear hgb0 hgr1 HP_ HXL_ HYL_ HYV_
            obtain ⟨ex0, ex1⟩ := box2 hbb0
            have zx := lt_of_block hbb0
            have HBB0 := Lib.hid hbb0
            clear hbb0
            obtain ⟨wb1, hwb1⟩ : ∃ W, wb0.alloc (.cells #[.slice adyl yl.length cpyl, .slice adyv yv.length cpyv] 59) = W := ⟨_, rfl⟩
            rw [hwb1]
            have hgb1 : Grow wb0 wb1 := hwb1 ▸ (Grow.refl wb0).alloc _
            have hsz1 : wb1.heap.size = w.heap.size + 2 := by rw [← hwb1, World.size_alloc]; rw [hsz0]
            have hbb1 : wb1.heap[w.heap.size + 1]? = some (.cells #[.slice adyl yl.length cpyl, .slice adyv yv.length cpyv] 59 (0, 0)) := by have h := heap_alloc_new wb0 (.cells #[.slice adyl yl.length cpyl, .slice adyv yv.length cpyv] 59); rw [hsz0] at h; rw [hwb1] at h; exact h
            clear hwb1
            have hgr2 : Grow wb0 wb1 := by first | exact hgb1 | exact Grow.trans ((Grow.refl _).alloc _) hgb1 | exact Grow.trans (((Grow.refl _).alloc _).alloc _) hgb1 | exact Grow.trans ((((Grow.refl _).alloc _).alloc _).alloc _) hgb1 | exact Grow.trans (((((Grow.refl _).alloc _).alloc _).alloc _).alloc _) hgb1 | exact Grow.trans ((Grow.refl _).drewN _) hgb1
            have HP_2 := Lib.hid (HP_1.out.grow hgr2)
            have HXL_2 := Lib.hid (HXL_1.out.grow hgr2)
            have HYL_2 := Lib.hid (HYL_1.out.grow hgr2)
            have HYV_2 := Lib.hid (HYV_1.out.grow hgr2)
            have GCH2 := Lib.hid (GCH1.out.trans hgr2)
            have hbx_2 := hgr2.blk HBB0.out
            clear ex0 ex1 zx
            obtain ⟨ex0, ex1⟩ := box2 hbx_2
            have zx := lt_of_block hbx_2
            have HBX0_2 := Lib.hid hbx_2
            clear hbx_2
            clear hgb1 hgr2 HP_1 HXL_1 HYL_1 HYV_1 GCH1 HBB0
            obtain ⟨ey0, ey1⟩ := box2 hbb1
            have zy := lt_of_block hbb1
            have HBB1 := Lib.hid hbb1
            clear hbb1
            clear hsz0 hsz1
            refine long_any p _ _ (by first | exact HP_2.out | exact HP_2.out.grow ((Grow.refl _).alloc _) | exact HP_2.out.grow (((Grow.refl _).alloc _).alloc _) | exact HP_2.out.grow ((((Grow.refl _).alloc _).alloc _).alloc _) | exact HP_2.out.grow (((((Grow.refl _).alloc _).alloc _).alloc _).alloc _) | exact HP_2.out.grow ((Grow.refl _).drewN _)) _ ?_
            rw [HD0.out]
            go_wp2_with fail
            refine large_any xl _ _ (by first | exact HXL_2.out | exact HXL_2.out.grow ((Grow.refl _).alloc _) | exact HXL_2.out.grow (((Grow.refl _).alloc _).alloc _) | exact HXL_2.out.grow ((((Grow.refl _).alloc _).alloc _).alloc _) | exact HXL_2.out.grow (((((Grow.refl _).alloc _).alloc _).alloc _).alloc _) | exact HXL_2.out.grow ((Grow.refl _).drewN _)) _ ?_
            rw [HD1.out]
            go_wp2_with fail
            refine large_any yl _ _ (by first | exact HYL_2.out | exact HYL_2.out.grow ((Grow.refl _).alloc _) | exact HYL_2.out.grow (((Grow.refl _).alloc _).alloc _) | exact HYL_2.out.grow ((((Grow.refl _).alloc _).alloc _).alloc _) | exact HYL_2.out.grow (((((Grow.refl _).alloc _).alloc _).alloc _).alloc _) | exact HYL_2.out.grow ((Grow.refl _).drewN _)) _ ?_
            rw [HD2.out]
            go_wp2_with fail
            refine large_any yv _ _ (by first | exact HYV_2.out | exact HYV_2.out.grow ((Grow.refl _).alloc _) | exact HYV_2.out.grow (((Grow.refl _).alloc _).alloc _) | exact HYV_2.out.grow ((((Grow.refl _).alloc _).alloc _).alloc _) | exact HYV_2.out.grow (((((Grow.refl _).alloc _).alloc _).alloc _).alloc _) | exact HYV_2.out.grow ((Grow.refl _).drewN _)) _ ?_
            rw [HD3.out]
            go_wp2_with fail
            refine Slice_any p xl xr _ _ _ (by first | exact HP_2.out | exact HP_2.out.grow ((Grow.refl _).alloc _) | exact HP_2.out.grow (((Grow.refl _).alloc _).alloc _) | exact HP_2.out.grow ((((Grow.refl _).alloc _).alloc _).alloc _) | exact HP_2.out.grow (((((Grow.refl _).alloc _).alloc _).alloc _).alloc _) | exact HP_2.out.grow ((Grow.refl _).drewN _)) (by first | exact HXL_2.out | exact HXL_2.out.grow ((Grow.refl _).alloc _) | exact HXL_2.out.grow (((Grow.refl _).alloc _).alloc _) | exact HXL_2.out.grow ((((Grow.refl _).alloc _).alloc _).alloc _) | exact HXL_2.out.grow (((((Grow.refl _).alloc _).alloc _).alloc _).alloc _) | exact HXL_2.out.grow ((Grow.refl _).drewN _)) _ ?_
            intro wz3 x3_0 hg3 hx3_0
            have hgr3 : Grow wb1 wz3 := by first | exact hg3 | exact Grow.trans ((Grow.refl _).alloc _) hg3 | exact Grow.trans (((Grow.refl _).alloc _).alloc _) hg3 | exact Grow.trans ((((Grow.refl _).alloc _).alloc _).alloc _) hg3 | exact Grow.trans (((((Grow.refl _).alloc _).alloc _).alloc _).alloc _) hg3 | exact Grow.trans ((Grow.refl _).drewN _) hg3
            have HP_3 := Lib.hid (HP_2.out.grow hgr3)
            have HXL_3 := Lib.hid (HXL_2.out.grow hgr3)
            have HYL_3 := Lib.hid (HYL_2.out.grow hgr3)
            have HYV_3 := Lib.hid (HYV_2.out.grow hgr3)
            have GCH3 := Lib.hid (GCH2.out.trans hgr3)
            have hbx_3 := hgr3.blk HBX0_2.out
            clear ex0 ex1 zx
            obtain ⟨ex0, ex1⟩ := box2 hbx_3
            have zx := lt_of_block hbx_3
            have HBX0_3 := Lib.hid hbx_3
            clear hbx_3
            have hbx_3 := hgr3.blk HBB1.out
            clear ey0 ey1 zy
            obtain ⟨ey0, ey1⟩ := box2 hbx_3
            have zy := lt_of_block hbx_3
            have HBX1_3 := Lib.hid hbx_3
            clear hbx_3
            clear hg3 hgr3 HP_2 HXL_2 HYL_2 HYV_2 GCH2 HBX0_2 HBB1
            rw [HSL.out] at hx3_0
            have hyHA_3 := hx3_0
            have HA_3 := Lib.hid hyHA_3
            obtain ⟨aHA_3, cHA_3, rfl, qHA_31, qHA_32, _⟩ := hyHA_3
            clear hx3_0
            rw [HE.out]
            go_wp2_with fail
            refine Run_any p xl _ _ _ (by first | exact HP_3.out | exact HP_3.out.grow ((Grow.refl _).alloc _) | exact HP_3.out.grow (((Grow.refl _).alloc _).alloc _) | exact HP_3.out.grow ((((Grow.refl _).alloc _).alloc _).alloc _) | exact HP_3.out.grow (((((Grow.refl _).alloc _).alloc _).alloc _).alloc _) | exact HP_3.out.grow ((Grow.refl _).drewN _)) (by first | exact HXL_3.out | exact HXL_3.out.grow ((Grow.refl _).alloc _) | exact HXL_3.out.grow (((Grow.refl _).alloc _).alloc _) | exact HXL_3.out.grow ((((Grow.refl _).alloc _).alloc _).alloc _) | exact HXL_3.out.grow (((((Grow.refl _).alloc _).alloc _).alloc _).alloc _) | exact HXL_3.out.grow ((Grow.refl _).drewN _)) _ ?_
            intro wz4 x4_0 hg4 hx4_0
            have hgr4 : Grow wz3 wz4 := by first | exact hg4 | exact Grow.trans ((Grow.refl _).alloc _) hg4 | exact Grow.trans (((Grow.refl _).alloc _).alloc _) hg4 | exact Grow.trans ((((Grow.refl _).alloc _).alloc _).alloc _) hg4 | exact Grow.trans (((((Grow.refl _).alloc _).alloc _).alloc _).alloc _) hg4 | exact Grow.trans ((Grow.refl _).drewN _) hg4
            have HP_4 := Lib.hid (HP_3.out.grow hgr4)
            have HXL_4 := Lib.hid (HXL_3.out.grow hgr4)
            have HYL_4 := Lib.hid (HYL_3.out.grow hgr4)
            have HYV_4 := Lib.hid (HYV_3.out.grow hgr4)
            have HA_4 := Lib.hid (HA_3.out.grow hgr4)
            have GCH4 := Lib.hid (GCH3.out.trans hgr4)
            have hbx_4 := hgr4.blk HBX0_3.out
            clear ex0 ex1 zx
            obtain ⟨ex0, ex1⟩ := box2 hbx_4
            have zx := lt_of_block hbx_4
            have HBX0_4 := Lib.hid hbx_4
            clear hbx_4
            have hbx_4 := hgr4.blk HBX1_3.out
            clear ey0 ey1 zy
            obtain ⟨ey0, ey1⟩ := box2 hbx_4
            have zy := lt_of_block hbx_4
            have HBX1_4 := Lib.hid hbx_4
            clear hbx_4
            clear hg4 hgr4 HP_3 HXL_3 HYL_3 HYV_3 HA_3 GCH3 HBX0_3 HBX1_3
            rw [HEN.out] at hx4_0
            have hyHB_4 := hx4_0.slc encI_len
            have HB_4 := Lib.hid hyHB_4
            obtain ⟨aHB_4, cHB_4, rfl, qHB_41, qHB_42, _⟩ := hyHB_4
            clear hx4_0
            rw [HCK.out]
            go_wp2_with fail
            refine Force_any p xl yl yv _ _ _ _ _ (by first | exact HP_4.out | exact HP_4.out.grow ((Grow.refl _).alloc _) | exact HP_4.out.grow (((Grow.refl _).alloc _).alloc _) | exact HP_4.out.grow ((((Grow.refl _).alloc _).alloc _).alloc _) | exact HP_4.out.grow (((((Grow.refl _).alloc _).alloc _).alloc _).alloc _) | exact HP_4.out.grow ((Grow.refl _).drewN _)) (by first | exact HXL_4.out | exact HXL_4.out.grow ((Grow.refl _).alloc _) | exact HXL_4.out.grow (((Grow.refl _).alloc _).alloc _) | exact HXL_4.out.grow ((((Grow.refl _).alloc _).alloc _).alloc _) | exact HXL_4.out.grow (((((Grow.refl _).alloc _).alloc _).alloc _).alloc _) | exact HXL_4.out.grow ((Grow.refl _).drewN _)) (by first | exact HYL_4.out | exact HYL_4.out.grow ((Grow.refl _).alloc _) | exact HYL_4.out.grow (((Grow.refl _).alloc _).alloc _) | exact HYL_4.out.grow ((((Grow.refl _).alloc _).alloc _).alloc _) | exact HYL_4.out.grow (((((Grow.refl _).alloc _).alloc _).alloc _).alloc _) | exact HYL_4.out.grow ((Grow.refl _).drewN _)) (by first | exact HYV_4.out | exact HYV_4.out.grow ((Grow.refl _).alloc _) | exact HYV_4.out.grow (((Grow.refl _).alloc _).alloc _) | exact HYV_4.out.grow ((((Grow.refl _).alloc _).alloc _).alloc _) | exact HYV_4.out.grow (((((Grow.refl _).alloc _).alloc _).alloc _).alloc _) | exact HYV_4.out.grow ((Grow.refl _).drewN _)) (by omega) _ ?_
            intro wz5 x5_0 hg5 hx5_0
            have hgr5 : Grow wz4 wz5 := by first | exact hg5 | exact Grow.trans ((Grow.refl _).alloc _) hg5 | exact Grow.trans (((Grow.refl _).alloc _).alloc _) hg5 | exact Grow.trans ((((Grow.refl _).alloc _).alloc _).alloc _) hg5 | exact Grow.trans (((((Grow.refl _).alloc _).alloc _).alloc _).alloc _) hg5 | exact Grow.trans ((Grow.refl _).drewN _) hg5
            have HP_5 := Lib.hid (HP_4.out.grow hgr5)
            have HXL_5 := Lib.hid (HXL_4.out.grow hgr5)
            have HYL_5 := Lib.hid (HYL_4.out.grow hgr5)
            have HYV_5 := Lib.hid (HYV_4.out.grow hgr5)
            have HA_5 := Lib.hid (HA_4.out.grow hgr5)
            have HB_5 := Lib.hid (HB_4.out.grow hgr5)
            have GCH5 := Lib.hid (GCH4.out.trans hgr5)
            have hbx_5 := hgr5.blk HBX0_4.out
            clear ex0 ex1 zx
            obtain ⟨ex0, ex1⟩ := box2 hbx_5
            have zx := lt_of_block hbx_5
            have HBX0_5 := Lib.hid hbx_5
            clear hbx_5
            have hbx_5 := hgr5.blk HBX1_4.out
            clear ey0 ey1 zy
            obtain ⟨ey0, ey1⟩ := box2 hbx_5
            have zy := lt_of_block hbx_5
            have HBX1_5 := Lib.hid hbx_5
            clear hbx_5
            clear hg5 hgr5 HP_4 HXL_4 HYL_4 HYV_4 HA_4 HB_4 GCH4 HBX0_4 HBX1_4
            rw [HFO.out] at hx5_0
            have hyHC_5 := hx5_0
            have HC_5 := Lib.hid hyHC_5
            obtain ⟨aHC_5, cHC_5, rfl, qHC_51, qHC_52, _⟩ := hyHC_5
            clear hx5_0
            rw [HFE.out]
            go_wp2_with fail
            refine known_any _ _ ?_
            intro wz6 hg6 
            have hgr6 : Grow wz5 wz6 := by first | exact hg6 | exact Grow.trans ((Grow.refl _).alloc _) hg6 | exact Grow.trans (((Grow.refl _).alloc _).alloc _) hg6 | exact Grow.trans ((((Grow.refl _).alloc _).alloc _).alloc _) hg6 | exact Grow.trans (((((Grow.refl _).alloc _).alloc _).alloc _).alloc _) hg6 | exact Grow.trans ((Grow.refl _).drewN _) hg6
            have HP_6 := Lib.hid (HP_5.out.grow hgr6)
            have HXL_6 := Lib.hid (HXL_5.out.grow hgr6)
            have HYL_6 := Lib.hid (HYL_5.out.grow hgr6)
            have HYV_6 := Lib.hid (HYV_5.out.grow hgr6)
            have HA_6 := Lib.hid (HA_5.out.grow hgr6)
            have HB_6 := Lib.hid (HB_5.out.grow hgr6)
            have HC_6 := Lib.hid (HC_5.out.grow hgr6)
            have GCH6 := Lib.hid (GCH5.out.trans hgr6)
            have hbx_6 := hgr6.blk HBX0_5.out
            clear ex0 ex1 zx
            obtain ⟨ex0, ex1⟩ := box2 hbx_6
            have zx := lt_of_block hbx_6
            have HBX0_6 := Lib.hid hbx_6
            clear hbx_6
            have hbx_6 := hgr6.blk HBX1_5.out
            clear ey0 ey1 zy
            obtain ⟨ey0, ey1⟩ := box2 hbx_6
            have zy := lt_of_block hbx_6
            have HBX1_6 := Lib.hid hbx_6
            clear hbx_6
            clear hg6 hgr6 HP_5 HXL_5 HYL_5 HYV_5 HA_5 HB_5 HC_5 GCH5 HBX0_5 HBX1_5
            go_wp2_with fail
            first | exact HR.out _ (GCH6.out) | exact HR.out _ (Grow.trans GCH6.out ((Grow.refl _).alloc _)) | exact HR.out _ (Grow.trans GCH6.out (((Grow.refl _).alloc _).alloc _)) | exact HR.out _ (Grow.trans GCH6.out ((((Grow.refl _).alloc _).alloc _).alloc _)) | exact HR.out _ (Grow.trans GCH6.out (((((Grow.refl _).alloc _).alloc _).alloc _).alloc _)) | exact HR.out _ (Grow.trans GCH6.out ((Grow.refl _).drewN _))
          obtain ⟨hck, xr0, xr3⟩ := slice_chk h1
          by_cases h2 : frcE p xl yl yv = 0
          rotate_left
          · have HE := Lib.hid h1
            have HCK := Lib.hid hck
            obtain ⟨ef, he⟩ : ∃ e, frcE p xl yl yv = e := ⟨_, rfl⟩
            have hn : ef ≠ 0 := by rw [← he]; exact h2
            have t1 : (ef == 0) = false := by simpa using hn
            have t2 : (ef != 0) = true := by simpa using hn
            have HFE := Lib.hid he
            clear he hn h1 h2 hck
            obtain ⟨sl, hsl⟩ : ∃ z, ifOK (sliceE p xl xr) (sliceM p xl xr) = z := ⟨_, rfl⟩
            have HSL := Lib.hid hsl
            clear hsl
            obtain ⟨en, hen⟩ : ∃ z, ifOK (chk p xl) (runM p xl) = z := ⟨_, rfl⟩
            have HEN := Lib.hid hen
            clear hen
            obtain ⟨fo, hfo⟩ : ∃ z, frcM p xl yl yv = z := ⟨_, rfl⟩
            have HFO := Lib.hid hfo
            clear hfo
            go_enter Try.func13, Try.ntmps13
            go_wp2_with fail
            obtain ⟨wb0, hwb0⟩ : ∃ W, w.alloc (.cells #[.slice adxl xl.length cpxl, .int .i64 xr] 63) = W := ⟨_, rfl⟩
            rw [hwb0]
            have hgb0 : Grow w wb0 := hwb0 ▸ (Grow.refl w).alloc _
            have hsz0 : wb0.heap.size = w.heap.size + 1 := by rw [← hwb0, World.size_alloc]
            have hbb0 : wb0.heap[w.heap.size]? = some (.cells #[.slice adxl xl.length cpxl, .int .i64 xr] 63 (0, 0)) := by have h := heap_alloc_new w (.cells #[.slice adxl xl.length cpxl, .int .i64 xr] 63); rw [hwb0] at h; exact h
            clear hwb0
            have hgr1 : Grow w wb0 := by first | exact hgb0 | exact Grow.trans ((Grow.refl _).alloc _) hgb0 | exact Grow.trans (((Grow.refl _).alloc _).alloc _) hgb0 | exact Grow.trans ((((Grow.refl _).alloc _).alloc _).alloc _) hgb0 | exact Grow.trans (((((Grow.refl _).alloc _).alloc _).alloc _).alloc _) hgb0 | exact Grow.trans ((Grow.refl _).drewN _) hgb0
            have HP_1 := Lib.hid (HP_.out.grow hgr1)
            have HXL_1 := Lib.hid (HXL_.out.grow hgr1)
            have HYL_1 := Lib.hid (HYL_.out.grow hgr1)
            have HYV_1 := Lib.hid (HYV_.out.grow hgr1)
            have GCH1 := Lib.hid hgr1
            clear hgb0 hgr1 HP_ HXL_ HYL_ HYV_
            obtain ⟨ex0, ex1⟩ := box2 hbb0
            have zx := lt_of_block hbb0
            have HBB0 := Lib.hid hbb0
            clear hbb0
            obtain ⟨wb1, hwb1⟩ : ∃ W, wb0.alloc (.cells #[.slice adyl yl.length cpyl, .slice adyv yv.length cpyv] 59) = W := ⟨_, rfl⟩
            rw [hwb1]
            have hgb1 : Grow wb0 wb1 := hwb1 ▸ (Grow.refl wb0).alloc _
            have hsz1 : wb1.heap.size = w.heap.size + 2 := by rw [← hwb1, World.size_alloc]; rw [hsz0]
            have hbb1 : wb1.heap[w.heap.size + 1]? = some (.cells #[.slice adyl yl.length cpyl, .slice adyv yv.length cpyv] 59 (0, 0)) := by have h := heap_alloc_new wb0 (.cells #[.slice adyl yl.length cpyl, .slice adyv yv.length cpyv] 59); rw [hsz0] at h; rw [hwb1] at h; exact h
            clear hwb1
            have hgr2 : Grow wb0 wb1 := by first | exact hgb1 | exact Grow.trans ((Grow.refl _).alloc _) hgb1 | exact Grow.trans (((Grow.refl _).alloc _).alloc _) hgb1 | exact Grow.trans ((((Grow.refl _).alloc _).alloc _).alloc _) hgb1 | exact Grow.trans (((((Grow.refl _).alloc _).alloc _).alloc _).alloc _) hgb1 | exact Grow.trans ((Grow.refl _).drewN _) hgb1
            have HP_2 := Lib.hid (HP_1.out.grow hgr2)
            have HXL_2 := Lib.hid (HXL_1.out.grow hgr2)
            have HYL_2 := Lib.hid (HYL_1.out.grow hgr2)
            have HYV_2 := Lib.hid (HYV_1.out.grow hgr2)
            have GCH2 := Lib.hid (GCH1.out.trans hgr2)
            have hbx_2 := hgr2.blk HBB0.out
            clear ex0 ex1 zx
            obtain ⟨ex0, ex1⟩ := box2 hbx_2
            have zx := lt_of_block hbx_2
            have HBX0_2 := Lib.hid hbx_2
            clear hbx_2
            clear hgb1 hgr2 HP_1 HXL_1 HYL_1 HYV_1 GCH1 HBB0
            obtain ⟨ey0, ey1⟩ := box2 hbb1
            have zy := lt_of_block hbb1
            have HBB1 := Lib.hid hbb1
            clear hbb1
            clear hsz0 hsz1
            refine long_any p _ _ (by first | exact HP_2.out | exact HP_2.out.grow ((Grow.refl _).alloc _) | exact HP_2.out.grow (((Grow.refl _).alloc _).alloc _) | exact HP_2.out.grow ((((Grow.refl _).alloc _).alloc _).alloc _) | exact HP_2.out.grow (((((Grow.refl _).alloc _).alloc _).alloc _).alloc _) | exact HP_2.out.grow ((Grow.refl _).drewN _)) _ ?_
            rw [HD0.out]
            go_wp2_with fail
            refine large_any xl _ _ (by first | exact HXL_2.out | exact HXL_2.out.grow ((Grow.refl _).alloc _) | exact HXL_2.out.grow (((Grow.refl _).alloc _).alloc _) | exact HXL_2.out.grow ((((Grow.refl _).alloc _).alloc _).alloc _) | exact HXL_2.out.grow (((((Grow.refl _).alloc _).alloc _).alloc _).alloc _) | exact HXL_2.out.grow ((Grow.refl _).drewN _)) _ ?_
            rw [HD1.out]
            go_wp2_with fail
            refine large_any yl _ _ (by first | exact HYL_2.out | exact HYL_2.out.grow ((Grow.refl _).alloc _) | exact HYL_2.out.grow (((Grow.refl _).alloc _).alloc _) | exact HYL_2.out.grow ((((Grow.refl _).alloc _).alloc _).alloc _) | exact HYL_2.out.grow (((((Grow.refl _).alloc _).alloc _).alloc _).alloc _) | exact HYL_2.out.grow ((Grow.refl _).drewN _)) _ ?_
            rw [HD2.out]
            go_wp2_with fail
            refine large_any yv _ _ (by first | exact HYV_2.out | exact HYV_2.out.grow ((Grow.refl _).alloc _) | exact HYV_2.out.grow (((Grow.refl _).alloc _).alloc _) | exact HYV_2.out.grow ((((Grow.refl _).alloc _).alloc _).alloc _) | exact HYV_2.out.grow (((((Grow.refl _).alloc _).alloc _).alloc _).alloc _) | exact HYV_2.out.grow ((Grow.refl _).drewN _)) _ ?_
            rw [HD3.out]
            go_wp2_with fail
            refine Slice_any p xl xr _ _ _ (by first | exact HP_2.out | exact HP_2.out.grow ((Grow.refl _).alloc _) | exact HP_2.out.grow (((Grow.refl _).alloc _).alloc _) | exact HP_2.out.grow ((((Grow.refl _).alloc _).alloc _).alloc _) | exact HP_2.out.grow (((((Grow.refl _).alloc _).alloc _).alloc _).alloc _) | exact HP_2.out.grow ((Grow.refl _).drewN _)) (by first | exact HXL_2.out | exact HXL_2.out.grow ((Grow.refl _).alloc _) | exact HXL_2.out.grow (((Grow.refl _).alloc _).alloc _) | exact HXL_2.out.grow ((((Grow.refl _).alloc _).alloc _).alloc _) | exact HXL_2.out.grow (((((Grow.refl _).alloc _).alloc _).alloc _).alloc _) | exact HXL_2.out.grow ((Grow.refl _).drewN _)) _ ?_
            intro wz3 x3_0 hg3 hx3_0
            have hgr3 : Grow wb1 wz3 := by first | exact hg3 | exact Grow.trans ((Grow.refl _).alloc _) hg3 | exact Grow.trans (((Grow.refl _).alloc _).alloc _) hg3 | exact Grow.trans ((((Grow.refl _).alloc _).alloc _).alloc _) hg3 | exact Grow.trans (((((Grow.refl _).alloc _).alloc _).alloc _).alloc _) hg3 | exact Grow.trans ((Grow.refl _).drewN _) hg3
            have HP_3 := Lib.hid (HP_2.out.grow hgr3)
            have HXL_3 := Lib.hid (HXL_2.out.grow hgr3)
            have HYL_3 := Lib.hid (HYL_2.out.grow hgr3)
            have HYV_3 := Lib.hid (HYV_2.out.grow hgr3)
            have GCH3 := Lib.hid (GCH2.out.trans hgr3)
            have hbx_3 := hgr3.blk HBX0_2.out
            clear ex0 ex1 zx
            obtain ⟨ex0, ex1⟩ := box2 hbx_3
            have zx := lt_of_block hbx_3
            have HBX0_3 := Lib.hid hbx_3
            clear hbx_3
            have hbx_3 := hgr3.blk HBB1.out
            clear ey0 ey1 zy
            obtain ⟨ey0, ey1⟩ := box2 hbx_3
            have zy := lt_of_block hbx_3
            have HBX1_3 := Lib.hid hbx_3
            clear hbx_3
            clear hg3 hgr3 HP_2 HXL_2 HYL_2 HYV_2 GCH2 HBX0_2 HBB1
            rw [HSL.out] at hx3_0
            have hyHA_3 := hx3_0
            have HA_3 := Lib.hid hyHA_3
            obtain ⟨aHA_3, cHA_3, rfl, qHA_31, qHA_32, _⟩ := hyHA_3
            clear hx3_0
            rw [HE.out]
            go_wp2_with fail
            refine Run_any p xl _ _ _ (by first | exact HP_3.out | exact HP_3.out.grow ((Grow.refl _).alloc _) | exact HP_3.out.grow (((Grow.refl _).alloc _).alloc _) | exact HP_3.out.grow ((((Grow.refl _).alloc _).alloc _).alloc _) | exact HP_3.out.grow (((((Grow.refl _).alloc _).alloc _).alloc _).alloc _) | exact HP_3.out.grow ((Grow.refl _).drewN _)) (by first | exact HXL_3.out | exact HXL_3.out.grow ((Grow.refl _).alloc _) | exact HXL_3.out.grow (((Grow.refl _).alloc _).alloc _) | exact HXL_3.out.grow ((((Grow.refl _).alloc _).alloc _).alloc _) | exact HXL_3.out.grow (((((Grow.refl _).alloc _).alloc _).alloc _).alloc _) | exact HXL_3.out.grow ((Grow.refl _).drewN _)) _ ?_
            intro wz4 x4_0 hg4 hx4_0
            have hgr4 : Grow wz3 wz4 := by first | exact hg4 | exact Grow.trans ((Grow.refl _).alloc _) hg4 | exact Grow.trans (((Grow.refl _).alloc _).alloc _) hg4 | exact Grow.trans ((((Grow.refl _).alloc _).alloc _).alloc _) hg4 | exact Grow.trans (((((Grow.refl _).alloc _).alloc _).alloc _).alloc _) hg4 | exact Grow.trans ((Grow.refl _).drewN _) hg4
            have HP_4 := Lib.hid (HP_3.out.grow hgr4)
            have HXL_4 := Lib.hid (HXL_3.out.grow hgr4)
            have HYL_4 := Lib.hid (HYL_3.out.grow hgr4)
            have HYV_4 := Lib.hid (HYV_3.out.grow hgr4)
            have HA_4 := Lib.hid (HA_3.out.grow hgr4)
            have GCH4 := Lib.hid (GCH3.out.trans hgr4)
            have hbx_4 := hgr4.blk HBX0_3.out
            clear ex0 ex1 zx
            obtain ⟨ex0, ex1⟩ := box2 hbx_4
            have zx := lt_of_block hbx_4
            have HBX0_4 := Lib.hid hbx_4
            clear hbx_4
            have hbx_4 := hgr4.blk HBX1_3.out
            clear ey0 ey1 zy
            obtain ⟨ey0, ey1⟩ := box2 hbx_4
            have zy := lt_of_block hbx_4
            have HBX1_4 := Lib.hid hbx_4
            clear hbx_4
            clear hg4 hgr4 HP_3 HXL_3 HYL_3 HYV_3 HA_3 GCH3 HBX0_3 HBX1_3
            rw [HEN.out] at hx4_0
            have hyHB_4 := hx4_0.slc encI_len
            have HB_4 := Lib.hid hyHB_4
            obtain ⟨aHB_4, cHB_4, rfl, qHB_41, qHB_42, _⟩ := hyHB_4
            clear hx4_0
            rw [HCK.out]
            go_wp2_with fail
            refine Force_any p xl yl yv _ _ _ _ _ (by first | exact HP_4.out | exact HP_4.out.grow ((Grow.refl _).alloc _) | exact HP_4.out.grow (((Grow.refl _).alloc _).alloc _) | exact HP_4.out.grow ((((Grow.refl _).alloc _).alloc _).alloc _) | exact HP_4.out.grow (((((Grow.refl _).alloc _).alloc _).alloc _).alloc _) | exact HP_4.out.grow ((Grow.refl _).drewN _)) (by first | exact HXL_4.out | exact HXL_4.out.grow ((Grow.refl _).alloc _) | exact HXL_4.out.grow (((Grow.refl _).alloc _).alloc _) | exact HXL_4.out.grow ((((Grow.refl _).alloc _).alloc _).alloc _) | exact HXL_4.out.grow (((((Grow.refl _).alloc _).alloc _).alloc _).alloc _) | exact HXL_4.out.grow ((Grow.refl _).drewN _)) (by first | exact HYL_4.out | exact HYL_4.out.grow ((Grow.refl _).alloc _) | exact HYL_4.out.grow (((Grow.refl _).alloc _).alloc _) | exact HYL_4.out.grow ((((Grow.refl _).alloc _).alloc _).alloc _) | exact HYL_4.out.grow (((((Grow.refl _).alloc _).alloc _).alloc _).alloc _) | exact HYL_4.out.grow ((Grow.refl _).drewN _)) (by first | exact HYV_4.out | exact HYV_4.out.grow ((Grow.refl _).alloc _) | exact HYV_4.out.grow (((Grow.refl _).alloc _).alloc _) | exact HYV_4.out.grow ((((Grow.refl _).alloc _).alloc _).alloc _) | exact HYV_4.out.grow (((((Grow.refl _).alloc _).alloc _).alloc _).alloc _) | exact HYV_4.out.grow ((Grow.refl _).drewN _)) (by omega) _ ?_
            intro wz5 x5_0 hg5 hx5_0
            have hgr5 : Grow wz4 wz5 := by first | exact hg5 | exact Grow.trans ((Grow.refl _).alloc _) hg5 | exact Grow.trans (((Grow.refl _).alloc _).alloc _) hg5 | exact Grow.trans ((((Grow.refl _).alloc _).alloc _).alloc _) hg5 | exact Grow.trans (((((Grow.refl _).alloc _).alloc _).alloc _).alloc _) hg5 | exact Grow.trans ((Grow.refl _).drewN _) hg5
            have HP_5 := Lib.hid (HP_4.out.grow hgr5)
            have HXL_5 := Lib.hid (HXL_4.out.grow hgr5)
            have HYL_5 := Lib.hid (HYL_4.out.grow hgr5)
            have HYV_5 := Lib.hid (HYV_4.out.grow hgr5)
            have HA_5 := Lib.hid (HA_4.out.grow hgr5)
            have HB_5 := Lib.hid (HB_4.out.grow hgr5)
            have GCH5 := Lib.hid (GCH4.out.trans hgr5)
            have hbx_5 := hgr5.blk HBX0_4.out
            clear ex0 ex1 zx
            obtain ⟨ex0, ex1⟩ := box2 hbx_5
            have zx := lt_of_block hbx_5
            have HBX0_5 := Lib.hid hbx_5
            clear hbx_5
            have hbx_5 := hgr5.blk HBX1_4.out
            clear ey0 ey1 zy
            obtain ⟨ey0, ey1⟩ := box2 hbx_5
            have zy := lt_of_block hbx_5
            have HBX1_5 := Lib.hid hbx_5
            clear hbx_5
            clear hg5 hgr5 HP_4 HXL_4 HYL_4 HYV_4 HA_4 HB_4 GCH4 HBX0_4 HBX1_4
            rw [HFO.out] at hx5_0
            have hyHC_5 := hx5_0
            have HC_5 := Lib.hid hyHC_5
            obtain ⟨aHC_5, cHC_5, rfl, qHC_51, qHC_52, _⟩ := hyHC_5
            clear hx5_0
            rw [HFE.out]
            go_wp2_with fail
            refine known_any _ _ ?_
            intro wz6 hg6 
            have hgr6 : Grow wz5 wz6 := by first | exact hg6 | exact Grow.trans ((Grow.refl _).alloc _) hg6 | exact Grow.trans (((Grow.refl _).alloc _).alloc _) hg6 | exact Grow.trans ((((Grow.refl _).alloc _).alloc _).alloc _) hg6 | exact Grow.trans (((((Grow.refl _).alloc _).alloc _).alloc _).alloc _) hg6 | exact Grow.trans ((Grow.refl _).drewN _) hg6
            have HP_6 := Lib.hid (HP_5.out.grow hgr6)
            have HXL_6 := Lib.hid (HXL_5.out.grow hgr6)
            have HYL_6 := Lib.hid (HYL_5.out.grow hgr6)
            have HYV_6 := Lib.hid (HYV_5.out.grow hgr6)
            have HA_6 := Lib.hid (HA_5.out.grow hgr6)
            have HB_6 := Lib.hid (HB_5.out.grow hgr6)
            have HC_6 := Lib.hid (HC_5.out.grow hgr6)
            have GCH6 := Lib.hid (GCH5.out.trans hgr6)
            have hbx_6 := hgr6.blk HBX0_5.out
            clear ex0 ex1 zx
            obtain ⟨ex0, ex1⟩ := box2 hbx_6
            have zx := lt_of_block hbx_6
            have HBX0_6 := Lib.hid hbx_6
            clear hbx_6
            have hbx_6 := hgr6.blk HBX1_5.out
            clear ey0 ey1 zy
            obtain ⟨ey0, ey1⟩ := box2 hbx_6
            have zy := lt_of_block hbx_6
            have HBX1_6 := Lib.hid hbx_6
            clear hbx_6
            clear hg6 hgr6 HP_5 HXL_5 HYL_5 HYV_5 HA_5 HB_5 HC_5 GCH5 HBX0_5 HBX1_5
            go_wp2_with fail
            first | exact HR.out _ (GCH6.out) | exact HR.out _ (Grow.trans GCH6.out ((Grow.refl _).alloc _)) | exact HR.out _ (Grow.trans GCH6.out (((Grow.refl _).alloc _).alloc _)) | exact HR.out _ (Grow.trans GCH6.out ((((Grow.refl _).alloc _).alloc _).alloc _)) | exact HR.out _ (Grow.trans GCH6.out (((((Grow.refl _).alloc _).alloc _).alloc _).alloc _)) | exact HR.out _ (Grow.trans GCH6.out ((Grow.refl _).drewN _))
          have HE := Lib.hid h1
          have HFE := Lib.hid h2
          have HCK := Lib.hid hck
          clear h1 h2 hck
          obtain ⟨sl, hsl⟩ : ∃ z, ifOK (sliceE p xl xr) (sliceM p xl xr) = z := ⟨_, rfl⟩
          have HSL := Lib.hid hsl
          clear hsl
          obtain ⟨en, hen⟩ : ∃ z, ifOK (chk p xl) (runM p xl) = z := ⟨_, rfl⟩
          have HEN := Lib.hid hen
          clear hen
          obtain ⟨fo, hfo⟩ : ∃ z, frcM p xl yl yv = z := ⟨_, rfl⟩
          have HFO := Lib.hid hfo
          clear hfo
          go_enter Try.func13, Try.ntmps13
          go_wp2_with fail
          obtain ⟨wb0, hwb0⟩ : ∃ W, w.alloc (.cells #[.slice adxl xl.length cpxl, .int .i64 xr] 63) = W := ⟨_, rfl⟩
          rw [hwb0]
          have hgb0 : Grow w wb0 := hwb0 ▸ (Grow.refl w).alloc _
          have hsz0 : wb0.heap.size = w.heap.size + 1 := by rw [← hwb0, World.size_alloc]
          have hbb0 : wb0.heap[w.heap.size]? = some (.cells #[.slice adxl xl.length cpxl, .int .i64 xr] 63 (0, 0)) := by have h := heap_alloc_new w (.cells #[.slice adxl xl.length cpxl, .int .i64 xr] 63); rw [hwb0] at h; exact h
          clear hwb0
          have hgr1 : Grow w wb0 := by first | exact hgb0 | exact Grow.trans ((Grow.refl _).alloc _) hgb0 | exact Grow.trans (((Grow.refl _).alloc _).alloc _) hgb0 | exact Grow.trans ((((Grow.refl _).alloc _).alloc _).alloc _) hgb0 | exact Grow.trans (((((Grow.refl _).alloc _).alloc _).alloc _).alloc _) hgb0 | exact Grow.trans ((Grow.refl _).drewN _) hgb0
          have HP_1 := Lib.hid (HP_.out.grow hgr1)
          have HXL_1 := Lib.hid (HXL_.out.grow hgr1)
          have HYL_1 := Lib.hid (HYL_.out.grow hgr1)
          have HYV_1 := Lib.hid (HYV_.out.grow hgr1)
          have GCH1 := Lib.hid hgr1
          clear hgb0 hgr1 HP_ HXL_ HYL_ HYV_
          obtain ⟨ex0, ex1⟩ := box2 hbb0
          have zx := lt_of_block hbb0
          have HBB0 := Lib.hid hbb0
          clear hbb0
          obtain ⟨wb1, hwb1⟩ : ∃ W, wb0.alloc (.cells #[.slice adyl yl.length cpyl, .slice adyv yv.length cpyv] 59) = W := ⟨_, rfl⟩
          rw [hwb1]
          have hgb1 : Grow wb0 wb1 := hwb1 ▸ (Grow.refl wb0).alloc _
          have hsz1 : wb1.heap.size = w.heap.size + 2 := by rw [← hwb1, World.size_alloc]; rw [hsz0]
          have hbb1 : wb1.heap[w.heap.size + 1]? = some (.cells #[.slice adyl yl.length cpyl, .slice adyv yv.length cpyv] 59 (0, 0)) := by have h := heap_alloc_new wb0 (.cells #[.slice adyl yl.length cpyl, .slice adyv yv.length cpyv] 59); rw [hsz0] at h; rw [hwb1] at h; exact h
          clear hwb1
          have hgr2 : Grow wb0 wb1 := by first | exact hgb1 | exact Grow.trans ((Grow.refl _).alloc _) hgb1 | exact Grow.trans (((Grow.refl _).alloc _).alloc _) hgb1 | exact Grow.trans ((((Grow.refl _).alloc _).alloc _).alloc _) hgb1 | exact Grow.trans (((((Grow.refl _).alloc _).alloc _).alloc _).alloc _) hgb1 | exact Grow.trans ((Grow.refl _).drewN _) hgb1
          have HP_2 := Lib.hid (HP_1.out.grow hgr2)
          have HXL_2 := Lib.hid (HXL_1.out.grow hgr2)
          have HYL_2 := Lib.hid (HYL_1.out.grow hgr2)
          have HYV_2 := Lib.hid (HYV_1.out.grow hgr2)
          have GCH2 := Lib.hid (GCH1.out.trans hgr2)
          have hbx_2 := hgr2.blk HBB0.out
          clear ex0 ex1 zx
          obtain ⟨ex0, ex1⟩ := box2 hbx_2
          have zx := lt_of_block hbx_2
          have HBX0_2 := Lib.hid hbx_2
          clear hbx_2
          clear hgb1 hgr2 HP_1 HXL_1 HYL_1 HYV_1 GCH1 HBB0
          obtain ⟨ey0, ey1⟩ := box2 hbb1
          have zy := lt_of_block hbb1
          have HBB1 := Lib.hid hbb1
          clear hbb1
          clear hsz0 hsz1
          refine long_any p _ _ (by first | exact HP_2.out | exact HP_2.out.grow ((Grow.refl _).alloc _) | exact HP_2.out.grow (((Grow.refl _).alloc _).alloc _) | exact HP_2.out.grow ((((Grow.refl _).alloc _).alloc _).alloc _) | exact HP_2.out.grow (((((Grow.refl _).alloc _).alloc _).alloc _).alloc _) | exact HP_2.out.grow ((Grow.refl _).drewN _)) _ ?_
          rw [HD0.out]
          go_wp2_with fail
          refine large_any xl _ _ (by first | exact HXL_2.out | exact HXL_2.out.grow ((Grow.refl _).alloc _) | exact HXL_2.out.grow (((Grow.refl _).alloc _).alloc _) | exact HXL_2.out.grow ((((Grow.refl _).alloc _).alloc _).alloc _) | exact HXL_2.out.grow (((((Grow.refl _).alloc _).alloc _).alloc _).alloc _) | exact HXL_2.out.grow ((Grow.refl _).drewN _)) _ ?_
          rw [HD1.out]
          go_wp2_with fail
          refine large_any yl _ _ (by first | exact HYL_2.out | exact HYL_2.out.grow ((Grow.refl _).alloc _) | exact HYL_2.out.grow (((Grow.refl _).alloc _).alloc _) | exact HYL_2.out.grow ((((Grow.refl _).alloc _).alloc _).alloc _) | exact HYL_2.out.grow (((((Grow.refl _).alloc _).alloc _).alloc _).alloc _) | exact HYL_2.out.grow ((Grow.refl _).drewN _)) _ ?_
          rw [HD2.out]
          go_wp2_with fail
          refine large_any yv _ _ (by first | exact HYV_2.out | exact HYV_2.out.grow ((Grow.refl _).alloc _) | exact HYV_2.out.grow (((Grow.refl _).alloc _).alloc _) | exact HYV_2.out.grow ((((Grow.refl _).alloc _).alloc _).alloc _) | exact HYV_2.out.grow (((((Grow.refl _).alloc _).alloc _).alloc _).alloc _) | exact HYV_2.out.grow ((Grow.refl _).drewN _)) _ ?_
          rw [HD3.out]
          go_wp2_with fail
          refine Slice_any p xl xr _ _ _ (by first | exact HP_2.out | exact HP_2.out.grow ((Grow.refl _).alloc _) | exact HP_2.out.grow (((Grow.refl _).alloc _).alloc _) | exact HP_2.out.grow ((((Grow.refl _).alloc _).alloc _).alloc _) | exact HP_2.out.grow (((((Grow.refl _).alloc _).alloc _).alloc _).alloc _) | exact HP_2.out.grow ((Grow.refl _).drewN _)) (by first | exact HXL_2.out | exact HXL_2.out.grow ((Grow.refl _).alloc _) | exact HXL_2.out.grow (((Grow.refl _).alloc _).alloc _) | exact HXL_2.out.grow ((((Grow.refl _).alloc _).alloc _).alloc _) | exact HXL_2.out.grow (((((Grow.refl _).alloc _).alloc _).alloc _).alloc _) | exact HXL_2.out.grow ((Grow.refl _).drewN _)) _ ?_
          intro wz3 x3_0 hg3 hx3_0
          have hgr3 : Grow wb1 wz3 := by first | exact hg3 | exact Grow.trans ((Grow.refl _).alloc _) hg3 | exact Grow.trans (((Grow.refl _).alloc _).alloc _) hg3 | exact Grow.trans ((((Grow.refl _).alloc _).alloc _).alloc _) hg3 | exact Grow.trans (((((Grow.refl _).alloc _).alloc _).alloc _).alloc _) hg3 | exact Grow.trans ((Grow.refl _).drewN _) hg3
          have HP_3 := Lib.hid (HP_2.out.grow hgr3)
          have HXL_3 := Lib.hid (HXL_2.out.grow hgr3)
          have HYL_3 := Lib.hid (HYL_2.out.grow hgr3)
          have HYV_3 := Lib.hid (HYV_2.out.grow hgr3)
          have GCH3 := Lib.hid (GCH2.out.trans hgr3)
          have hbx_3 := hgr3.blk HBX0_2.out
          clear ex0 ex1 zx
          obtain ⟨ex0, ex1⟩ := box2 hbx_3
          have zx := lt_of_block hbx_3
          have HBX0_3 := Lib.hid hbx_3
          clear hbx_3
          have hbx_3 := hgr3.blk HBB1.out
          clear ey0 ey1 zy
          obtain ⟨ey0, ey1⟩ := box2 hbx_3
          have zy := lt_of_block hbx_3
          have HBX1_3 := Lib.hid hbx_3
          clear hbx_3
          clear hg3 hgr3 HP_2 HXL_2 HYL_2 HYV_2 GCH2 HBX0_2 HBB1
          rw [HSL.out] at hx3_0
          have hyHA_3 := hx3_0
          have HA_3 := Lib.hid hyHA_3
          obtain ⟨aHA_3, cHA_3, rfl, qHA_31, qHA_32, _⟩ := hyHA_3
          clear hx3_0
          rw [HE.out]
          go_wp2_with fail
          refine Run_any p xl _ _ _ (by first | exact HP_3.out | exact HP_3.out.grow ((Grow.refl _).alloc _) | exact HP_3.out.grow (((Grow.refl _).alloc _).alloc _) | exact HP_3.out.grow ((((Grow.refl _).alloc _).alloc _).alloc _) | exact HP_3.out.grow (((((Grow.refl _).alloc _).alloc _).alloc _).alloc _) | exact HP_3.out.grow ((Grow.refl _).drewN _)) (by first | exact HXL_3.out | exact HXL_3.out.grow ((Grow.refl _).alloc _) | exact HXL_3.out.grow (((Grow.refl _).alloc _).alloc _) | exact HXL_3.out.grow ((((Grow.refl _).alloc _).alloc _).alloc _) | exact HXL_3.out.grow (((((Grow.refl _).alloc _).alloc _).alloc _).alloc _) | exact HXL_3.out.grow ((Grow.refl _).drewN _)) _ ?_
          intro wz4 x4_0 hg4 hx4_0
          have hgr4 : Grow wz3 wz4 := by first | exact hg4 | exact Grow.trans ((Grow.refl _).alloc _) hg4 | exact Grow.trans (((Grow.refl _).alloc _).alloc _) hg4 | exact Grow.trans ((((Grow.refl _).alloc _).alloc _).alloc _) hg4 | exact Grow.trans (((((Grow.refl _).alloc _).alloc _).alloc _).alloc _) hg4 | exact Grow.trans ((Grow.refl _).drewN _) hg4
          have HP_4 := Lib.hid (HP_3.out.grow hgr4)
          have HXL_4 := Lib.hid (HXL_3.out.grow hgr4)
          have HYL_4 := Lib.hid (HYL_3.out.grow hgr4)
          have HYV_4 := Lib.hid (HYV_3.out.grow hgr4)
          have HA_4 := Lib.hid (HA_3.out.grow hgr4)
          have GCH4 := Lib.hid (GCH3.out.trans hgr4)
          have hbx_4 := hgr4.blk HBX0_3.out
          clear ex0 ex1 zx
          obtain ⟨ex0, ex1⟩ := box2 hbx_4
          have zx := lt_of_block hbx_4
          have HBX0_4 := Lib.hid hbx_4
          clear hbx_4
          have hbx_4 := hgr4.blk HBX1_3.out
          clear ey0 ey1 zy
          obtain ⟨ey0, ey1⟩ := box2 hbx_4
          have zy := lt_of_block hbx_4
          have HBX1_4 := Lib.hid hbx_4
          clear hbx_4
          clear hg4 hgr4 HP_3 HXL_3 HYL_3 HYV_3 HA_3 GCH3 HBX0_3 HBX1_3
          rw [HEN.out] at hx4_0
          have hyHB_4 := hx4_0.slc encI_len
          have HB_4 := Lib.hid hyHB_4
          obtain ⟨aHB_4, cHB_4, rfl, qHB_41, qHB_42, _⟩ := hyHB_4
          clear hx4_0
          rw [HCK.out]
          go_wp2_with fail
          refine Force_any p xl yl yv _ _ _ _ _ (by first | exact HP_4.out | exact HP_4.out.grow ((Grow.refl _).alloc _) | exact HP_4.out.grow (((Grow.refl _).alloc _).alloc _) | exact HP_4.out.grow ((((Grow.refl _).alloc _).alloc _).alloc _) | exact HP_4.out.grow (((((Grow.refl _).alloc _).alloc _).alloc _).alloc _) | exact HP_4.out.grow ((Grow.refl _).drewN _)) (by first | exact HXL_4.out | exact HXL_4.out.grow ((Grow.refl _).alloc _) | exact HXL_4.out.grow (((Grow.refl _).alloc _).alloc _) | exact HXL_4.out.grow ((((Grow.refl _).alloc _).alloc _).alloc _) | exact HXL_4.out.grow (((((Grow.refl _).alloc _).alloc _).alloc _).alloc _) | exact HXL_4.out.grow ((Grow.refl _).drewN _)) (by first | exact HYL_4.out | exact HYL_4.out.grow ((Grow.refl _).alloc _) | exact HYL_4.out.grow (((Grow.refl _).alloc _).alloc _) | exact HYL_4.out.grow ((((Grow.refl _).alloc _).alloc _).alloc _) | exact HYL_4.out.grow (((((Grow.refl _).alloc _).alloc _).alloc _).alloc _) | exact HYL_4.out.grow ((Grow.refl _).drewN _)) (by first | exact HYV_4.out | exact HYV_4.out.grow ((Grow.refl _).alloc _) | exact HYV_4.out.grow (((Grow.refl _).alloc _).alloc _) | exact HYV_4.out.grow ((((Grow.refl _).alloc _).alloc _).alloc _) | exact HYV_4.out.grow (((((Grow.refl _).alloc _).alloc _).alloc _).alloc _) | exact HYV_4.out.grow ((Grow.refl _).drewN _)) (by omega) _ ?_
          intro wz5 x5_0 hg5 hx5_0
          have hgr5 : Grow wz4 wz5 := by first | exact hg5 | exact Grow.trans ((Grow.refl _).alloc _) hg5 | exact Grow.trans (((Grow.refl _).alloc _).alloc _) hg5 | exact Grow.trans ((((Grow.refl _).alloc _).alloc _).alloc _) hg5 | exact Grow.trans (((((Grow.refl _).alloc _).alloc _).alloc _).alloc _) hg5 | exact Grow.trans ((Grow.refl _).drewN _) hg5
          have HP_5 := Lib.hid (HP_4.out.grow hgr5)
          have HXL_5 := Lib.hid (HXL_4.out.grow hgr5)
          have HYL_5 := Lib.hid (HYL_4.out.grow hgr5)
          have HYV_5 := Lib.hid (HYV_4.out.grow hgr5)
          have HA_5 := Lib.hid (HA_4.out.grow hgr5)
          have HB_5 := Lib.hid (HB_4.out.grow hgr5)
          have GCH5 := Lib.hid (GCH4.out.trans hgr5)
          have hbx_5 := hgr5.blk HBX0_4.out
          clear ex0 ex1 zx
          obtain ⟨ex0, ex1⟩ := box2 hbx_5
          have zx := lt_of_block hbx_5
          have HBX0_5 := Lib.hid hbx_5
          clear hbx_5
          have hbx_5 := hgr5.blk HBX1_4.out
          clear ey0 ey1 zy
          obtain ⟨ey0, ey1⟩ := box2 hbx_5
          have zy := lt_of_block hbx_5
          have HBX1_5 := Lib.hid hbx_5
          clear hbx_5
          clear hg5 hgr5 HP_4 HXL_4 HYL_4 HYV_4 HA_4 HB_4 GCH4 HBX0_4 HBX1_4
          rw [HFO.out] at hx5_0
          have hyHC_5 := hx5_0
          have HC_5 := Lib.hid hyHC_5
          obtain ⟨aHC_5, cHC_5, rfl, qHC_51, qHC_52, _⟩ := hyHC_5
          clear hx5_0
          rw [HFE.out]
          have hsl : sl = sliceM p xl xr := by rw [← HSL.out, HE.out]; rfl
          have hen : en = (trc p noF 0 (St.ofL xl)).2.toL := by rw [← HEN.out, HCK.out]; rfl
          have hfo : fo = (trc p (frc yl yv) 0 (St.ofL xl)).2.toL := by
            rw [← HFO.out]; unfold frcM; rw [HFE.out]; rfl
          have HSL2 := Lib.hid hsl
          clear hsl
          obtain ⟨q1, hq1⟩ : ∃ z, (trc p noF 0 (St.ofL xl)).2 = z := ⟨_, rfl⟩
          obtain ⟨q2, hq2⟩ : ∃ z, (trc p (frc yl yv) 0 (St.ofL xl)).2 = z := ⟨_, rfl⟩
          rw [hq1] at hen
          rw [hq2] at hfo
          have HQ1 := Lib.hid hq1
          have HQ2 := Lib.hid hq2
          subst hen hfo
          rw [show q1.toL.length = 4 from rfl] at HB_5 ⊢
          rw [show q2.toL.length = 4 from rfl] at HC_5 ⊢
          have HBE := HB_5
          have HCF := HC_5
          have HAS := HA_5
          have HYL9 := HYL_5
          have HBX0 := HBX0_5
          have HBX1 := HBX1_5
          have HCH := GCH5
          clear hq1 hq2
          go_wp2_with fail
          go_loopw [13] (fun i wr => ∃ k : Nat, k ≤ yl.length ∧ i = .int .i64 k ∧ Grow wz5 wr ∧ ∀ y ∈ yl.take k, sl.contains y = false) (fun i _ => yl.length - (intOf i).toNat)
          case atStart => exact ⟨0, Nat.zero_le _, rfl, Grow.refl _, by simp⟩
          case round =>
            obtain ⟨k, hk, rfl, hg, hno⟩ := hrel
            have HG := Lib.hid hg
            have HNO := Lib.hid hno
            have hbb0 := hg.blk HBX0.out
            have hbb1 := hg.blk HBX1.out
            clear ex0 ex1 zx ey0 ey1 zy
            obtain ⟨ex0, ex1⟩ := box2 hbb0
            obtain ⟨ey0, ey1⟩ := box2 hbb1
            have hzb0 := lt_of_block hbb0
            have hzb1 := lt_of_block hbb1
            clear hg hno hbb0 hbb1
            by_cases hlt : k < yl.length
            · obtain ⟨y, hy⟩ : ∃ y, yl[k]? = some y := ⟨_, List.getElem?_eq_getElem hlt⟩
              obtain ⟨b, o, rfl, _, ey⟩ := ints_at (HYL9.out.grow HG.out) hy
              have HY := Lib.hid hy
              clear hy
              cases hc : sl.contains y with
              | true =>
                have HC9 := Lib.hid hc
                clear hc
                go_wp2_with fail
                refine rHas_any sl y _ _ (HAS.out.grow HG.out) _ ?_
                rw [HC9.out]
                go_wp2_with fail
                refine known_any _ _ ?_
                intro w9 hg9
                have HF := Lib.hid (HR.out _ (HCH.out.trans (HG.out.trans hg9)))
                clear hg9
                go_wp2_with fail
                exact HF.out
              | false =>
                have HC9 := Lib.hid hc
                clear hc
                go_wp2_with fail
                refine rHas_any sl y _ _ (HAS.out.grow HG.out) _ ?_
                rw [HC9.out]
                go_wp2_with fail
                go_roundw
                case rel => exact ⟨k + 1, by omega, by go_num, HG.out, any_take_succ HNO.out HY.out HC9.out⟩
                case measure => simp [intOf]; omega
            · have hout : ∀ x ∈ yl, x ∉ sliceM p xl xr := by
                intro x hx hm
                rw [← HSL2.out] at hm
                have := HNO.out x (by rw [List.take_of_length_le (by omega)]; exact hx)
                rw [show sl.contains x = true by simpa using hm] at this
                cases this
              have heq := outside_law (values := yv) HCK.out xr0 xr3 hout
              rw [HQ1.out, HQ2.out] at heq
              obtain ⟨r, rfl⟩ : ∃ r : Nat, xr = r := ⟨xr.toNat, by omega⟩
              obtain ⟨b1, o1, rfl, _, c1⟩ := st_at (HBE.out.grow HG.out) (r := r) (by omega)
              obtain ⟨b2, o2, rfl, _, c2⟩ := st_at (HCF.out.grow HG.out) (r := r) (by omega)
              rw [heq] at c1
              generalize q2.get r = z at c1 c2
              have r4 : (r : Int) < 4 := by omega
              have r5 : (0 : Int) ≤ (r : Int) := by omega
              have r6 : decide ((0 : Int) ≤ (r : Int)) = true := decide_eq_true r5
              have r7 : decide ((r : Int) < 4) = true := decide_eq_true r4
              have r8 : r < 4 := by omega
              have r9 : decide (r < 4) = true := decide_eq_true r8
              clear hout heq xr0 xr3
              go_wp2_with fail
              go_still_tail 26, (by kernel_rfl)
              change wpList _ _ _ _ _ wr.drew
              go_wp2_with fail
              refine known_any _ _ ?_
              intro w9 hg9
              have HF := Lib.hid (HR.out _ (HCH.out.trans (HG.out.drew.trans hg9)))
              clear hg9
              go_wp2_with fail
              exact HF.out
end Go.Proofs.Ytmaphlbmmemgcaa
