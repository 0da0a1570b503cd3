/- The walk of the statement CodeLines. -/
import Derived.Test.YtmaphlbmmemgcaaLawA
import Derived.Deep.RegionHeld3
import Derived.Deep.RegionWith
namespace Go.Proofs.Ytmaphlbmmemgcaa
open Go.RowKit

set_option maxRecDepth 100000 in
set_option maxHeartbeats 8000000 in
theorem codeLines_any (op d a b : Int) (w : World) (R : Ending → World → Prop) (hR : ∀ w', Grow w w' → R (.returned (.bool true)) w') :
    Calls Try.prog 5 #[.agg #[.int .i64 op, .int .i64 d, .int .i64 a, .int .i64 b]] w R := by
  have HR := Lib.hid hR
  clear hR
  obtain ⟨es, hes⟩ : ∃ e, errB (vL op d a b) = e := ⟨_, rfl⟩
  obtain ⟨rs, hrs⟩ : ∃ e, ifOK (errB (vL op d a b)) (rdL op a b) = e := ⟨_, rfl⟩
  obtain ⟨ws, hws⟩ : ∃ e, wrO op d a b = e := ⟨_, rfl⟩
  obtain ⟨bs, hbs⟩ : ∃ e, wrI op d a b = e := ⟨_, rfl⟩
  go_enter Try.func5, Try.ntmps5
  go_wp2_with fail
  refine Reads_any op d a b _ _ ?_
  intro w1 x1 hg1 hx1
  rw [hes]
  rw [hrs] at hx1
  have e0 := hg1.cell (a := ⟨w.heap.size, 0, none⟩) (v := .int .i64 op) (by simp)
  have e1 := hg1.cell (a := ⟨w.heap.size, 1, none⟩) (v := .int .i64 d) (by simp)
  have e2 := hg1.cell (a := ⟨w.heap.size, 2, none⟩) (v := .int .i64 a) (by simp)
  have e3 := hg1.cell (a := ⟨w.heap.size, 3, none⟩) (v := .int .i64 b) (by simp)
  have hz : w.heap.size < w1.heap.size := by have := hg1.sz; simp at this; omega
  have hx1' := hx1
  obtain ⟨a1, c1, rfl, _, _, hx1d⟩ := hx1
  have HX1 := Lib.hid hx1'
  have HG1 := Lib.hid (((Grow.refl w).alloc _).trans hg1)
  clear hg1 hx1' hx1d
  go_wp2_with fail
  refine rReads_any op d a b _ _ ?_
  intro w2 x2 hg2 hx2
  rw [hes]
  rw [hrs] at hx2
  have f0 := hg2.cell e0
  have f1 := hg2.cell e1
  have f2 := hg2.cell e2
  have f3 := hg2.cell e3
  have hz2 := hg2.sz
  have hx2' := hx2
  obtain ⟨a2, c2, rfl, _, _, hx2d⟩ := hx2
  have HX2 := Lib.hid hx2'
  have HX1b := Lib.hid (HX1.out.grow hg2)
  have HG2 := Lib.hid (HG1.out.trans hg2)
  clear hg2 hx2' hx2d HX1 HG1 e0 e1 e2 e3
  go_wp2_with fail
  refine Writes_any op d a b _ _ ?_
  intro w3 hg3
  rw [hes, hws, hbs]
  have e0 := hg3.cell f0
  have e1 := hg3.cell f1
  have e2 := hg3.cell f2
  have e3 := hg3.cell f3
  have hz3 := hg3.sz
  have HX1c := Lib.hid (HX1b.out.grow hg3)
  have HX2c := Lib.hid (HX2.out.grow hg3)
  have HG3 := Lib.hid (HG2.out.trans hg3)
  clear hg3 f0 f1 f2 f3 HX1b HX2 HG2
  go_wp2_with fail
  refine rWrites_any op d a b _ _ ?_
  intro w4 hg4
  rw [hes, hws, hbs]
  have f0 := hg4.cell e0
  have f1 := hg4.cell e1
  have f2 := hg4.cell e2
  have f3 := hg4.cell e3
  have hz4 := hg4.sz
  have HX1 := Lib.hid (HX1c.out.grow hg4)
  have HX2 := Lib.hid (HX2c.out.grow hg4)
  have HG4 := Lib.hid (HG3.out.trans hg4)
  clear hg4 e0 e1 e2 e3 HX1c HX2c HG3
  have hzz : w.heap.size < w4.heap.size := by omega
  go_wp2_with fail
  go_region_held3 (fun W => W.cell? ⟨w.heap.size, 0, none⟩ = some (.int .i64 op) ∧ W.cell? ⟨w.heap.size, 1, none⟩ = some (.int .i64 d) ∧ W.cell? ⟨w.heap.size, 2, none⟩ = some (.int .i64 a) ∧ W.cell? ⟨w.heap.size, 3, none⟩ = some (.int .i64 b) ∧ Grow w4 W)
    (first | exact ⟨f0, f1, f2, f3, (Grow.refl w4).drew⟩ | exact ⟨hg8.cell (And.left ‹_›), hg8.cell (And.left (And.right ‹_›)), hg8.cell (And.left (And.right (And.right ‹_›))), hg8.cell (And.left (And.right (And.right (And.right ‹_›)))), Grow.trans (And.right (And.right (And.right (And.right ‹_›)))) hg8⟩)
    (first | (go_at_call 33; refine validateLine_any op d a b _ _ ?_; intro w8 hg8; rw [hes]) | (go_at_call 34; refine rValidateLine_any op d a b _ _ ?_; intro w8 hg8; rw [hes]) | (go_at_call 20; refine sameInts_any rs rs _ _ _ ?_ ?_ _ ?_; exact HX1.out.grow (And.right (And.right (And.right (And.right ‹_›)))); exact HX2.out.grow (And.right (And.right (And.right (And.right ‹_›)))); intro w8 hg8; rw [show decide (rs = rs) = true from decide_eq_true rfl]) | (go_at_call 17; refine known_any _ _ ?_; intro w8 hg8))
  have hgf : Grow w4 w8 := And.right (And.right (And.right (And.right ‹_›)))
  go_wp2_with fail
  exact HR.out _ (HG4.out.trans hgf)
end Go.Proofs.Ytmaphlbmmemgcaa
