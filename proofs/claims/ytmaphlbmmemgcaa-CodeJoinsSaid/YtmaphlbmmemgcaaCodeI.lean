/- The walks of package code: what a line reads and writes, for any line. -/
import Derived.Test.YtmaphlbmmemgcaaCodeH
namespace Go.Proofs.Ytmaphlbmmemgcaa
open Go.RowKit

theorem vL_ok {op d a b : Int} (h : vL op d a b = true) : Ln.ok ⟨op, d, a, b⟩ = true := h

set_option maxHeartbeats 1000000 in
theorem Reads_any (op d a b : Int) (w : World) (R : Ending → World → Prop)
    (hR : ∀ w' x, Grow w w' → IntsAt w' x (ifOK (errB (vL op d a b)) (rdL op a b)) → R (.returned (.tuple #[x, .int .i64 (errB (vL op d a b))])) w') :
    Calls Try.prog 29 #[.agg #[.int .i64 op, .int .i64 d, .int .i64 a, .int .i64 b]] w R := by
  have HR := Lib.hid hR
  clear hR
  cases hv : vL op d a b with
  | true =>
    have HRR := HR.out
    rw [hv, errB_true, ifOK_ok] at HRR
    have HR2 := Lib.hid HRR
    have HV := Lib.hid hv
    obtain ⟨o0, o7, _, _⟩ := ok_rd (vL_ok hv)
    clear HRR HR hv
    go_enter Try.func29, Try.ntmps29
    go_wp2_with fail
    refine validateLine_any op d a b _ _ ?_
    intro w1 hg1
    rw [HV.out, errB_true]
    have e0 := hg1.cell (a := ⟨w.heap.size, 0, none⟩) (v := .int .i64 op) (by simp)
    have e1 := hg1.cell (a := ⟨w.heap.size, 1, none⟩) (v := .int .i64 d) (by simp)
    have e2 := hg1.cell (a := ⟨w.heap.size, 2, none⟩) (v := .int .i64 a) (by simp)
    have e3 := hg1.cell (a := ⟨w.heap.size, 3, none⟩) (v := .int .i64 b) (by simp)
    have hz : w.heap.size < w1.heap.size := by have := hg1.sz; simp at this; omega
    have HG := Lib.hid hg1
    clear hg1
    go_wp2_with fail
    refine reads_any op d a b _ o0 o7 _ ?_
    intro w2 x hg2 hi _
    have HF := Lib.hid (HR2.out w2 x (((Grow.refl w).alloc _).trans (HG.out.trans hg2)) hi)
    clear hg2 hi
    go_wp2_with fail
    exact HF.out
  | false =>
    have HRR := HR.out
    rw [hv, errB_false, ifOK_err (by decide)] at HRR
    have HR2 := Lib.hid HRR
    have HV := Lib.hid hv
    clear HRR HR hv
    go_enter Try.func29, Try.ntmps29
    go_wp2_with fail
    refine validateLine_any op d a b _ _ ?_
    intro w1 hg1
    rw [HV.out, errB_false]
    go_wp2_with fail
    exact HR2.out _ _ (((Grow.refl w).alloc _).trans hg1) (SlcAt.nil _ _ _)

/-- What a line writes, and whether it does, if it is valid. -/
def wrO (op d a b : Int) : Int := if vL op d a b then wrT op d else 0
def wrI (op d a b : Int) : Bool := vL op d a b && wrB op

set_option maxHeartbeats 1000000 in
theorem Writes_any (op d a b : Int) (w : World) (R : Ending → World → Prop)
    (hR : ∀ w', Grow w w' → R (.returned (.tuple #[.int .i64 (wrO op d a b), .bool (wrI op d a b), .int .i64 (errB (vL op d a b))])) w') :
    Calls Try.prog 31 #[.agg #[.int .i64 op, .int .i64 d, .int .i64 a, .int .i64 b]] w R := by
  have HR := Lib.hid hR
  clear hR
  cases hv : vL op d a b with
  | true =>
    have HRR := HR.out
    rw [wrO, wrI, hv, errB_true, if_pos rfl, Bool.true_and] at HRR
    have HR2 := Lib.hid HRR
    have HV := Lib.hid hv
    clear HRR HR hv
    go_enter Try.func31, Try.ntmps31
    go_wp2_with fail
    refine validateLine_any op d a b _ _ ?_
    intro w1 hg1
    rw [HV.out, errB_true]
    have e0 := hg1.cell (a := ⟨w.heap.size, 0, none⟩) (v := .int .i64 op) (by simp)
    have e1 := hg1.cell (a := ⟨w.heap.size, 1, none⟩) (v := .int .i64 d) (by simp)
    have e2 := hg1.cell (a := ⟨w.heap.size, 2, none⟩) (v := .int .i64 a) (by simp)
    have e3 := hg1.cell (a := ⟨w.heap.size, 3, none⟩) (v := .int .i64 b) (by simp)
    have hz : w.heap.size < w1.heap.size := by have := hg1.sz; simp at this; omega
    have HG := Lib.hid hg1
    clear hg1
    go_wp2_with fail
    refine writes_any op d a b _ _ ?_
    intro w2 hg2
    have HF := Lib.hid (HR2.out w2 (((Grow.refl w).alloc _).trans (HG.out.trans hg2)))
    clear hg2
    generalize wrT op d = t1 at HF ⊢
    generalize wrB op = t2 at HF ⊢
    go_wp2_with fail
    go_ret3
    exact HF.out
  | false =>
    have HRR := HR.out
    rw [wrO, wrI, hv, errB_false, if_neg (by simp), Bool.false_and] at HRR
    have HR2 := Lib.hid HRR
    have HV := Lib.hid hv
    clear HRR HR hv
    go_enter Try.func31, Try.ntmps31
    go_wp2_with fail
    refine validateLine_any op d a b _ _ ?_
    intro w1 hg1
    rw [HV.out, errB_false]
    go_wp2_with fail
    go_ret3
    exact HR2.out _ (((Grow.refl w).alloc _).trans hg1)
end Go.Proofs.Ytmaphlbmmemgcaa
