/- The walk of the statement CodeIndependent. -/
import Derived.Test.YtmaphlbmmemgcaaLawA
import Derived.Test.YtmaphlbmmemgcaaIndB
namespace Go.Proofs.Ytmaphlbmmemgcaa
open Go.RowKit

set_option maxRecDepth 100000 in
set_option maxHeartbeats 4000000 in
theorem codeIndependent_any (op d a b op' d' a' b' : Int) (w : World) (R : Ending → World → Prop) (hR : ∀ w', Grow w w' → R (.returned (.bool true)) w') :
    Calls Try.prog 8 #[.agg #[.int .i64 op, .int .i64 d, .int .i64 a, .int .i64 b], .agg #[.int .i64 op', .int .i64 d', .int .i64 a', .int .i64 b']] w R := by
  have HR := Lib.hid hR
  clear hR
  have hcb := indB_comm ⟨op', d', a', b'⟩ ⟨op, d, a, b⟩
  have hce := indE_comm ⟨op', d', a', b'⟩ ⟨op, d, a, b⟩
  obtain ⟨x, hx⟩ : ∃ x, indB ⟨op, d, a, b⟩ ⟨op', d', a', b'⟩ = x := ⟨_, rfl⟩
  obtain ⟨y, hy⟩ : ∃ y, indE ⟨op, d, a, b⟩ ⟨op', d', a', b'⟩ = y := ⟨_, rfl⟩
  rw [hx] at hcb
  rw [hy] at hce
  have HX := Lib.hid hx
  have HY := Lib.hid hy
  have HCB := Lib.hid hcb
  have HCE := Lib.hid hce
  clear hx hy hcb hce
  have t1 : (x != x) = false := by cases x <;> rfl
  have t2 : (x == x) = true := by cases x <;> rfl
  have t3 : (y != y) = false := by simp
  have t4 : (y == y) = true := by simp
  go_enter Try.func8, Try.ntmps8
  go_wp2_with fail
  have hbx := Box2.new w ⟨op, d, a, b⟩ ⟨op', d', a', b'⟩
  have HBX := Lib.hid hbx
  clear hbx
  refine Independent_any op d a b op' d' a' b' _ _ ?_
  intro w1 hg1
  rw [HX.out, HY.out]
  have hb1 := HBX.out.grow hg1
  obtain ⟨⟨e0, e1, e2, e3⟩, f0, f1, f2, f3⟩ := hb1.cells
  obtain ⟨hz1, hz2⟩ := hb1.lt
  have HG1 := Lib.hid (((Grow.refl w).alloc _).trans (((Grow.refl _).alloc _).trans hg1))
  have HB1 := Lib.hid hb1
  clear hg1 hb1 HBX
  go_wp2_with fail
  refine rIndependent_any op d a b op' d' a' b' _ _ ?_
  intro w2 hg2
  rw [HX.out, HY.out]
  have hb2 := HB1.out.grow hg2
  clear e0 e1 e2 e3 f0 f1 f2 f3 hz1 hz2
  obtain ⟨⟨e0, e1, e2, e3⟩, f0, f1, f2, f3⟩ := hb2.cells
  obtain ⟨hz1, hz2⟩ := hb2.lt
  have HG2 := Lib.hid (HG1.out.trans hg2)
  have HB2 := Lib.hid hb2
  clear hg2 hb2 HB1
  go_wp2_with fail
  refine Independent_any op' d' a' b' op d a b _ _ ?_
  intro w3 hg3
  rw [HCB.out, HCE.out]
  have HG3 := Lib.hid (HG2.out.trans hg3)
  clear hg3
  go_wp2_with fail
  refine known_any _ _ ?_
  intro w4 hg4
  have HF := Lib.hid (HR.out _ (HG3.out.trans hg4))
  clear hg4
  go_wp2_with fail
  exact HF.out
end Go.Proofs.Ytmaphlbmmemgcaa
