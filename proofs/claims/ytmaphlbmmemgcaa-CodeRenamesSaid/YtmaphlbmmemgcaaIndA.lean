/- The walks of package code: independent lines. -/
import Derived.Test.YtmaphlbmmemgcaaPlI
import Derived.Test.YtmaphlbmmemgcaaCodeI
namespace Go.Proofs.Ytmaphlbmmemgcaa
open Go.RowKit

theorem containsI_any (xs : List Int) (x : Int) (v : Value) (w : World) (hx : IntsAt w v xs) (R : Ending → World → Prop) (hR : R (.returned (.bool (xs.contains x))) w) :
    Calls Try.prog 100 #[v, .int .i64 x] w R := by
  obtain ⟨a, c, rfl, h1, h2, h3⟩ := hx
  rcases h3 with ⟨rfl, _⟩ | ⟨b, o, rfl, hb, hc⟩
  · refine (Try.slices_Contains_int_empty a c x w).mono ?_
    rintro e w' ⟨rfl, rfl⟩
    simpa using hR
  · refine (Try.slices_Contains_int b o xs.length c xs x w (Nat.le_refl _) (by omega) ?_).mono ?_
    · intro j hj
      rw [ints_cell hc j (xs[j]) (List.getElem?_eq_getElem hj)]
      simp [List.getD_eq_getElem?_getD, hj]
    · rintro e w' ⟨rfl, rfl⟩
      simpa using hR

set_option maxHeartbeats 2000000 in
theorem touches_any (op d a b op' d' a' b' : Int) (w : World) (h0 : 0 ≤ op') (h7 : op' ≤ 7) (R : Ending → World → Prop) (hR : ∀ w', Grow w w' → R (.returned (.bool (tch ⟨op, d, a, b⟩ ⟨op', d', a', b'⟩))) w') :
    Calls Try.prog 95 #[.agg #[.int .i64 op, .int .i64 d, .int .i64 a, .int .i64 b], .agg #[.int .i64 op', .int .i64 d', .int .i64 a', .int .i64 b']] w R := by
  have HR := Lib.hid hR
  clear hR
  have ht : tch ⟨op, d, a, b⟩ ⟨op', d', a', b'⟩ = (wrB op && ((wrB op' && d' == d) || (rdL op' a' b').contains d)) := rfl
  rw [ht] at HR
  clear ht
  go_enter Try.func95, Try.ntmps95
  go_wp2_with fail
  refine writes_any op d a b _ _ ?_
  intro w1 hg1
  have hb1 := hg1.blk (heap_two1 w (.cells #[.int .i64 op, .int .i64 d, .int .i64 a, .int .i64 b] 37) (.cells #[.int .i64 op', .int .i64 d', .int .i64 a', .int .i64 b'] 37))
  obtain ⟨e0, e1, e2, e3⟩ := box_cells hb1
  have HG1 := Lib.hid (((Grow.refl w).alloc _).trans (((Grow.refl _).alloc _).trans hg1))
  have hz : w.heap.size + 1 < w1.heap.size := by have := hg1.sz; simp at this; omega
  clear hg1
  cases hw : wrB op with
  | false =>
    rw [show wrT op d = 0 by simp [wrT, hw]]
    rw [hw, Bool.false_and] at HR
    go_wp2_with fail
    exact HR.out _ HG1.out
  | true =>
    rw [show wrT op d = d by simp [wrT, hw]]
    rw [hw, Bool.true_and] at HR
    go_wp2_with fail
    refine writes_any op' d' a' b' _ _ ?_
    intro w2 hg2
    have hb2 := hg2.blk hb1
    clear e0 e1 e2 e3
    obtain ⟨e0, e1, e2, e3⟩ := box_cells hb2
    have HG2 := Lib.hid (HG1.out.trans hg2)
    have hz2 : w.heap.size + 1 < w2.heap.size := by have := hg2.sz; omega
    have HB := Lib.hid hb2
    clear hg2 hb1 hb2
    have tail : ∀ (F : Prop), F → F := fun _ h => h
    cases hw' : wrB op' with
    | false =>
      rw [show wrT op' d' = 0 by simp [wrT, hw']]
      rw [hw', Bool.false_and, Bool.false_or] at HR
      go_wp2_with fail
      refine reads_any op' d' a' b' _ h0 h7 _ ?_
      intro w3 x hg3 hi _
      obtain ⟨ax, cx, rfl, q1, q2, q3⟩ := hi
      have hi' : IntsAt w3 (.slice ax (rdL op' a' b').length cx) (rdL op' a' b') := ⟨ax, cx, rfl, q1, q2, q3⟩
      have HI := Lib.hid hi'
      have HG3 := Lib.hid (HG2.out.trans hg3)
      clear hg3 hi' q3
      go_wp2_with fail
      refine containsI_any _ d _ _ HI.out _ ?_
      have HF := Lib.hid (HR.out _ HG3.out)
      generalize (rdL op' a' b').contains d = bb at HF ⊢
      go_wp2_with fail
      exact HF.out
    | true =>
      rw [show wrT op' d' = d' by simp [wrT, hw']]
      rw [hw', Bool.true_and] at HR
      cases hd : (d' == d) with
      | true =>
        rw [hd, Bool.true_or] at HR
        go_wp2_with fail
        exact HR.out _ HG2.out
      | false =>
        rw [hd, Bool.false_or] at HR
        go_wp2_with fail
        refine reads_any op' d' a' b' _ h0 h7 _ ?_
        intro w3 x hg3 hi _
        obtain ⟨ax, cx, rfl, q1, q2, q3⟩ := hi
        have hi' : IntsAt w3 (.slice ax (rdL op' a' b').length cx) (rdL op' a' b') := ⟨ax, cx, rfl, q1, q2, q3⟩
        have HI := Lib.hid hi'
        have HG3 := Lib.hid (HG2.out.trans hg3)
        clear hg3 hi' q3
        go_wp2_with fail
        refine containsI_any _ d _ _ HI.out _ ?_
        have HF := Lib.hid (HR.out _ HG3.out)
        generalize (rdL op' a' b').contains d = bb at HF ⊢
        go_wp2_with fail
        exact HF.out

/-- Two lines in their boxes. -/
structure Box2 (w : World) (B : Nat) (l m : Ln) : Prop where
  h0 : w.heap[B]? = some (.cells #[.int .i64 l.op, .int .i64 l.d, .int .i64 l.a, .int .i64 l.b] 37 (0, 0))
  h1 : w.heap[B + 1]? = some (.cells #[.int .i64 m.op, .int .i64 m.d, .int .i64 m.a, .int .i64 m.b] 37 (0, 0))
theorem Box2.new (w : World) (l m : Ln) : Box2 ((w.alloc (.cells #[.int .i64 l.op, .int .i64 l.d, .int .i64 l.a, .int .i64 l.b] 37)).alloc (.cells #[.int .i64 m.op, .int .i64 m.d, .int .i64 m.a, .int .i64 m.b] 37)) w.heap.size l m := ⟨heap_two0 _ _ _, heap_two1 _ _ _⟩
theorem Box2.grow {w w' : World} {B : Nat} {l m : Ln} (h : Box2 w B l m) (g : Grow w w') : Box2 w' B l m := ⟨g.blk h.h0, g.blk h.h1⟩
theorem Box2.lt {w : World} {B : Nat} {l m : Ln} (h : Box2 w B l m) : B < w.heap.size ∧ B + 1 < w.heap.size := ⟨lt_of_block h.h0, lt_of_block h.h1⟩
theorem Box2.cells {w : World} {B : Nat} {op d a b op' d' a' b' : Int} (h : Box2 w B ⟨op, d, a, b⟩ ⟨op', d', a', b'⟩) :
    (w.cell? ⟨B, 0, none⟩ = some (.int .i64 op) ∧ w.cell? ⟨B, 1, none⟩ = some (.int .i64 d) ∧ w.cell? ⟨B, 2, none⟩ = some (.int .i64 a) ∧ w.cell? ⟨B, 3, none⟩ = some (.int .i64 b)) ∧
    (w.cell? ⟨B + 1, 0, none⟩ = some (.int .i64 op') ∧ w.cell? ⟨B + 1, 1, none⟩ = some (.int .i64 d') ∧ w.cell? ⟨B + 1, 2, none⟩ = some (.int .i64 a') ∧ w.cell? ⟨B + 1, 3, none⟩ = some (.int .i64 b')) :=
  ⟨box_cells h.h0, box_cells h.h1⟩
end Go.Proofs.Ytmaphlbmmemgcaa
