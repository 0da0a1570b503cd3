/- The walks of the statements' own helpers: the document's example, and that its results are known. -/
import Derived.Test.YtmaphlbmmemgcaaRefB
namespace Go.Proofs.Ytmaphlbmmemgcaa
open Go.RowKit
open Go.Sort (Holds)

theorem ints_lit (w : World) (xs : List Int) (t : TypeId) (h : xs.length < 1000000) : IntsAt (w.alloc (.cells (xs.map (Value.int .i64)).toArray t)) (.slice (some ⟨w.heap.size, 0, none⟩) xs.length xs.length) xs := by
  have hh := holds_new w xs xs.length t
  rw [List.take_length] at hh
  exact ints_of_holds hh (by simp) (Nat.le_refl _) (by omega)

def exP : List Ln := [⟨1, 0, 3, 0⟩, ⟨3, 0, 0, 0⟩]

theorem example_any (w : World) (R : Ending → World → Prop) (hR : ∀ w' x, Grow w w' → LinesAt w' x exP → R (.returned x) w') :
    Calls Try.prog 57 #[] w R := by
  have HR := Lib.hid hR
  clear hR
  go_enter Try.func57, Try.ntmps57
  go_wp2_with fail
  refine HR.out _ _ ((Grow.refl w).alloc _) ⟨_, 2, rfl, by simp [exP], by decide, .inr ⟨w.heap.size, 0, rfl, by simp, ?_⟩⟩
  intro j x hj i u hu
  have hi : i < 4 := by
    have := (List.getElem?_eq_some_iff.1 hu).1
    simpa [encL] using this
  match j, hj with
  | 0, hj =>
    simp [exP] at hj; subst hj
    match i, hi with
    | 0, _ => simp [encL] at hu; subst hu; simp
    | 1, _ => simp [encL] at hu; subst hu; simp
    | 2, _ => simp [encL] at hu; subst hu; simp
    | 3, _ => simp [encL] at hu; subst hu; simp
  | 1, hj =>
    simp [exP] at hj; subst hj
    match i, hi with
    | 0, _ => simp [encL] at hu; subst hu; simp
    | 1, _ => simp [encL] at hu; subst hu; simp
    | 2, _ => simp [encL] at hu; subst hu; simp
    | 3, _ => simp [encL] at hu; subst hu; simp
  | n + 2, hj => simp [exP] at hj

theorem ex_run : ifOK (chk exP [7, 7, 7, 7]) (runM exP [7, 7, 7, 7]) = [6, 7, 7, 7] ∧ chk exP [7, 7, 7, 7] = 0 := by decide
theorem ex_slice : ifOK (sliceE exP [0, 0, 0, 0] 0) (sliceM exP [0, 0, 0, 0] 0) = [0, 1] ∧ sliceE exP [0, 0, 0, 0] 0 = 0 := by decide

set_option maxHeartbeats 2000000 in
theorem known_any (w : World) (R : Ending → World → Prop) (hR : ∀ w', Grow w w' → R (.returned (.bool true)) w') :
    Calls Try.prog 17 #[] w R := by
  have HR := Lib.hid hR
  clear hR
  go_enter Try.func17, Try.ntmps17
  go_wp2_with fail
  refine example_any _ _ ?_
  intro w1 x1 hg1 hx1
  obtain ⟨a1, c1, rfl, p1, p2, p3⟩ := hx1
  have hx1' : LinesAt w1 (.slice a1 exP.length c1) exP := ⟨a1, c1, rfl, p1, p2, p3⟩
  have HX1 := Lib.hid hx1'
  have HG1 := Lib.hid hg1
  clear hg1 p3 hx1'
  go_wp2_with fail
  have hs2 := ints_lit w1 [7, 7, 7, 7] 3 (by decide)
  refine Run_any exP [7, 7, 7, 7] _ _ _ (HX1.out.grow ((Grow.refl w1).alloc _)) hs2 _ ?_
  intro w2 x2 hg2 hx2
  rw [ex_run.1] at hx2
  rw [ex_run.2]
  have hi2 := hx2.slc encI_len
  obtain ⟨a2, c2, rfl, q1, q2, q3⟩ := hi2
  have hi2' : IntsAt w2 (.slice a2 4 c2) [6, 7, 7, 7] := ⟨a2, c2, rfl, q1, q2, q3⟩
  have HI2 := Lib.hid hi2'
  have HG2 := Lib.hid (HG1.out.trans (((Grow.refl w1).alloc _).trans hg2))
  clear hg2 hs2 hx2 q3 HG1 hi2'
  go_wp2_with fail
  refine example_any _ _ ?_
  intro w3 x3 hg3 hx3
  obtain ⟨a3, c3, rfl, r1, r2, r3⟩ := hx3
  have hx3' : LinesAt w3 (.slice a3 exP.length c3) exP := ⟨a3, c3, rfl, r1, r2, r3⟩
  have HX3 := Lib.hid hx3'
  have HI3 := Lib.hid (HI2.out.grow hg3)
  have HG3 := Lib.hid (HG2.out.trans hg3)
  clear hg3 r3 HG2 HI2 hx3'
  go_wp2_with fail
  have hs4 := ints_lit w3 [0, 0, 0, 0] 3 (by decide)
  refine Slice_any exP [0, 0, 0, 0] 0 _ _ _ (HX3.out.grow ((Grow.refl w3).alloc _)) hs4 _ ?_
  intro w4 x4 hg4 hx4
  rw [ex_slice.1] at hx4
  rw [ex_slice.2]
  obtain ⟨a4, c4, rfl, s1, s2, s3⟩ := hx4
  have hi4' : IntsAt w4 (.slice a4 2 c4) [0, 1] := ⟨a4, c4, rfl, s1, s2, s3⟩
  have HI4 := Lib.hid hi4'
  have hg34 := ((Grow.refl w3).alloc _).trans hg4
  have HI3' := Lib.hid (HI3.out.grow hg34)
  have HG4 := Lib.hid (HG3.out.trans hg34)
  clear hg4 hs4 s3 HG3 HI3 hg34 hi4'
  go_wp2_with fail
  have hs5 := ints_lit w4 [6, 7, 7, 7] 3 (by decide)
  refine sameInts_any [6, 7, 7, 7] [6, 7, 7, 7] _ _ _ (HI3'.out.grow ((Grow.refl w4).alloc _)) hs5 _ ?_
  intro w5 hg5
  have hg45 := ((Grow.refl w4).alloc _).trans hg5
  have HI5 := Lib.hid (HI4.out.grow hg45)
  have HG5 := Lib.hid (HG4.out.trans hg45)
  clear hg5 hg45 hs5 HG4 HI4 HI3'
  rw [show decide (([6, 7, 7, 7] : List Int) = [6, 7, 7, 7]) = true by decide]
  go_wp2_with fail
  have hs6 := ints_lit w5 [0, 1] 3 (by decide)
  refine sameInts_any [0, 1] [0, 1] _ _ _ (HI5.out.grow ((Grow.refl w5).alloc _)) hs6 _ ?_
  intro w6 hg6
  have HF := Lib.hid (HR.out w6 (HG5.out.trans (((Grow.refl w5).alloc _).trans hg6)))
  clear hg6 hs6 HG5 HI5
  rw [show decide (([0, 1] : List Int) = [0, 1]) = true by decide]
  go_wp2_with fail
  exact HF.out
end Go.Proofs.Ytmaphlbmmemgcaa
