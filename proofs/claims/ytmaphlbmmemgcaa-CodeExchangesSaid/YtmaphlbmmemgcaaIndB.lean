/- The walks of package code, and of the document's answer: whether two lines are independent. -/
import Derived.Test.YtmaphlbmmemgcaaIndA
import Derived.Test.YtmaphlbmmemgcaaRefB
namespace Go.Proofs.Ytmaphlbmmemgcaa
open Go.RowKit

set_option maxHeartbeats 2000000 in
theorem independent_any (op d a b op' d' a' b' : Int) (w : World) (h0 : 0 ≤ op ∧ op ≤ 7) (h1 : 0 ≤ op' ∧ op' ≤ 7) (R : Ending → World → Prop) (hR : ∀ w', Grow w w' → R (.returned (.bool (ind ⟨op, d, a, b⟩ ⟨op', d', a', b'⟩))) w') :
    Calls Try.prog 79 #[.agg #[.int .i64 op, .int .i64 d, .int .i64 a, .int .i64 b], .agg #[.int .i64 op', .int .i64 d', .int .i64 a', .int .i64 b']] w R := by
  have HR := Lib.hid hR
  clear hR

  have hi : ind ⟨op, d, a, b⟩ ⟨op', d', a', b'⟩ = (!(op == 7) && !(op' == 7) && !tch ⟨op, d, a, b⟩ ⟨op', d', a', b'⟩ && !tch ⟨op', d', a', b'⟩ ⟨op, d, a, b⟩) := rfl
  rw [hi] at HR
  clear hi
  cases h7 : (op == 7) with
  | true =>
    have e7 : op = 7 := by simpa using h7
    subst e7
    go_enter Try.func79, Try.ntmps79
    go_wp2_with fail
    have := HR.out _ (((Grow.refl w).alloc (.cells #[.int .i64 7, .int .i64 d, .int .i64 a, .int .i64 b] 37)).alloc (.cells #[.int .i64 op', .int .i64 d', .int .i64 a', .int .i64 b'] 37))
    simpa using this
  | false =>
    have h7n : (op != 7) = true := by simpa [bne] using h7
    rw [h7] at HR
    cases h7' : (op' == 7) with
    | true =>
      have e7 : op' = 7 := by simpa using h7'
      subst e7
      go_enter Try.func79, Try.ntmps79
      go_wp2_with fail
      have := HR.out _ (((Grow.refl w).alloc (.cells #[.int .i64 op, .int .i64 d, .int .i64 a, .int .i64 b] 37)).alloc (.cells #[.int .i64 7, .int .i64 d', .int .i64 a', .int .i64 b'] 37))
      simpa using this
    | false =>
      have h7n' : (op' != 7) = true := by simpa [bne] using h7'
      rw [h7'] at HR
      go_enter Try.func79, Try.ntmps79
      go_wp2_with fail
      have hbx := Box2.new w ⟨op, d, a, b⟩ ⟨op', d', a', b'⟩
      have HBX := Lib.hid hbx
      clear hbx
      refine touches_any op d a b op' d' a' b' _ h1.1 h1.2 _ ?_
      intro w1 hg1
      have hb1 := HBX.out.grow hg1
      obtain ⟨⟨e0, e1, e2, e3⟩, f0, f1, f2, f3⟩ := hb1.cells
      obtain ⟨hz1, hz2⟩ := hb1.lt
      have HG1 := Lib.hid (((Grow.refl w).alloc _).trans (((Grow.refl _).alloc _).trans hg1))
      clear hg1 hb1 HBX
      cases ht : tch ⟨op, d, a, b⟩ ⟨op', d', a', b'⟩ with
      | true =>
        rw [ht] at HR
        go_wp2_with fail
        exact HR.out _ HG1.out
      | false =>
        rw [ht] at HR
        go_wp2_with fail
        refine touches_any op' d' a' b' op d a b _ h0.1 h0.2 _ ?_
        intro w2 hg2
        have HF := Lib.hid (HR.out _ (HG1.out.trans hg2))
        clear hg2
        generalize tch ⟨op', d', a', b'⟩ ⟨op, d, a, b⟩ = bb at HF ⊢
        go_wp2_with fail
        simpa using HF.out

set_option maxHeartbeats 2000000 in
theorem Independent_any (op d a b op' d' a' b' : Int) (w : World)  (R : Ending → World → Prop) (hR : ∀ w', Grow w w' → R (.returned (.tuple #[.bool (indB ⟨op, d, a, b⟩ ⟨op', d', a', b'⟩), .int .i64 (indE ⟨op, d, a, b⟩ ⟨op', d', a', b'⟩)])) w') :
    Calls Try.prog 41 #[.agg #[.int .i64 op, .int .i64 d, .int .i64 a, .int .i64 b], .agg #[.int .i64 op', .int .i64 d', .int .i64 a', .int .i64 b']] w R := by
  have HR := Lib.hid hR
  clear hR

  have hi : indB ⟨op, d, a, b⟩ ⟨op', d', a', b'⟩ = (vL op d a b && vL op' d' a' b' && ind ⟨op, d, a, b⟩ ⟨op', d', a', b'⟩) := rfl
  have hie : indE ⟨op, d, a, b⟩ ⟨op', d', a', b'⟩ = if vL op d a b then errB (vL op' d' a' b') else 1 := rfl
  rw [hi, hie] at HR
  clear hi hie
  go_enter Try.func41, Try.ntmps41
  go_wp2_with fail
  have hbx := Box2.new w ⟨op, d, a, b⟩ ⟨op', d', a', b'⟩
  have HBX := Lib.hid hbx
  clear hbx
  refine validateLine_any op d a b _ _ ?_
  intro w1 hg1
  have hb1 := HBX.out.grow hg1
  obtain ⟨⟨e0, e1, e2, e3⟩, f0, f1, f2, f3⟩ := hb1.cells
  obtain ⟨hz1, hz2⟩ := hb1.lt
  have HG1 := Lib.hid (((Grow.refl w).alloc _).trans (((Grow.refl _).alloc _).trans hg1))
  have HB1 := Lib.hid hb1
  clear hg1 hb1 HBX
  cases hv : vL op d a b with
  | false =>
    rw [hv] at HR
    rw [errB_false]
    go_wp2_with fail
    exact HR.out _ HG1.out
  | true =>
    rw [hv] at HR
    rw [errB_true]
    go_wp2_with fail
    refine validateLine_any op' d' a' b' _ _ ?_
    intro w2 hg2
    have hb2 := HB1.out.grow hg2
    clear e0 e1 e2 e3 f0 f1 f2 f3 hz1 hz2
    obtain ⟨⟨e0, e1, e2, e3⟩, f0, f1, f2, f3⟩ := hb2.cells
    obtain ⟨hz1, hz2⟩ := hb2.lt
    have HG2 := Lib.hid (HG1.out.trans hg2)
    clear hg2 hb2
    cases hv' : vL op' d' a' b' with
    | false =>
      rw [hv'] at HR
      rw [errB_false]
      go_wp2_with fail
      exact HR.out _ HG2.out
    | true =>
      rw [hv'] at HR
      rw [errB_true]
      obtain ⟨p0, p7, _⟩ := ok_rd (vL_ok hv)
      obtain ⟨q0, q7, _⟩ := ok_rd (vL_ok hv')
      go_wp2_with fail
      refine independent_any op d a b op' d' a' b' _ ⟨p0, p7⟩ ⟨q0, q7⟩ _ ?_
      intro w3 hg3
      have HF := Lib.hid (HR.out _ (HG2.out.trans hg3))
      clear hg3
      generalize ind ⟨op, d, a, b⟩ ⟨op', d', a', b'⟩ = bb at HF ⊢
      go_wp2_with fail
      exact HF.out

set_option maxHeartbeats 2000000 in
theorem rtouches_any (op d a b r : Int) (w : World) (hv : vL op d a b = true) (r0 : 0 ≤ r) (r3 : r ≤ 3) (R : Ending → World → Prop) (hR : ∀ w', Grow w w' → R (.returned (.bool (rtch ⟨op, d, a, b⟩ r))) w') :
    Calls Try.prog 96 #[.agg #[.int .i64 op, .int .i64 d, .int .i64 a, .int .i64 b], .int .i64 r] w R := by
  have HR := Lib.hid hR
  clear hR
  have hi : rtch ⟨op, d, a, b⟩ r = ((rdM op a b).get r || (wrB op && d == r)) := rfl
  rw [hi] at HR
  clear hi
  obtain ⟨o2, o3⟩ := ok_args hv
  have hw := wrB_of_ok hv
  have r4 : r < 4 := by omega
  go_enter Try.func96, Try.ntmps96
  go_wp2_with fail
  refine rreads_any op d a b _ o2 o3 _ ?_
  intro w1 hg1 hm
  have hb1 := hg1.blk (heap_alloc_new w (.cells #[.int .i64 op, .int .i64 d, .int .i64 a, .int .i64 b] 37))
  obtain ⟨e0, e1, e2, e3⟩ := box_cells hb1
  have hz1 := lt_of_block hb1
  have hz2 := lt_of_block hm
  have hmc := arrM_cell hm r r0 r3
  simp only [World.size_alloc] at hmc hz2
  have HG1 := Lib.hid (((Grow.refl w).alloc _).trans hg1)
  have HB1 := Lib.hid hb1
  clear hg1 hm hb1 o2 o3
  cases hr : (rdM op a b).get r with
  | true =>
    rw [hr] at HR hmc
    go_wp2_with fail
    exact HR.out _ HG1.out
  | false =>
    rw [hr] at HR hmc
    go_wp2_with fail
    refine rwrites_any op d a b _ _ ?_
    intro w2 hg2
    rw [hw]
    have hb2 := hg2.blk HB1.out
    clear e0 e1 e2 e3 hz1 hz2 hmc hw
    obtain ⟨e0, e1, e2, e3⟩ := box_cells hb2
    have hz1 := lt_of_block hb2
    have HG2 := Lib.hid (HG1.out.trans hg2)
    clear hg2 hb2
    cases hwb : wrB op with
    | true =>
      rw [hwb] at HR
      cases hd : (d == r) with
      | true =>
        rw [hd] at HR
        go_wp2_with fail
        exact HR.out _ HG2.out
      | false =>
        rw [hd] at HR
        go_wp2_with fail
        exact HR.out _ HG2.out
    | false =>
      rw [hwb] at HR
      go_wp2_with fail
      exact HR.out _ HG2.out

set_option maxHeartbeats 2000000 in
theorem rindependent_any (op d a b op' d' a' b' : Int) (w : World) (hv : vL op d a b = true) (hv' : vL op' d' a' b' = true) (R : Ending → World → Prop) (hR : ∀ w', Grow w w' → R (.returned (.bool (ind ⟨op, d, a, b⟩ ⟨op', d', a', b'⟩))) w') :
    Calls Try.prog 80 #[.agg #[.int .i64 op, .int .i64 d, .int .i64 a, .int .i64 b], .agg #[.int .i64 op', .int .i64 d', .int .i64 a', .int .i64 b']] w R := by
  have HR := Lib.hid hR
  clear hR

  have hi : ind ⟨op, d, a, b⟩ ⟨op', d', a', b'⟩ = (!(op == 7) && !(op' == 7) && !(wrB op && rtch ⟨op', d', a', b'⟩ d) && !(wrB op' && rtch ⟨op, d, a, b⟩ d')) := by
    have t1 := tch_eq (l := ⟨op, d, a, b⟩) (m := ⟨op', d', a', b'⟩) hv hv'
    have t2 := tch_eq (l := ⟨op', d', a', b'⟩) (m := ⟨op, d, a, b⟩) hv' hv
    dsimp only at t1 t2
    rw [t1, t2]; rfl
  rw [hi] at HR
  clear hi
  have hw := wrB_of_ok hv
  have hw' := wrB_of_ok hv'
  cases h7 : (op == 7) with
  | true =>
    have e7 : op = 7 := by simpa using h7
    subst e7
    go_enter Try.func80, Try.ntmps80
    go_wp2_with fail
    have := HR.out _ (((Grow.refl w).alloc (.cells #[.int .i64 7, .int .i64 d, .int .i64 a, .int .i64 b] 37)).alloc (.cells #[.int .i64 op', .int .i64 d', .int .i64 a', .int .i64 b'] 37))
    simpa using this
  | false =>
    have h7n : (op != 7) = true := by simpa [bne] using h7
    rw [h7] at HR
    cases h7' : (op' == 7) with
    | true =>
      have e7 : op' = 7 := by simpa using h7'
      subst e7
      go_enter Try.func80, Try.ntmps80
      go_wp2_with fail
      have := HR.out _ (((Grow.refl w).alloc (.cells #[.int .i64 op, .int .i64 d, .int .i64 a, .int .i64 b] 37)).alloc (.cells #[.int .i64 7, .int .i64 d', .int .i64 a', .int .i64 b'] 37))
      simpa using this
    | false =>
      have h7n' : (op' != 7) = true := by simpa [bne] using h7'
      rw [h7'] at HR
      have HW := Lib.hid hw
      have HW' := Lib.hid hw'
      clear hw hw'
      go_enter Try.func80, Try.ntmps80
      go_wp2_with fail
      have hbx := Box2.new w ⟨op, d, a, b⟩ ⟨op', d', a', b'⟩
      have HBX := Lib.hid hbx
      clear hbx
      refine rwrites_any op d a b _ _ ?_
      intro w1 hg1
      rw [HW.out]
      have hb1 := HBX.out.grow hg1
      obtain ⟨⟨e0, e1, e2, e3⟩, f0, f1, f2, f3⟩ := hb1.cells
      obtain ⟨hz1, hz2⟩ := hb1.lt
      have HG1 := Lib.hid (((Grow.refl w).alloc _).trans (((Grow.refl _).alloc _).trans hg1))
      have HB1 := Lib.hid hb1
      clear hg1 hb1 HBX

      cases hwb : wrB op with
      | true =>
        rw [hwb] at HR
        obtain ⟨d0, d3⟩ := wr_reg (l := ⟨op, d, a, b⟩) hv hwb
        dsimp only at d0 d3
        go_wp2_with fail
        refine rtouches_any op' d' a' b' d _ hv' d0 d3 _ ?_
        intro w2 hg2
        have hb2 := HB1.out.grow hg2
        clear e0 e1 e2 e3 f0 f1 f2 f3 hz1 hz2
        obtain ⟨⟨e0, e1, e2, e3⟩, f0, f1, f2, f3⟩ := hb2.cells
        obtain ⟨hz1, hz2⟩ := hb2.lt
        have HG2 := Lib.hid (HG1.out.trans hg2)
        have HB2 := Lib.hid hb2
        clear hg2 hb2 HB1
        cases ht : rtch ⟨op', d', a', b'⟩ d with
        | true =>
          rw [ht] at HR
          go_wp2_with fail
          exact HR.out _ HG2.out
        | false =>
          rw [ht] at HR
          go_wp2_with fail
          refine rwrites_any op' d' a' b' _ _ ?_
          intro w3 hg3
          rw [HW'.out]
          have hb3 := HB2.out.grow hg3
          clear e0 e1 e2 e3 f0 f1 f2 f3 hz1 hz2
          obtain ⟨⟨e0, e1, e2, e3⟩, f0, f1, f2, f3⟩ := hb3.cells
          obtain ⟨hz1, hz2⟩ := hb3.lt
          have HG3 := Lib.hid (HG2.out.trans hg3)
          clear hg3 hb3
          cases hwb' : wrB op' with
          | true =>
            rw [hwb'] at HR
            obtain ⟨d0', d3'⟩ := wr_reg (l := ⟨op', d', a', b'⟩) hv' hwb'
            dsimp only at d0' d3'
            go_wp2_with fail
            refine rtouches_any op d a b d' _ hv d0' d3' _ ?_
            intro w4 hg4
            have HF := Lib.hid (HR.out _ (HG3.out.trans hg4))
            clear hg4
            generalize rtch ⟨op, d, a, b⟩ d' = bb at HF ⊢
            go_wp2_with fail
            simpa using HF.out
          | false =>
            rw [hwb'] at HR
            go_wp2_with fail
            exact HR.out _ HG3.out
      | false =>
        rw [hwb] at HR
        go_wp2_with fail
        refine rwrites_any op' d' a' b' _ _ ?_
        intro w3 hg3
        rw [HW'.out]
        have hb3 := HB1.out.grow hg3
        clear e0 e1 e2 e3 f0 f1 f2 f3 hz1 hz2
        obtain ⟨⟨e0, e1, e2, e3⟩, f0, f1, f2, f3⟩ := hb3.cells
        obtain ⟨hz1, hz2⟩ := hb3.lt
        have HG3 := Lib.hid (HG1.out.trans hg3)
        clear hg3 hb3
        cases hwb' : wrB op' with
        | true =>
          rw [hwb'] at HR
          obtain ⟨d0', d3'⟩ := wr_reg (l := ⟨op', d', a', b'⟩) hv' hwb'
          dsimp only at d0' d3'
          go_wp2_with fail
          refine rtouches_any op d a b d' _ hv d0' d3' _ ?_
          intro w4 hg4
          have HF := Lib.hid (HR.out _ (HG3.out.trans hg4))
          clear hg4
          generalize rtch ⟨op, d, a, b⟩ d' = bb at HF ⊢
          go_wp2_with fail
          simpa using HF.out
        | false =>
          rw [hwb'] at HR
          go_wp2_with fail
          exact HR.out _ HG3.out

set_option maxHeartbeats 2000000 in
theorem rIndependent_any (op d a b op' d' a' b' : Int) (w : World)  (R : Ending → World → Prop) (hR : ∀ w', Grow w w' → R (.returned (.tuple #[.bool (indB ⟨op, d, a, b⟩ ⟨op', d', a', b'⟩), .int .i64 (indE ⟨op, d, a, b⟩ ⟨op', d', a', b'⟩)])) w') :
    Calls Try.prog 42 #[.agg #[.int .i64 op, .int .i64 d, .int .i64 a, .int .i64 b], .agg #[.int .i64 op', .int .i64 d', .int .i64 a', .int .i64 b']] w R := by
  have HR := Lib.hid hR
  clear hR

  have hi : indB ⟨op, d, a, b⟩ ⟨op', d', a', b'⟩ = (vL op d a b && vL op' d' a' b' && ind ⟨op, d, a, b⟩ ⟨op', d', a', b'⟩) := rfl
  have hie : indE ⟨op, d, a, b⟩ ⟨op', d', a', b'⟩ = if vL op d a b then errB (vL op' d' a' b') else 1 := rfl
  rw [hi, hie] at HR
  clear hi hie
  go_enter Try.func42, Try.ntmps42
  go_wp2_with fail
  have hbx := Box2.new w ⟨op, d, a, b⟩ ⟨op', d', a', b'⟩
  have HBX := Lib.hid hbx
  clear hbx
  refine risLine_any op d a b _ _ ?_
  intro w1 hg1
  have hb1 := HBX.out.grow hg1
  obtain ⟨⟨e0, e1, e2, e3⟩, f0, f1, f2, f3⟩ := hb1.cells
  obtain ⟨hz1, hz2⟩ := hb1.lt
  have HG1 := Lib.hid (((Grow.refl w).alloc _).trans (((Grow.refl _).alloc _).trans hg1))
  have HB1 := Lib.hid hb1
  clear hg1 hb1 HBX
  cases hv : vL op d a b with
  | false =>
    rw [hv] at HR
    go_wp2_with fail
    exact HR.out _ HG1.out
  | true =>
    rw [hv] at HR
    go_wp2_with fail
    refine risLine_any op' d' a' b' _ _ ?_
    intro w2 hg2
    have hb2 := HB1.out.grow hg2
    clear e0 e1 e2 e3 f0 f1 f2 f3 hz1 hz2
    obtain ⟨⟨e0, e1, e2, e3⟩, f0, f1, f2, f3⟩ := hb2.cells
    obtain ⟨hz1, hz2⟩ := hb2.lt
    have HG2 := Lib.hid (HG1.out.trans hg2)
    clear hg2 hb2
    cases hv' : vL op' d' a' b' with
    | false =>
      rw [hv'] at HR
      go_wp2_with fail
      exact HR.out _ HG2.out
    | true =>
      rw [hv'] at HR
      go_wp2_with fail
      refine rindependent_any op d a b op' d' a' b' _ hv hv' _ ?_
      intro w3 hg3
      have HF := Lib.hid (HR.out _ (HG2.out.trans hg3))
      clear hg3
      generalize ind ⟨op, d, a, b⟩ ⟨op', d', a', b'⟩ = bb at HF ⊢
      go_wp2_with fail
      exact HF.out

end Go.Proofs.Ytmaphlbmmemgcaa
