/- The walk of Near. -/
import Derived.Test.YtbccbokjecdaaaaSkF1
import Derived.Test.YtbccbokjecdaaaaSkF7
import Derived.Test.YtbccbokjecdaaaaSkFG
import Derived.Deep.RegionHeld3
import Derived.Deep.RegionWith
namespace Go.Proofs.Ytbccbokjecdaaaa
open Go.RowKit

set_option maxHeartbeats 1000000 in
theorem templates_any (op d a b : Int) (w : World) (hok : vL op d a b = true) (R : Ending → World → Prop)
    (hR : ∀ w' v, Grow w w' → LinesAt w' v (tmpl ⟨op, d, a, b⟩) → R (.returned v) w') :
    Calls Try.prog 17 #[.agg #[.int .i64 op, .int .i64 d, .int .i64 a, .int .i64 b]] w R := by
  have hc := ok_cases (l := ⟨op, d, a, b⟩) hok
  simp only at hc
  by_cases h0 : op = 0
  · subst h0
    have HF := Lib.hid (hR _ (.slice none 0 0) ((Grow.refl w).alloc (.cells #[.int .i64 0, .int .i64 d, .int .i64 a, .int .i64 b] 23)) (SlcAt.nil _ _ _))
    clear hR hc hok
    go_enter Try.func17, Try.ntmps17
    go_wp2_with fail
    exact HF.out
  · by_cases h1 : op = 1
    · exact templates1_any op d a b w h1 hok R hR
    · by_cases h2 : op = 2
      · exact templates2_any op d a b w h2 hok R hR
      · by_cases h7 : op = 7
        · exact templates7_any op d a b w h7 hok R hR
        · exact templatesG_any op d a b w (by omega) hok R hR

theorem keep8 {w2 X Y : World} {a0 a1 a2 a3 a4 a5 a6 a7 : Addr} {v0 v1 v2 v3 v4 v5 v6 v7 : Value} (g : Grow X Y)
    (h : X.cell? a0 = some v0 ∧ X.cell? a1 = some v1 ∧ X.cell? a2 = some v2 ∧ X.cell? a3 = some v3 ∧ X.cell? a4 = some v4 ∧ X.cell? a5 = some v5 ∧ X.cell? a6 = some v6 ∧ X.cell? a7 = some v7 ∧ Grow w2 X) :
    Y.cell? a0 = some v0 ∧ Y.cell? a1 = some v1 ∧ Y.cell? a2 = some v2 ∧ Y.cell? a3 = some v3 ∧ Y.cell? a4 = some v4 ∧ Y.cell? a5 = some v5 ∧ Y.cell? a6 = some v6 ∧ Y.cell? a7 = some v7 ∧ Grow w2 Y :=
  ⟨g.cell h.1, g.cell h.2.1, g.cell h.2.2.1, g.cell h.2.2.2.1, g.cell h.2.2.2.2.1, g.cell h.2.2.2.2.2.1, g.cell h.2.2.2.2.2.2.1, g.cell h.2.2.2.2.2.2.2.1, h.2.2.2.2.2.2.2.2.trans g⟩

set_option maxRecDepth 100000 in
set_option maxHeartbeats 8000000 in
theorem near_any (op d a b op' d' a' b' : Int) (w : World) (R : Ending → World → Prop)
    (hR : ∀ w', Grow w w' → R (.returned (.tuple #[.bool (nearB ⟨op, d, a, b⟩ ⟨op', d', a', b'⟩), .int .i64 (nearE ⟨op, d, a, b⟩ ⟨op', d', a', b'⟩)])) w') :
    Calls Try.prog 6 #[.agg #[.int .i64 op, .int .i64 d, .int .i64 a, .int .i64 b], .agg #[.int .i64 op', .int .i64 d', .int .i64 a', .int .i64 b']] w R := by
  have hB : nearB ⟨op, d, a, b⟩ ⟨op', d', a', b'⟩ = (vL op d a b && vL op' d' a' b' && (tmpl ⟨op, d, a, b⟩).contains ⟨op', d', a', b'⟩) := rfl
  have hE : nearE ⟨op, d, a, b⟩ ⟨op', d', a', b'⟩ = if vL op d a b && vL op' d' a' b' then 0 else 1 := rfl
  rw [hB, hE] at hR
  have HR := Lib.hid hR
  clear hR hB hE
  go_enter Try.func6, Try.ntmps6
  go_wp2_with fail
  have hb0 := heap_two0 w (.cells #[.int .i64 op, .int .i64 d, .int .i64 a, .int .i64 b] 23) (.cells #[.int .i64 op', .int .i64 d', .int .i64 a', .int .i64 b'] 23)
  have hb1 := heap_two1 w (.cells #[.int .i64 op, .int .i64 d, .int .i64 a, .int .i64 b] 23) (.cells #[.int .i64 op', .int .i64 d', .int .i64 a', .int .i64 b'] 23)
  have hg0 : Grow w ((w.alloc (.cells #[.int .i64 op, .int .i64 d, .int .i64 a, .int .i64 b] 23)).alloc (.cells #[.int .i64 op', .int .i64 d', .int .i64 a', .int .i64 b'] 23)) := ((Grow.refl w).alloc _).alloc _
  generalize (w.alloc (.cells #[.int .i64 op, .int .i64 d, .int .i64 a, .int .i64 b] 23)).alloc (.cells #[.int .i64 op', .int .i64 d', .int .i64 a', .int .i64 b'] 23) = W at hb0 hb1 hg0 ⊢
  refine validateLine_any op d a b _ _ ?_
  intro w1 hg1
  have HG1 := Lib.hid (hg0.trans hg1)
  have HB0 := Lib.hid (hg1.blk hb0)
  have HB1 := Lib.hid (hg1.blk hb1)
  obtain ⟨e0, e1, e2, e3⟩ := box4 HB0.out
  obtain ⟨f0, f1, f2, f3⟩ := box4 HB1.out
  have hz1 := lt_of_block HB1.out
  clear hb0 hb1 hg0 hg1
  cases hv : vL op d a b with
  | false =>
    have HF := Lib.hid (HR.out w1 HG1.out)
    rw [hv] at HF
    rw [errB_false]
    go_wp2_with fail
    exact HF.out
  | true =>
    have HV := Lib.hid hv
    rw [hv] at HR
    rw [errB_true]
    clear hv
    go_wp2_with fail
    refine validateLine_any op' d' a' b' _ _ ?_
    intro w2 hg2
    have HG2 := Lib.hid (HG1.out.trans hg2)
    have hb0 := hg2.blk HB0.out
    have hb1 := hg2.blk HB1.out
    clear e0 e1 e2 e3 f0 f1 f2 f3 hz1 hg2 HB0 HB1
    obtain ⟨e0, e1, e2, e3⟩ := box4 hb0
    obtain ⟨f0, f1, f2, f3⟩ := box4 hb1
    have hz1 := lt_of_block hb1
    clear hb0 hb1
    cases hv' : vL op' d' a' b' with
    | false =>
      have HF := Lib.hid (HR.out w2 HG2.out)
      rw [hv'] at HF
      rw [errB_false]
      go_wp2_with fail
      exact HF.out
    | true =>
      rw [hv'] at HR
      rw [errB_true]
      clear hv'
      obtain ⟨T, hT⟩ : ∃ T, tmpl ⟨op, d, a, b⟩ = T := ⟨_, rfl⟩
      rw [hT] at HR
      have HTT := Lib.hid hT
      clear hT
      obtain ⟨c, hc⟩ : ∃ c, T.contains (⟨op', d', a', b'⟩ : Ln) = c := ⟨_, rfl⟩
      rw [hc] at HR
      have HC := Lib.hid hc
      clear hc
      go_wp2_with fail
      go_region_held3 (fun X => X.cell? ⟨w.heap.size, 0, none⟩ = some (.int .i64 op) ∧ X.cell? ⟨w.heap.size, 1, none⟩ = some (.int .i64 d) ∧ X.cell? ⟨w.heap.size, 2, none⟩ = some (.int .i64 a) ∧ X.cell? ⟨w.heap.size, 3, none⟩ = some (.int .i64 b) ∧ X.cell? ⟨w.heap.size + 1, 0, none⟩ = some (.int .i64 op') ∧ X.cell? ⟨w.heap.size + 1, 1, none⟩ = some (.int .i64 d') ∧ X.cell? ⟨w.heap.size + 1, 2, none⟩ = some (.int .i64 a') ∧ X.cell? ⟨w.heap.size + 1, 3, none⟩ = some (.int .i64 b') ∧ Grow w2 X)
        (first | exact ⟨e0, e1, e2, e3, f0, f1, f2, f3, (Grow.refl w2).drew⟩ | exact keep8 hg8 (by assumption) | exact keep8 hg9 (by assumption))
        (first | (go_at_call 17; refine templates_any op d a b _ HV.out _ ?_; intro w8 v8 hg8 hv8; rw [HTT.out] at hv8) | (go_at_call 16; refine contains_any T op' d' a' b' _ _ hv8 _ ?_; intro w9 hg9; rw [HC.out]))
      have hgf : Grow w2 w9 := by
        rename_i hx
        exact hx.2.2.2.2.2.2.2.2
      have HF := Lib.hid (HR.out w9 (HG2.out.trans hgf))
      go_wp2_with fail
      exact HF.out
end Go.Proofs.Ytbccbokjecdaaaa
