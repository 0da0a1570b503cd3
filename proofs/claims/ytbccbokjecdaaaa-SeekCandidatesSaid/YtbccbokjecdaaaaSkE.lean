/- The walks of ordered, valid, fields, and of the library's Index and Contains on lines. -/
import Derived.Test.YtbccbokjecdaaaaSkD
namespace Go.Proofs.Ytbccbokjecdaaaa
open Go.RowKit

set_option maxHeartbeats 4000000 in
theorem ordered_any (xs : List Ln) (g n cap B : Nat) (w : World) (hn : xs.length = n) (hrow : RowL w g 0 xs) (hg : g < w.heap.size) (hB : B ≤ g) (hcap : n ≤ cap) (hm : cap ≤ 9223372036854775807) (hsm : n < 4611686018427387904) (R : Ending → World → Prop)
    (hR : ∀ w', Below B w w' → g < w'.heap.size → RowL w' g 0 (ordL xs) → R (.returned (.slice (some ⟨g, 0, none⟩) (ordL xs).length cap)) w') :
    Calls Try.prog 18 #[.slice (some ⟨g, 0, none⟩) n cap, .func (.func 19) #[] #[]] w R := by
  subst hn
  have HR := Lib.hid hR
  have HROW := Lib.hid hrow
  clear hR hrow
  go_enter Try.func18, Try.ntmps18
  go_wp2_with fail
  refine sortLn_any xs g cap B _ HROW.out hg hB hsm _ ?_
  intro w1 ys hb1 hg1 hr1 hl1 hm1 hw1
  have HB1 := Lib.hid hb1
  have HR1 := Lib.hid hr1
  have hc : compL ys = ordL xs := (compL_ord hw1).trans (ordL_congr hm1)
  have HC := Lib.hid hc
  clear hb1 hr1 hm1 hw1 hc
  go_wp2_with fail
  refine compactLn_any ys g _ cap B _ hl1 HR1.out hg1 hB hcap hm _ ?_
  intro w2 hb2 hg2 hr2
  rw [HC.out] at hr2 ⊢
  have HF := Lib.hid (HR.out w2 (Below.trans HB1.out hb2) hg2 hr2)
  clear hb2 hr2
  go_wp2_with fail
  exact HF.out

set_option maxHeartbeats 4000000 in
theorem svalid_any (xs : List Ln) (op d a b : Int) (g n cap B : Nat) (w : World) (hn : xs.length = n) (hrow : RowL w g 0 xs) (hg : g < w.heap.size) (hB : B ≤ g) (hcap : n ≤ cap) (hm : cap ≤ 9223372036854775807) (hsm : n < 4611686018427387904) (R : Ending → World → Prop)
    (hR : ∀ w', Below B w w' → g < w'.heap.size → RowL w' g 0 (validL xs ⟨op, d, a, b⟩) → R (.returned (.slice (some ⟨g, 0, none⟩) (validL xs ⟨op, d, a, b⟩).length cap)) w') :
    Calls Try.prog 31 #[.slice (some ⟨g, 0, none⟩) n cap, .agg #[.int .i64 op, .int .i64 d, .int .i64 a, .int .i64 b]] w R := by
  have HR := Lib.hid hR
  have HROW := Lib.hid hrow
  have hv : validL xs ⟨op, d, a, b⟩ = ordL (keepL (prL ⟨op, d, a, b⟩) xs) := rfl
  rw [hv] at HR
  have hk := keepL_len (prL ⟨op, d, a, b⟩) xs
  clear hR hrow hv
  go_enter Try.func31, Try.ntmps31
  go_wp2_with fail
  refine deleteF_any xs ⟨op, d, a, b⟩ g n cap w.heap.size B _ hn hcap hm (HROW.out.grow ((Grow.refl _).alloc _) hg) (by rw [World.size_alloc]; omega) hB (heap_alloc_new _ _) (by omega) _ ?_
  intro w1 hb1 hg1 hr1
  have HB1 := Lib.hid (Below.trans (((Grow.refl w).alloc _).below (B := B) (by omega)) hb1)
  have HR1 := Lib.hid hr1
  clear hb1 hr1
  go_wp2_with fail
  refine ordered_any _ g _ cap B _ rfl HR1.out hg1 hB (by omega) hm (by omega) _ ?_
  intro w2 hb2 hg2 hr2
  have HF := Lib.hid (HR.out w2 (Below.trans HB1.out hb2) hg2 hr2)
  clear hb2 hr2
  go_wp2_with fail
  exact HF.out

/-! ### The fields of a line -/
def ptrs (b : Nat) (ks : List Nat) : List Value := ks.map fun k => .pointer (some ⟨b, k + 1, none⟩)
set_option maxHeartbeats 4000000 in
theorem fields1_any (op d a b : Int) (bl : Nat) (w : World) (hop : op = 1) (hb : w.heap[bl]? = some (.cells #[.int .i64 op, .int .i64 d, .int .i64 a, .int .i64 b] 23 (0, 0))) (R : Ending → World → Prop)
    (hR : ∀ w', Grow w w' → w'.heap[w.heap.size]? = some (.cells #[.pointer (some ⟨bl, 1, none⟩)] 60 (0, 0)) → R (.returned (.slice (some ⟨w.heap.size, 0, none⟩) 1 1)) w') :
    Calls Try.prog 29 #[.pointer (some ⟨bl, 0, none⟩)] w R := by
  have HR := Lib.hid hR
  obtain ⟨e0, e1, e2, e3⟩ := box4 hb
  have hz := lt_of_block hb
  clear hR hb
  subst hop
  go_enter Try.func29, Try.ntmps29
  go_wp2_with fail
  exact HR.out _ ((Grow.refl _).alloc _) (heap_alloc_new _ _)
set_option maxHeartbeats 4000000 in
theorem fields2_any (op d a b : Int) (bl : Nat) (w : World) (hop : op = 2) (hb : w.heap[bl]? = some (.cells #[.int .i64 op, .int .i64 d, .int .i64 a, .int .i64 b] 23 (0, 0))) (R : Ending → World → Prop)
    (hR : ∀ w', Grow w w' → w'.heap[w.heap.size]? = some (.cells #[.pointer (some ⟨bl, 1, none⟩), .pointer (some ⟨bl, 2, none⟩)] 60 (0, 0)) → R (.returned (.slice (some ⟨w.heap.size, 0, none⟩) 2 2)) w') :
    Calls Try.prog 29 #[.pointer (some ⟨bl, 0, none⟩)] w R := by
  have HR := Lib.hid hR
  obtain ⟨e0, e1, e2, e3⟩ := box4 hb
  have hz := lt_of_block hb
  clear hR hb
  subst hop
  go_enter Try.func29, Try.ntmps29
  go_wp2_with fail
  go_region
  all_goals (go_wp2_with fail)
  all_goals (first | exact HR.out _ (((Grow.refl _).drew).alloc _) (heap_alloc_new _ _) | exact HR.out _ (((Grow.refl _).alloc _).drew) (heap_alloc_new _ _))
set_option maxHeartbeats 4000000 in
theorem fields7_any (op d a b : Int) (bl : Nat) (w : World) (hop : op = 7) (hb : w.heap[bl]? = some (.cells #[.int .i64 op, .int .i64 d, .int .i64 a, .int .i64 b] 23 (0, 0))) (R : Ending → World → Prop)
    (hR : ∀ w', Grow w w' → w'.heap[w.heap.size]? = some (.cells #[.pointer (some ⟨bl, 2, none⟩), .pointer (some ⟨bl, 3, none⟩)] 60 (0, 0)) → R (.returned (.slice (some ⟨w.heap.size, 0, none⟩) 2 2)) w') :
    Calls Try.prog 29 #[.pointer (some ⟨bl, 0, none⟩)] w R := by
  have HR := Lib.hid hR
  obtain ⟨e0, e1, e2, e3⟩ := box4 hb
  have hz := lt_of_block hb
  clear hR hb
  subst hop
  go_enter Try.func29, Try.ntmps29
  go_wp2_with fail
  go_region
  all_goals (go_wp2_with fail)
  all_goals (first | exact HR.out _ (((Grow.refl _).drew).alloc _) (heap_alloc_new _ _) | exact HR.out _ (((Grow.refl _).alloc _).drew) (heap_alloc_new _ _))
set_option maxHeartbeats 4000000 in
theorem fieldsG_any (op d a b : Int) (bl : Nat) (w : World) (hop : 3 ≤ op ∧ op ≤ 6) (hb : w.heap[bl]? = some (.cells #[.int .i64 op, .int .i64 d, .int .i64 a, .int .i64 b] 23 (0, 0))) (R : Ending → World → Prop)
    (hR : ∀ w', Grow w w' → w'.heap[w.heap.size]? = some (.cells #[.pointer (some ⟨bl, 1, none⟩), .pointer (some ⟨bl, 2, none⟩), .pointer (some ⟨bl, 3, none⟩)] 60 (0, 0)) → R (.returned (.slice (some ⟨w.heap.size, 0, none⟩) 3 3)) w') :
    Calls Try.prog 29 #[.pointer (some ⟨bl, 0, none⟩)] w R := by
  have HR := Lib.hid hR
  obtain ⟨e0, e1, e2, e3⟩ := box4 hb
  have hz := lt_of_block hb
  clear hR hb
  obtain ⟨h3, h6⟩ := hop
  have t1 : (op == 1) = false := by simp; omega
  have t2 : (op == 2) = false := by simp; omega
  have t7 : (op == 7) = false := by simp; omega
  have t0 : (op == 0) = false := by simp; omega
  go_enter Try.func29, Try.ntmps29
  go_wp2_with fail
  go_region
  all_goals (go_wp2_with fail)
  all_goals (first | exact HR.out _ (((Grow.refl _).drew).alloc _) (heap_alloc_new _ _) | exact HR.out _ (((Grow.refl _).alloc _).drew) (heap_alloc_new _ _))

/-! ### Index and Contains -/
set_option maxRecDepth 100000 in
set_option maxHeartbeats 8000000 in
theorem index_any (xs : List Ln) (op d a b : Int) (v : Value) (w : World) (hv : LinesAt w v xs) (R : Ending → World → Prop)
    (hR1 : ∀ w' (k : Nat), Grow w w' → xs.contains ⟨op, d, a, b⟩ = true → R (.returned (.int .i64 (k : Int))) w')
    (hR2 : ∀ w', Grow w w' → xs.contains ⟨op, d, a, b⟩ = false → R (.returned (.int .i64 (-1))) w') :
    Calls Try.prog 28 #[v, .agg #[.int .i64 op, .int .i64 d, .int .i64 a, .int .i64 b]] w R := by
  have HV := Lib.hid hv
  obtain ⟨va, vc, rfl, v1, v2, v3⟩ := hv
  have HR1 := Lib.hid hR1
  have HR2 := Lib.hid hR2
  clear hR1 hR2
  go_enter Try.func28, Try.ntmps28
  go_wp2_with fail
  go_loopw [8] (fun i wr => ∃ k : Nat, k ≤ xs.length ∧ i = .int .i64 k ∧ Grow w wr ∧ wr.heap[w.heap.size]? = some (.cells #[.int .i64 op, .int .i64 d, .int .i64 a, .int .i64 b] 23 (0, 0)) ∧ ∀ y ∈ xs.take k, ¬ (⟨op, d, a, b⟩ : Ln) = y) (fun i _ => xs.length - (intOf i).toNat)
  case atStart => exact ⟨0, Nat.zero_le _, rfl, (Grow.refl _).alloc _, heap_alloc_new _ _, by simp⟩
  case round =>
    obtain ⟨k, hk, rfl, hgr, hbx, hno⟩ := hrel
    have HG := Lib.hid hgr
    have HNO := Lib.hid hno
    have HBX := Lib.hid hbx
    have hz := hgr.sz
    have hzb := lt_of_block hbx
    obtain ⟨c0, c1, c2, c3⟩ := box4 hbx
    clear hgr hno hbx
    by_cases hlt : k < xs.length
    · replace v3 := v3.resolve_left (by intro h; simp [h.1] at hlt)
      obtain ⟨g, o, rfl, hb, hc⟩ := v3
      obtain ⟨⟨op', d', a', b'⟩, hx⟩ : ∃ x, xs[k]? = some x := ⟨_, List.getElem?_eq_getElem hlt⟩
      obtain ⟨f0, f1, f2, f3⟩ := lines_cell hc k op' d' a' b' hx
      replace f0 := HG.out.cell f0
      replace f1 := HG.out.cell f1
      replace f2 := HG.out.cell f2
      replace f3 := HG.out.cell f3
      have hkn : (k : Int) < (xs.length : Int) := by omega
      have hgw : g < wr.heap.size := by omega
      have HX := Lib.hid hx
      clear hx hc
      by_cases hxy : (⟨op, d, a, b⟩ : Ln) = ⟨op', d', a', b'⟩
      · have hmem : xs.contains ⟨op, d, a, b⟩ = true := by
          rw [List.contains_iff_mem, hxy]; exact List.mem_of_getElem? HX.out
        have HM := Lib.hid hmem
        clear hmem
        cases hxy
        go_wp2_with (go_quiet (fail))
        exact HR1.out _ k (HG.out.drewN _) HM.out
      · have HXY := Lib.hid hxy
        clear hxy
        by_cases gq0 : op = op'
        rotate_left
        · have tq1 : (op == op') = false := by simpa using gq0
          have tq2 : (op != op') = true := by simpa using gq0
          go_wp2_with (go_quiet (fail))
          go_roundw
          case rel =>
            refine ⟨k + 1, by omega, by go_num, HG.out.drewN _, HBX.out, fun y hy => ?_⟩
            rw [List.take_add_one, HX.out] at hy
            rcases List.mem_append.1 hy with hy | hy
            · exact HNO.out y hy
            · simp at hy; subst hy; exact HXY.out
          case measure => simp [intOf]; omega
        subst gq0
        by_cases gq1 : d = d'
        rotate_left
        · have tq1 : (d == d') = false := by simpa using gq1
          have tq2 : (d != d') = true := by simpa using gq1
          go_wp2_with (go_quiet (fail))
          go_roundw
          case rel =>
            refine ⟨k + 1, by omega, by go_num, HG.out.drewN _, HBX.out, fun y hy => ?_⟩
            rw [List.take_add_one, HX.out] at hy
            rcases List.mem_append.1 hy with hy | hy
            · exact HNO.out y hy
            · simp at hy; subst hy; exact HXY.out
          case measure => simp [intOf]; omega
        subst gq1
        by_cases gq2 : a = a'
        rotate_left
        · have tq1 : (a == a') = false := by simpa using gq2
          have tq2 : (a != a') = true := by simpa using gq2
          go_wp2_with (go_quiet (fail))
          go_roundw
          case rel =>
            refine ⟨k + 1, by omega, by go_num, HG.out.drewN _, HBX.out, fun y hy => ?_⟩
            rw [List.take_add_one, HX.out] at hy
            rcases List.mem_append.1 hy with hy | hy
            · exact HNO.out y hy
            · simp at hy; subst hy; exact HXY.out
          case measure => simp [intOf]; omega
        subst gq2
        by_cases gq3 : b = b'
        rotate_left
        · have tq1 : (b == b') = false := by simpa using gq3
          have tq2 : (b != b') = true := by simpa using gq3
          go_wp2_with (go_quiet (fail))
          go_roundw
          case rel =>
            refine ⟨k + 1, by omega, by go_num, HG.out.drewN _, HBX.out, fun y hy => ?_⟩
            rw [List.take_add_one, HX.out] at hy
            rcases List.mem_append.1 hy with hy | hy
            · exact HNO.out y hy
            · simp at hy; subst hy; exact HXY.out
          case measure => simp [intOf]; omega
        subst gq3
        exact absurd rfl HXY.out
    · have hmem : xs.contains ⟨op, d, a, b⟩ = false := by
        rw [← Bool.not_eq_true, List.contains_iff_mem]
        intro h
        exact HNO.out _ (by rw [List.take_of_length_le (by omega)]; exact h) rfl
      have HF := Lib.hid (HR2.out _ HG.out hmem)
      go_wp2_with fail
      exact HF.out

theorem contains_any (xs : List Ln) (op d a b : Int) (v : Value) (w : World) (hv : LinesAt w v xs) (R : Ending → World → Prop) (hR : ∀ w', Grow w w' → R (.returned (.bool (xs.contains ⟨op, d, a, b⟩))) w') :
    Calls Try.prog 16 #[v, .agg #[.int .i64 op, .int .i64 d, .int .i64 a, .int .i64 b]] w R := by
  have HR := Lib.hid hR
  have HV := Lib.hid hv
  obtain ⟨va, vc, rfl, v1, v2, _⟩ := hv
  clear hR
  go_enter Try.func16, Try.ntmps16
  go_wp2_with fail
  refine index_any xs op d a b _ _ (HV.out.grow ((Grow.refl _).alloc _)) _ ?_ ?_
  · intro w1 k hg1 hc
    have HF := Lib.hid (HR.out w1 (((Grow.refl _).alloc _).trans hg1))
    rw [hc] at HF
    have hk : (k : Int) ≥ 0 := by omega
    go_wp2_with fail
    exact HF.out
  · intro w1 hg1 hc
    have HF := Lib.hid (HR.out w1 (((Grow.refl _).alloc _).trans hg1))
    rw [hc] at HF
    go_wp2_with fail
    exact HF.out
end Go.Proofs.Ytbccbokjecdaaaa
