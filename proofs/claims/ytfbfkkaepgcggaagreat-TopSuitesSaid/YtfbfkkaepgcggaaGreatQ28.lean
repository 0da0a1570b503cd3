/-
The walks of ordered, valid, fields, and of the library's Index and Contains on lines.
The walk of templates.
-/
import Derived.Test.YtfbfkkaepgcggaaGreatQ27
namespace Go.Proofs.YtfbfkkaepgcggaaGreat
open Go.RowKit

set_option maxHeartbeats 4000000 in
theorem ordered_any (xs : List Ln) (g n cap B : Nat) (w : World) (hn : xs.length = n) (hrow : RowL w g 0 xs) (hg : g < w.heap.size) (hB : B ≤ g) (hcap : n ≤ cap) (hm : cap ≤ 9223372036854775807) (hsm : n < 4611686018427387904) (R : Ending → World → Prop)
    (hR : ∀ w', Below B w w' → g < w'.heap.size → RowL w' g 0 (ordL xs) → R (.returned (.slice (some ⟨g, 0, none⟩) (ordL xs).length cap)) w') :
    Calls Tryz.prog 89 #[.slice (some ⟨g, 0, none⟩) n cap, .func (.func 85) #[] #[]] w R := by
  subst hn
  have HR := Lib.hid hR
  have HROW := Lib.hid hrow
  clear hR hrow
  go_enter Tryz.func89, Tryz.ntmps89
  go_wp2_with fail
  refine sortLn_any xs g cap B _ HROW.out hg hB hsm _ ?_
  intro w1 ys hb1 hg1 hr1 hl1 hm1 hw1
  have HB1 := Lib.hid hb1
  have HR1 := Lib.hid hr1
  have hc : compL ys = ordL xs := (compL_ord hw1).trans (ordL_congr hm1)
  have HC := Lib.hid hc
  clear hb1 hr1 hm1 hw1 hc
  go_wp2_with fail
  refine compactLn_any ys g _ cap B _ hl1 HR1.out hg1 hB hcap hm _ ?_
  intro w2 hb2 hg2 hr2
  rw [HC.out] at hr2 ⊢
  have HF := Lib.hid (HR.out w2 (Below.trans HB1.out hb2) hg2 hr2)
  clear hb2 hr2
  go_wp2_with fail
  exact HF.out

set_option maxHeartbeats 4000000 in
theorem svalid_any (xs : List Ln) (op d a b : Int) (g n cap B : Nat) (w : World) (hn : xs.length = n) (hrow : RowL w g 0 xs) (hg : g < w.heap.size) (hB : B ≤ g) (hcap : n ≤ cap) (hm : cap ≤ 9223372036854775807) (hsm : n < 4611686018427387904) (R : Ending → World → Prop)
    (hR : ∀ w', Below B w w' → g < w'.heap.size → RowL w' g 0 (validL xs ⟨op, d, a, b⟩) → R (.returned (.slice (some ⟨g, 0, none⟩) (validL xs ⟨op, d, a, b⟩).length cap)) w') :
    Calls Tryz.prog 73 #[.slice (some ⟨g, 0, none⟩) n cap, .agg #[.int .i64 op, .int .i64 d, .int .i64 a, .int .i64 b]] w R := by
  have HR := Lib.hid hR
  have HROW := Lib.hid hrow
  have hv : validL xs ⟨op, d, a, b⟩ = ordL (keepL (prL ⟨op, d, a, b⟩) xs) := rfl
  rw [hv] at HR
  have hk := keepL_len (prL ⟨op, d, a, b⟩) xs
  clear hR hrow hv
  go_enter Tryz.func73, Tryz.ntmps73
  go_wp2_with fail
  refine deleteF_any xs ⟨op, d, a, b⟩ g n cap w.heap.size B _ hn hcap hm (HROW.out.grow ((Grow.refl _).alloc _) hg) (by rw [World.size_alloc]; omega) hB (heap_alloc_new _ _) (by omega) _ ?_
  intro w1 hb1 hg1 hr1
  have HB1 := Lib.hid (Below.trans (((Grow.refl w).alloc _).below (B := B) (by omega)) hb1)
  have HR1 := Lib.hid hr1
  clear hb1 hr1
  go_wp2_with fail
  refine ordered_any _ g _ cap B _ rfl HR1.out hg1 hB (by omega) hm (by omega) _ ?_
  intro w2 hb2 hg2 hr2
  have HF := Lib.hid (HR.out w2 (Below.trans HB1.out hb2) hg2 hr2)
  clear hb2 hr2
  go_wp2_with fail
  exact HF.out

/-! ### The fields of a line -/
set_option maxHeartbeats 4000000 in
theorem fields1_any (op d a b : Int) (bl : Nat) (w : World) (hop : op = 1) (hb : w.heap[bl]? = some (.cells #[.int .i64 op, .int .i64 d, .int .i64 a, .int .i64 b] 44 (0, 0))) (R : Ending → World → Prop)
    (hR : ∀ w', Grow w w' → w'.heap[w.heap.size]? = some (.cells #[.pointer (some ⟨bl, 1, none⟩)] 101 (0, 0)) → R (.returned (.slice (some ⟨w.heap.size, 0, none⟩) 1 1)) w') :
    Calls Tryz.prog 72 #[.pointer (some ⟨bl, 0, none⟩)] w R := by
  have HR := Lib.hid hR
  obtain ⟨e0, e1, e2, e3⟩ := box4 hb
  have hz := lt_of_block hb
  clear hR hb
  subst hop
  go_enter Tryz.func72, Tryz.ntmps72
  go_wp2_with fail
  exact HR.out _ ((Grow.refl _).alloc _) (heap_alloc_new _ _)
set_option maxHeartbeats 4000000 in
theorem fields2_any (op d a b : Int) (bl : Nat) (w : World) (hop : op = 2) (hb : w.heap[bl]? = some (.cells #[.int .i64 op, .int .i64 d, .int .i64 a, .int .i64 b] 44 (0, 0))) (R : Ending → World → Prop)
    (hR : ∀ w', Grow w w' → w'.heap[w.heap.size]? = some (.cells #[.pointer (some ⟨bl, 1, none⟩), .pointer (some ⟨bl, 2, none⟩)] 101 (0, 0)) → R (.returned (.slice (some ⟨w.heap.size, 0, none⟩) 2 2)) w') :
    Calls Tryz.prog 72 #[.pointer (some ⟨bl, 0, none⟩)] w R := by
  have HR := Lib.hid hR
  obtain ⟨e0, e1, e2, e3⟩ := box4 hb
  have hz := lt_of_block hb
  clear hR hb
  subst hop
  go_enter Tryz.func72, Tryz.ntmps72
  go_wp2_with fail
  go_region
  all_goals (go_wp2_with fail)
  all_goals (first | exact HR.out _ (((Grow.refl _).drew).alloc _) (heap_alloc_new _ _) | exact HR.out _ (((Grow.refl _).alloc _).drew) (heap_alloc_new _ _))
set_option maxHeartbeats 4000000 in
theorem fields7_any (op d a b : Int) (bl : Nat) (w : World) (hop : op = 7) (hb : w.heap[bl]? = some (.cells #[.int .i64 op, .int .i64 d, .int .i64 a, .int .i64 b] 44 (0, 0))) (R : Ending → World → Prop)
    (hR : ∀ w', Grow w w' → w'.heap[w.heap.size]? = some (.cells #[.pointer (some ⟨bl, 2, none⟩), .pointer (some ⟨bl, 3, none⟩)] 101 (0, 0)) → R (.returned (.slice (some ⟨w.heap.size, 0, none⟩) 2 2)) w') :
    Calls Tryz.prog 72 #[.pointer (some ⟨bl, 0, none⟩)] w R := by
  have HR := Lib.hid hR
  obtain ⟨e0, e1, e2, e3⟩ := box4 hb
  have hz := lt_of_block hb
  clear hR hb
  subst hop
  go_enter Tryz.func72, Tryz.ntmps72
  go_wp2_with fail
  go_region
  all_goals (go_wp2_with fail)
  all_goals (first | exact HR.out _ (((Grow.refl _).drew).alloc _) (heap_alloc_new _ _) | exact HR.out _ (((Grow.refl _).alloc _).drew) (heap_alloc_new _ _))
set_option maxHeartbeats 4000000 in
theorem fieldsG_any (op d a b : Int) (bl : Nat) (w : World) (hop : 3 ≤ op ∧ op ≤ 6) (hb : w.heap[bl]? = some (.cells #[.int .i64 op, .int .i64 d, .int .i64 a, .int .i64 b] 44 (0, 0))) (R : Ending → World → Prop)
    (hR : ∀ w', Grow w w' → w'.heap[w.heap.size]? = some (.cells #[.pointer (some ⟨bl, 1, none⟩), .pointer (some ⟨bl, 2, none⟩), .pointer (some ⟨bl, 3, none⟩)] 101 (0, 0)) → R (.returned (.slice (some ⟨w.heap.size, 0, none⟩) 3 3)) w') :
    Calls Tryz.prog 72 #[.pointer (some ⟨bl, 0, none⟩)] w R := by
  have HR := Lib.hid hR
  obtain ⟨e0, e1, e2, e3⟩ := box4 hb
  have hz := lt_of_block hb
  clear hR hb
  obtain ⟨h3, h6⟩ := hop
  have t1 : (op == 1) = false := by simp; omega
  have t2 : (op == 2) = false := by simp; omega
  have t7 : (op == 7) = false := by simp; omega
  have t0 : (op == 0) = false := by simp; omega
  go_enter Tryz.func72, Tryz.ntmps72
  go_wp2_with fail
  go_region
  all_goals (go_wp2_with fail)
  all_goals (first | exact HR.out _ (((Grow.refl _).drew).alloc _) (heap_alloc_new _ _) | exact HR.out _ (((Grow.refl _).alloc _).drew) (heap_alloc_new _ _))

/-! ### Index and Contains -/
set_option maxRecDepth 100000 in
set_option maxHeartbeats 8000000 in
theorem index_any (xs : List Ln) (op d a b : Int) (v : Value) (w : World) (hv : LinesAt w v xs) (R : Ending → World → Prop)
    (hR1 : ∀ w' (k : Nat), Grow w w' → xs.contains ⟨op, d, a, b⟩ = true → R (.returned (.int .i64 (k : Int))) w')
    (hR2 : ∀ w', Grow w w' → xs.contains ⟨op, d, a, b⟩ = false → R (.returned (.int .i64 (-1))) w') :
    Calls Tryz.prog 71 #[v, .agg #[.int .i64 op, .int .i64 d, .int .i64 a, .int .i64 b]] w R := by
  have HV := Lib.hid hv
  obtain ⟨va, vc, rfl, v1, v2, v3⟩ := hv
  have HR1 := Lib.hid hR1
  have HR2 := Lib.hid hR2
  clear hR1 hR2
  go_enter Tryz.func71, Tryz.ntmps71
  go_wp2_with fail
  go_loopw [8] (fun i wr => ∃ k : Nat, k ≤ xs.length ∧ i = .int .i64 k ∧ Grow w wr ∧ wr.heap[w.heap.size]? = some (.cells #[.int .i64 op, .int .i64 d, .int .i64 a, .int .i64 b] 44 (0, 0)) ∧ ∀ y ∈ xs.take k, ¬ (⟨op, d, a, b⟩ : Ln) = y) (fun i _ => xs.length - (intOf i).toNat)
  case atStart => exact ⟨0, Nat.zero_le _, rfl, (Grow.refl _).alloc _, heap_alloc_new _ _, by simp⟩
  case round =>
    obtain ⟨k, hk, rfl, hgr, hbx, hno⟩ := hrel
    have HG := Lib.hid hgr
    have HNO := Lib.hid hno
    have HBX := Lib.hid hbx
    have hz := hgr.sz
    have hzb := lt_of_block hbx
    obtain ⟨c0, c1, c2, c3⟩ := box4 hbx
    clear hgr hno hbx
    by_cases hlt : k < xs.length
    · replace v3 := v3.resolve_left (by intro h; simp [h.1] at hlt)
      obtain ⟨g, o, rfl, hb, hc⟩ := v3
      obtain ⟨⟨op', d', a', b'⟩, hx⟩ : ∃ x, xs[k]? = some x := ⟨_, List.getElem?_eq_getElem hlt⟩
      obtain ⟨f0, f1, f2, f3⟩ := lines_cell hc k op' d' a' b' hx
      replace f0 := HG.out.cell f0
      replace f1 := HG.out.cell f1
      replace f2 := HG.out.cell f2
      replace f3 := HG.out.cell f3
      have hkn : (k : Int) < (xs.length : Int) := by omega
      have hgw : g < wr.heap.size := by omega
      have HX := Lib.hid hx
      clear hx hc
      by_cases hxy : (⟨op, d, a, b⟩ : Ln) = ⟨op', d', a', b'⟩
      · have hmem : xs.contains ⟨op, d, a, b⟩ = true := by
          rw [List.contains_iff_mem, hxy]; exact List.mem_of_getElem? HX.out
        have HM := Lib.hid hmem
        clear hmem
        cases hxy
        go_wp2_with (go_quiet (fail))
        exact HR1.out _ k (HG.out.drewN _) HM.out
      · have HXY := Lib.hid hxy
        clear hxy
        by_cases gq0 : op = op'
        rotate_left
        · have tq1 : (op == op') = false := by simpa using gq0
          have tq2 : (op != op') = true := by simpa using gq0
          go_wp2_with (go_quiet (fail))
          go_roundw
          case rel =>
            refine ⟨k + 1, by omega, by go_num, HG.out.drewN _, HBX.out, fun y hy => ?_⟩
            rw [List.take_add_one, HX.out] at hy
            rcases List.mem_append.1 hy with hy | hy
            · exact HNO.out y hy
            · simp at hy; subst hy; exact HXY.out
          case measure => simp [intOf]; omega
        subst gq0
        by_cases gq1 : d = d'
        rotate_left
        · have tq1 : (d == d') = false := by simpa using gq1
          have tq2 : (d != d') = true := by simpa using gq1
          go_wp2_with (go_quiet (fail))
          go_roundw
          case rel =>
            refine ⟨k + 1, by omega, by go_num, HG.out.drewN _, HBX.out, fun y hy => ?_⟩
            rw [List.take_add_one, HX.out] at hy
            rcases List.mem_append.1 hy with hy | hy
            · exact HNO.out y hy
            · simp at hy; subst hy; exact HXY.out
          case measure => simp [intOf]; omega
        subst gq1
        by_cases gq2 : a = a'
        rotate_left
        · have tq1 : (a == a') = false := by simpa using gq2
          have tq2 : (a != a') = true := by simpa using gq2
          go_wp2_with (go_quiet (fail))
          go_roundw
          case rel =>
            refine ⟨k + 1, by omega, by go_num, HG.out.drewN _, HBX.out, fun y hy => ?_⟩
            rw [List.take_add_one, HX.out] at hy
            rcases List.mem_append.1 hy with hy | hy
            · exact HNO.out y hy
            · simp at hy; subst hy; exact HXY.out
          case measure => simp [intOf]; omega
        subst gq2
        by_cases gq3 : b = b'
        rotate_left
        · have tq1 : (b == b') = false := by simpa using gq3
          have tq2 : (b != b') = true := by simpa using gq3
          go_wp2_with (go_quiet (fail))
          go_roundw
          case rel =>
            refine ⟨k + 1, by omega, by go_num, HG.out.drewN _, HBX.out, fun y hy => ?_⟩
            rw [List.take_add_one, HX.out] at hy
            rcases List.mem_append.1 hy with hy | hy
            · exact HNO.out y hy
            · simp at hy; subst hy; exact HXY.out
          case measure => simp [intOf]; omega
        subst gq3
        exact absurd rfl HXY.out
    · have hmem : xs.contains ⟨op, d, a, b⟩ = false := by
        rw [← Bool.not_eq_true, List.contains_iff_mem]
        intro h
        exact HNO.out _ (by rw [List.take_of_length_le (by omega)]; exact h) rfl
      have HF := Lib.hid (HR2.out _ HG.out hmem)
      go_wp2_with fail
      exact HF.out

theorem contains_any (xs : List Ln) (op d a b : Int) (v : Value) (w : World) (hv : LinesAt w v xs) (R : Ending → World → Prop) (hR : ∀ w', Grow w w' → R (.returned (.bool (xs.contains ⟨op, d, a, b⟩))) w') :
    Calls Tryz.prog 46 #[v, .agg #[.int .i64 op, .int .i64 d, .int .i64 a, .int .i64 b]] w R := by
  have HR := Lib.hid hR
  have HV := Lib.hid hv
  obtain ⟨va, vc, rfl, v1, v2, _⟩ := hv
  clear hR
  go_enter Tryz.func46, Tryz.ntmps46
  go_wp2_with fail
  refine index_any xs op d a b _ _ (HV.out.grow ((Grow.refl _).alloc _)) _ ?_ ?_
  · intro w1 k hg1 hc
    have HF := Lib.hid (HR.out w1 (((Grow.refl _).alloc _).trans hg1))
    rw [hc] at HF
    have hk : (k : Int) ≥ 0 := by omega
    go_wp2_with fail
    exact HF.out
  · intro w1 hg1 hc
    have HF := Lib.hid (HR.out w1 (((Grow.refl _).alloc _).trans hg1))
    rw [hc] at HF
    go_wp2_with fail
    exact HF.out
end Go.Proofs.YtfbfkkaepgcggaaGreat

namespace Go.Proofs.YtfbfkkaepgcggaaGreat
open Go.RowKit

theorem info_ln : (Tryz.prog.info? 44).map (fun i => (i.zero, i.size, i.bytes)) = some (some (.agg #[.int .i64 0, .int .i64 0, .int .i64 0, .int .i64 0]), 4, 32) := by kernel_rfl
/-- The line's box, and the row that templates has gathered. -/
structure TI (w : World) (l : Ln) (xs : List Ln) (out : Value) (wr : World) : Prop where
  g : Grow w wr
  bx : wr.heap[w.heap.size]? = some (.cells #[.int .i64 l.op, .int .i64 l.d, .int .i64 l.a, .int .i64 l.b] 44 (0, 0))
  ow : wr.ownsRow (w.heap.size + 1) 44 4 out xs.length (xs.flatMap encL)
theorem TI.grow {w : World} {l : Ln} {xs : List Ln} {out : Value} {wr W : World} (h : TI w l xs out wr) (g : Grow wr W) : TI w l xs out W := ⟨h.g.trans g, g.blk h.bx, g.owns h.ow⟩
theorem TI.sz {w : World} {l : Ln} {xs : List Ln} {out : Value} {wr : World} (h : TI w l xs out wr) : w.heap.size + 1 ≤ wr.heap.size := lt_of_block h.bx
theorem TI.app {w : World} {l y : Ln} {xs : List Ln} {out out' : Value} {wr W w2 : World} (h : TI w l xs out wr) (g : Grow wr W) (ho : w2.ownsRow (w.heap.size + 1) 44 4 out' (xs ++ [y]).length ((xs ++ [y]).flatMap encL)) (hg : W.grownBy w2 out.ownBlock) : TI w l (xs ++ [y]) out' w2 :=
  have h2 := h.grow g
  ⟨grown_below h2.ow hg (by omega) h2.g.sz h2.g, grown_keep h2.ow hg (by omega) h2.bx, ho⟩
theorem news_gen (W : World) (n : Nat) (hn : W.heap.size = n) (cs : List Value) (t : TypeId) : ∀ j v, cs[j]? = some v → (W.alloc (.cells cs.toArray t)).cell? ((⟨n, 0, none⟩ : Addr).add j) = some v := hn ▸ news_one W cs t
theorem frz {w : World} {b : Nat} {cs : Array Value} {e : TypeId} (h : w.heap[b]? = some (.cells cs e (0, 0))) (o : Nat) : w.frozen? ⟨b, o, none⟩ = false := by
  unfold World.frozen?; simp only [h]; rfl
theorem cellOf {w : World} {b : Nat} {cs : Array Value} {e : TypeId} (h : w.heap[b]? = some (.cells cs e (0, 0))) (o : Nat) {v : Value} (hv : cs[o]? = some v) : w.cell? ⟨b, o, none⟩ = some v := by
  unfold World.cell?; simp only [h]; exact hv
theorem TI.end_ {w : World} {l : Ln} {xs : List Ln} {out : Value} {wr : World} (h : TI w l xs out wr) (hp : 0 < xs.length) : ∃ g cap, out = .slice (some ⟨g, 0, none⟩) xs.length cap ∧ w.heap.size + 1 ≤ g ∧ g < wr.heap.size ∧ xs.length ≤ cap ∧ cap ≤ 9223372036854775807 ∧ RowL wr g 0 xs := by
  have hr := h.ow
  rcases h.ow.2 with ⟨_, h0⟩ | ⟨g, cap, cur, rfl, hg, hh, _⟩
  · omega
  · obtain ⟨_, c, e, h1, h2, _⟩ := slc_of_owns encL_len h.ow
    cases e
    exact ⟨g, cap, rfl, hg, lt_of_block hh, h1, h2, RowL.of_own h.ow⟩

theorem snoc_range (pre : List Ln) (f : Nat → Ln) (r : Nat) : pre ++ (List.range (r + 1)).map f = pre ++ (List.range r).map f ++ [f r] := by
  rw [List.range_succ, List.map_append, List.append_assoc]; rfl
theorem insL_len (x : Ln) : ∀ l, (insL x l).length ≤ l.length + 1
  | [] => by simp [insL]
  | y :: r => by
    unfold insL
    have := insL_len x r
    split
    · simp
    · split <;> simp <;> omega
theorem ordL_len (xs : List Ln) : (ordL xs).length ≤ xs.length := by
  unfold ordL
  induction xs with
  | nil => simp
  | cons x r ih => have := insL_len x (r.foldr insL []); simp only [List.foldr_cons, List.length_cons]; omega
theorem validL_len (xs : List Ln) (but : Ln) : (validL xs but).length ≤ xs.length := Nat.le_trans (ordL_len _) (List.length_filter_le _ _)

end Go.Proofs.YtfbfkkaepgcggaaGreat
