/- The walk of the statement SeekAlls. -/
import Derived.Test.YtbccbokjecdaaaaLawNears
import Derived.Test.YtbccbokjecdaaaaRAll
import Derived.Test.YtbccbokjecdaaaaSame4
namespace Go.Proofs.Ytbccbokjecdaaaa
open Go.RowKit

set_option maxHeartbeats 2000000 in
theorem Templates_any (op d a b : Int) (w : World) (R : Ending → World → Prop)
    (hR : ∀ w' v, Grow w w' → LinesAt w' v (if vL op d a b then tmpl ⟨op, d, a, b⟩ else []) → R (.returned (.tuple #[v, .int .i64 (errB (vL op d a b))])) w') :
    Calls Try.prog 11 #[.agg #[.int .i64 op, .int .i64 d, .int .i64 a, .int .i64 b]] w R := by
  have HR := Lib.hid hR
  clear hR
  go_enter Try.func11, Try.ntmps11
  go_wp2_with fail
  have hb := heap_alloc_new w (.cells #[.int .i64 op, .int .i64 d, .int .i64 a, .int .i64 b] 23)
  have hg := (Grow.refl w).alloc (.cells #[.int .i64 op, .int .i64 d, .int .i64 a, .int .i64 b] 23)
  refine validateLine_any op d a b _ _ ?_
  intro w1 hg1
  have HG := Lib.hid (hg.trans hg1)
  have hb1 := hg1.blk hb
  obtain ⟨e0, e1, e2, e3⟩ := box4 hb1
  have hz := lt_of_block hb1
  clear hb hg hg1 hb1
  cases hv : vL op d a b with
  | false =>
    have HF := HR.out w1 (.slice none 0 0) HG.out
    rw [hv, if_neg (by decide)] at HF
    have HF2 := Lib.hid (HF (SlcAt.nil _ _ _))
    rw [errB_false] at HF2 ⊢
    clear HF hv
    go_wp2_with fail
    exact HF2.out
  | true =>
    have HV := Lib.hid hv
    rw [hv, if_pos rfl] at HR
    rw [errB_true] at HR ⊢
    clear hv
    go_wp2_with fail
    refine templates_any op d a b _ HV.out _ ?_
    intro w2 v2 hg2 hv2
    have HF := Lib.hid (HR.out w2 v2 (HG.out.trans hg2) hv2)
    clear hg2 hv2
    go_wp2_with fail
    exact HF.out

/-- The lines of which the first k have been spoilt. -/
def spoil (xs : List Ln) (k : Nat) : List Ln := (xs.take k).map (fun x => { x with op := -1 }) ++ xs.drop k
theorem spoil_at {xs : List Ln} {k : Nat} {x : Ln} (h : xs[k]? = some x) : (spoil xs k)[k]? = some x := by
  have hk := (List.getElem?_eq_some_iff.1 h).1
  unfold spoil
  rw [List.getElem?_append_right (by simp; omega)]
  simp
  rw [show k - min k xs.length = 0 by omega]
  simpa using h
theorem spoil_succ {xs : List Ln} {k : Nat} {x : Ln} (h : xs[k]? = some x) : spoil xs (k + 1) = (spoil xs k).set k { x with op := -1 } := by
  have hk := (List.getElem?_eq_some_iff.1 h).1
  unfold spoil
  rw [List.set_append_right _ _ (by simp; omega), List.length_map, List.length_take, show k - min k xs.length = 0 by omega, List.drop_eq_getElem_cons hk, List.set_cons_zero, List.take_add_one, h]
  obtain ⟨_, hx⟩ := List.getElem?_eq_some_iff.1 h
  simp
theorem spoil_len (xs : List Ln) (k : Nat) : (spoil xs k).length = xs.length := by unfold spoil; simp; omega
theorem RowL.setOp {w : World} {g o : Nat} {xs : List Ln} (h : RowL w g o xs) {k : Nat} {x : Ln} (hx : xs[k]? = some x) (v : Int) : RowL (w.setCell ⟨g, o + k * 4, none⟩ (.int .i64 v)) g o (xs.set k { x with op := v }) := by
  intro j l hj i u hu
  have e : w.setCell ⟨g, o + k * 4, none⟩ (.int .i64 v) = w.setCells g (o + k * 4) [.int .i64 v] := rfl
  have hk := (List.getElem?_eq_some_iff.1 hx).1
  have hi : i < 4 := by have := (List.getElem?_eq_some_iff.1 hu).1; rw [encL_len] at this; exact this
  rw [e, World.frozen?_setCells]
  by_cases ej : j = k
  · subst ej
    rw [List.getElem?_set_self hk] at hj
    cases hj
    have h0 := h j x hx i _ (encL_get! x i hi)
    refine ⟨?_, h0.2⟩
    by_cases ei : i = 0
    · subst ei
      have := World.cell?_setCells_in g [.int .i64 v] (o + j * 4) w (fun c hc => by
        have hc0 : c = 0 := (by simpa using hc)
        subst hc0
        rw [(h j x hx 0 _ rfl).1]; rfl) 0 (by simp)
      rw [this]
      exact hu
    · rw [World.cell?_setCells_out g [.int .i64 v] (o + j * 4) w ⟨g, o + j * 4 + i, none⟩ (fun _ _ => by simp; omega), h0.1, ← hu]
      have : i = 1 ∨ i = 2 ∨ i = 3 := by omega
      rcases this with rfl | rfl | rfl <;> rfl
  · rw [List.getElem?_set_ne (fun e2 => ej e2.symm)] at hj
    have h0 := h j l hj i u hu
    refine ⟨?_, h0.2⟩
    rw [World.cell?_setCells_out g [.int .i64 v] (o + k * 4) w ⟨g, o + j * 4 + i, none⟩ (fun _ _ => by simp; omega)]
    exact h0.1
theorem contains_take_succ {xs : List Ln} {k : Nat} {x : Ln} (h : xs[k]? = some x) (l : Ln) : (xs.take (k + 1)).contains l = ((xs.take k).contains l || decide (x = l)) := by
  rw [List.take_add_one, h, Bool.eq_iff_iff]
  simp only [List.contains_iff_mem, List.mem_append, Bool.or_eq_true, decide_eq_true_eq, Option.toList_some, List.mem_singleton]
  exact ⟨fun h => h.imp id Eq.symm, fun h => h.imp id Eq.symm⟩
theorem allR_contains (l : Ln) : allR.contains l = l.ok := by
  rw [Bool.eq_iff_iff, List.contains_iff_mem]; exact mem_allR

structure RWL (w : World) (g : Nat) (xs : List Ln) : Prop where
  row : RowL w g 0 xs
  lt : g < w.heap.size
theorem RWL.grow {w w' : World} {g : Nat} {xs : List Ln} (h : RWL w g xs) (hg : Grow w w') : RWL w' g xs := ⟨h.row.grow hg h.lt, Nat.lt_of_lt_of_le h.lt hg.sz⟩
theorem alls_step {w wr : World} {g k n : Nat} {x : Ln} {xs : List Ln} {o : Obj} (hgr : Grow w wr) (hbx : wr.heap[w.heap.size]? = some o) (hrw : RWL wr g (spoil xs k)) (hx : xs[k]? = some x) (hne : w.heap.size < g) :
    Grow w ((wr.drewN n).setCell ⟨g, k * 4, none⟩ (.int .i64 (-1))) ∧ ((wr.drewN n).setCell ⟨g, k * 4, none⟩ (.int .i64 (-1))).heap[w.heap.size]? = some o ∧ RWL ((wr.drewN n).setCell ⟨g, k * 4, none⟩ (.int .i64 (-1))) g (spoil xs (k + 1)) := by
  have h2 := hrw.grow ((Grow.refl wr).drewN n)
  refine ⟨Below.setCell (hgr.drewN n) (Nat.le_of_lt hne) _, ?_, ?_, ?_⟩
  · rw [Below.heap_setCell _ _ _ _ (by dsimp only; omega)]
    exact (Grow.blk ((Grow.refl wr).drewN n) hbx)
  · rw [spoil_succ hx]
    have := h2.row.setOp (spoil_at hx) (-1)
    rw [Nat.zero_add] at this
    exact this
  · rw [World.size_setCell]; exact h2.lt

set_option maxRecDepth 100000 in
set_option maxHeartbeats 16000000 in
theorem seekAlls_any (l0 l1 l2 l3 : Int) (w : World)  (R : Ending → World → Prop) (hR : ∀ w', Grow w w' → R (.returned (.bool true)) w') :
    Calls Try.prog 4 #[.agg #[.int .i64 l0, .int .i64 l1, .int .i64 l2, .int .i64 l3]] w R := by
  have HR := Lib.hid hR
  clear hR
  obtain ⟨N, hN⟩ : ∃ N, allR.length = N := ⟨_, rfl⟩
  have HN := Lib.hid hN
  have hNb : N ≤ 1000 := by rw [← hN]; decide +kernel
  clear hN
  go_enter Try.func4, Try.ntmps4
  go_wp2_with fail
  obtain ⟨wb0, hwb0⟩ : ∃ W, w.alloc (.cells #[.int .i64 l0, .int .i64 l1, .int .i64 l2, .int .i64 l3] 23) = W := ⟨_, rfl⟩
  rw [hwb0]
  have hgb0 : Grow w wb0 := hwb0 ▸ (Grow.refl w).alloc _
  have hsz0 : wb0.heap.size = w.heap.size + 1 := by rw [← hwb0, World.size_alloc]
  have hbb0 : wb0.heap[w.heap.size]? = some (.cells #[.int .i64 l0, .int .i64 l1, .int .i64 l2, .int .i64 l3] 23 (0, 0)) := by have h := heap_alloc_new w (.cells #[.int .i64 l0, .int .i64 l1, .int .i64 l2, .int .i64 l3] 23); rw [hwb0] at h; exact h
  clear hwb0
  have hgr1 : Grow w wb0 := by first | exact hgb0 | exact Grow.trans ((Grow.refl _).alloc _) hgb0 | exact Grow.trans (((Grow.refl _).alloc _).alloc _) hgb0 | exact Grow.trans ((((Grow.refl _).alloc _).alloc _).alloc _) hgb0 | exact Grow.trans (((((Grow.refl _).alloc _).alloc _).alloc _).alloc _) hgb0 | exact Grow.trans ((Grow.refl _).drewN _) hgb0
  have GCH1 := Lib.hid hgr1
  clear hgb0 hgr1
  obtain ⟨el0, el1, el2, el3⟩ := box4 hbb0
  have zl := lt_of_block hbb0
  have HBB0 := Lib.hid hbb0
  clear hbb0
  clear hsz0
  refine All_any _ _ ?_
  intro w2 g cap hb2 hg2 hg2b hc1 hc2 hr2
  rw [HN.out] at hc1 ⊢
  have hla : LinesAt w2 (.slice (some ⟨g, 0, none⟩) N cap) allR := by have h := hr2.slc hg2b (by rw [HN.out]; exact hc1) hc2; rw [HN.out] at h; exact h
  have hrw2 : RWL w2 g allR := ⟨hr2, hg2b⟩
  have HRW_ := Lib.hid hrw2
  have HLA_ := Lib.hid hla
  clear hr2 hla hrw2 hc1
  have hg0 : Grow wb0 w2 := hb2
  have hzg : w.heap.size < g := by have := zl; omega
  clear hb2 hg2 hg2b
  have hgr2 : Grow wb0 w2 := by first | exact hg0 | exact Grow.trans ((Grow.refl _).alloc _) hg0 | exact Grow.trans (((Grow.refl _).alloc _).alloc _) hg0 | exact Grow.trans ((((Grow.refl _).alloc _).alloc _).alloc _) hg0 | exact Grow.trans (((((Grow.refl _).alloc _).alloc _).alloc _).alloc _) hg0 | exact Grow.trans ((Grow.refl _).drewN _) hg0
  have GCH2 := Lib.hid (GCH1.out.trans hgr2)
  have hbx_2 := hgr2.blk HBB0.out
  clear el0 el1 el2 el3 zl
  obtain ⟨el0, el1, el2, el3⟩ := box4 hbx_2
  have zl := lt_of_block hbx_2
  have HBX0_2 := Lib.hid hbx_2
  clear hbx_2
  clear hg0 hgr2 GCH1 HBB0
  go_wp2_with fail
  refine rAll_any _ _ ?_
  intro wz3 x3_0 hg3 hx3_0
  have hgr3 : Grow w2 wz3 := by first | exact hg3 | exact Grow.trans ((Grow.refl _).alloc _) hg3 | exact Grow.trans (((Grow.refl _).alloc _).alloc _) hg3 | exact Grow.trans ((((Grow.refl _).alloc _).alloc _).alloc _) hg3 | exact Grow.trans (((((Grow.refl _).alloc _).alloc _).alloc _).alloc _) hg3 | exact Grow.trans ((Grow.refl _).drewN _) hg3
  have HLA_3 := Lib.hid (HLA_.out.grow hgr3)
  have HRW_3 := Lib.hid (HRW_.out.grow hgr3)
  have GCH3 := Lib.hid (GCH2.out.trans hgr3)
  have hbx_3 := hgr3.blk HBX0_2.out
  clear el0 el1 el2 el3 zl
  obtain ⟨el0, el1, el2, el3⟩ := box4 hbx_3
  have zl := lt_of_block hbx_3
  have HBX0_3 := Lib.hid hbx_3
  clear hbx_3
  clear hg3 hgr3 HLA_ HRW_ GCH2 HBX0_2
  have hyHRA_3 := hx3_0
  have HRA_3 := Lib.hid hyHRA_3
  obtain ⟨aHRA_3, cHRA_3, rfl, qHRA_31, qHRA_32, _⟩ := hyHRA_3
  clear hx3_0
  go_wp2_with fail
  refine rsame4_any allR allR _ _ _ (by first | exact HLA_3.out | exact HLA_3.out.grow ((Grow.refl _).alloc _) | exact HLA_3.out.grow (((Grow.refl _).alloc _).alloc _) | exact HLA_3.out.grow ((((Grow.refl _).alloc _).alloc _).alloc _) | exact HLA_3.out.grow (((((Grow.refl _).alloc _).alloc _).alloc _).alloc _) | exact HLA_3.out.grow ((Grow.refl _).drewN _)) (by first | exact HRA_3.out | exact HRA_3.out.grow ((Grow.refl _).alloc _) | exact HRA_3.out.grow (((Grow.refl _).alloc _).alloc _) | exact HRA_3.out.grow ((((Grow.refl _).alloc _).alloc _).alloc _) | exact HRA_3.out.grow (((((Grow.refl _).alloc _).alloc _).alloc _).alloc _) | exact HRA_3.out.grow ((Grow.refl _).drewN _)) _ ?_
  intro wz4 hg4 
  have hgr4 : Grow wz3 wz4 := by first | exact hg4 | exact Grow.trans ((Grow.refl _).alloc _) hg4 | exact Grow.trans (((Grow.refl _).alloc _).alloc _) hg4 | exact Grow.trans ((((Grow.refl _).alloc _).alloc _).alloc _) hg4 | exact Grow.trans (((((Grow.refl _).alloc _).alloc _).alloc _).alloc _) hg4 | exact Grow.trans ((Grow.refl _).drewN _) hg4
  have HLA_4 := Lib.hid (HLA_3.out.grow hgr4)
  have HRW_4 := Lib.hid (HRW_3.out.grow hgr4)
  have HRA_4 := Lib.hid (HRA_3.out.grow hgr4)
  have GCH4 := Lib.hid (GCH3.out.trans hgr4)
  have hbx_4 := hgr4.blk HBX0_3.out
  clear el0 el1 el2 el3 zl
  obtain ⟨el0, el1, el2, el3⟩ := box4 hbx_4
  have zl := lt_of_block hbx_4
  have HBX0_4 := Lib.hid hbx_4
  clear hbx_4
  clear hg4 hgr4 HLA_3 HRW_3 HRA_3 GCH3 HBX0_3
  rw [show decide (allR = allR) = true from decide_eq_true rfl]
  go_wp2_with fail
  go_loopw [4, 5] (fun f i wr => ∃ (k : Nat) (fb : Bool), k ≤ N ∧ i = .int .i64 k ∧ f = .bool fb ∧ fb = (allR.take k).contains ⟨l0, l1, l2, l3⟩ ∧ Grow w wr ∧ wr.heap[w.heap.size]? = some (.cells #[.int .i64 l0, .int .i64 l1, .int .i64 l2, .int .i64 l3] 23 (0, 0)) ∧ RWL wr g (spoil allR k)) (fun _ i _ => N - (intOf i).toNat)
  case atStart => exact ⟨0, false, by omega, rfl, rfl, rfl, GCH4.out, HBX0_4.out, HRW_4.out⟩
  case round =>
    obtain ⟨k, fb, hk, rfl, rfl, hfb, hgr, hbx, hrw⟩ := hrel
    clear el0 el1 el2 el3 zl
    obtain ⟨el0, el1, el2, el3⟩ := box4 hbx
    have zl := lt_of_block hbx
    have zg := hrw.lt
    have HGR := Lib.hid hgr
    have HBX := Lib.hid hbx
    have HRW := Lib.hid hrw
    have HFB := Lib.hid hfb
    clear hgr hbx hrw hfb
    by_cases hlt : k < N
    rotate_left
    · have hkn : k = N := by omega
      have hfin : fb = vL l0 l1 l2 l3 := by rw [HFB.out, hkn, ← HN.out, List.take_length, allR_contains]; rfl
      obtain ⟨vb, hvb⟩ : ∃ vb, vL l0 l1 l2 l3 = vb := ⟨_, rfl⟩
      have HVB := Lib.hid hvb
      rw [hvb] at hfin
      subst hfin
      clear HFB hvb HRW hkn
      clear HLA_4 HRW_4 HRA_4 GCH4 HBX0_4
      go_wp2_with fail
      refine Templates_any l0 l1 l2 l3 _ _ ?_
      intro w5 v5 hg5 hv5
      obtain ⟨a5, c5, rfl, q51, q52, _⟩ := hv5
      rw [HVB.out]
      have hgr5 : Grow wr w5 := by first | exact hg5 | exact Grow.trans ((Grow.refl _).alloc _) hg5 | exact Grow.trans (((Grow.refl _).alloc _).alloc _) hg5 | exact Grow.trans ((((Grow.refl _).alloc _).alloc _).alloc _) hg5 | exact Grow.trans (((((Grow.refl _).alloc _).alloc _).alloc _).alloc _) hg5 | exact Grow.trans ((Grow.refl _).drewN _) hg5
      have GCH5 := Lib.hid (HGR.out.trans hgr5)
      have hbx_5 := hgr5.blk HBX.out
      clear el0 el1 el2 el3 zl
      obtain ⟨el0, el1, el2, el3⟩ := box4 hbx_5
      have zl := lt_of_block hbx_5
      have HBX0_5 := Lib.hid hbx_5
      clear hbx_5
      clear hg5 hgr5 HGR HBX
      have HC5 := Lib.hid q51
      have HC52 := Lib.hid q52
      clear q51 q52
      generalize (if fb = true then tmpl ⟨l0, l1, l2, l3⟩ else []).length = n5 at HC5 ⊢
      have t1 : (fb == (errB fb == 0)) = true := by cases fb <;> rfl
      go_wp2_with fail
      refine All_any _ _ ?_
      intro w6 g6 cap6 hb6 hg6 hg6b hc61 hc62 hr6
      rw [HN.out] at hc61 ⊢
      have hla6 : LinesAt w6 (.slice (some ⟨g6, 0, none⟩) N cap6) allR := by have h := hr6.slc hg6b (by rw [HN.out]; exact hc61) hc62; rw [HN.out] at h; exact h
      have HLC_ := Lib.hid hla6
      have hg60 : Grow w5 w6 := hb6
      clear hr6 hla6 hb6 hc61
      have hgr6 : Grow w5 w6 := by first | exact hg60 | exact Grow.trans ((Grow.refl _).alloc _) hg60 | exact Grow.trans (((Grow.refl _).alloc _).alloc _) hg60 | exact Grow.trans ((((Grow.refl _).alloc _).alloc _).alloc _) hg60 | exact Grow.trans (((((Grow.refl _).alloc _).alloc _).alloc _).alloc _) hg60 | exact Grow.trans ((Grow.refl _).drewN _) hg60
      have GCH6 := Lib.hid (GCH5.out.trans hgr6)
      have hbx_6 := hgr6.blk HBX0_5.out
      clear el0 el1 el2 el3 zl
      obtain ⟨el0, el1, el2, el3⟩ := box4 hbx_6
      have zl := lt_of_block hbx_6
      have HBX0_6 := Lib.hid hbx_6
      clear hbx_6
      clear hg60 hgr6 GCH5 HBX0_5
      go_wp2_with fail
      refine rAll_any _ _ ?_
      intro wz7 x7_0 hg7 hx7_0
      have hgr7 : Grow w6 wz7 := by first | exact hg7 | exact Grow.trans ((Grow.refl _).alloc _) hg7 | exact Grow.trans (((Grow.refl _).alloc _).alloc _) hg7 | exact Grow.trans ((((Grow.refl _).alloc _).alloc _).alloc _) hg7 | exact Grow.trans (((((Grow.refl _).alloc _).alloc _).alloc _).alloc _) hg7 | exact Grow.trans ((Grow.refl _).drewN _) hg7
      have HLC_7 := Lib.hid (HLC_.out.grow hgr7)
      have GCH7 := Lib.hid (GCH6.out.trans hgr7)
      have hbx_7 := hgr7.blk HBX0_6.out
      clear el0 el1 el2 el3 zl
      obtain ⟨el0, el1, el2, el3⟩ := box4 hbx_7
      have zl := lt_of_block hbx_7
      have HBX0_7 := Lib.hid hbx_7
      clear hbx_7
      clear hg7 hgr7 HLC_ GCH6 HBX0_6
      have hyHRD_7 := hx7_0
      have HRD_7 := Lib.hid hyHRD_7
      obtain ⟨aHRD_7, cHRD_7, rfl, qHRD_71, qHRD_72, _⟩ := hyHRD_7
      clear hx7_0
      go_wp2_with fail
      refine rsame4_any allR allR _ _ _ (by first | exact HLC_7.out | exact HLC_7.out.grow ((Grow.refl _).alloc _) | exact HLC_7.out.grow (((Grow.refl _).alloc _).alloc _) | exact HLC_7.out.grow ((((Grow.refl _).alloc _).alloc _).alloc _) | exact HLC_7.out.grow (((((Grow.refl _).alloc _).alloc _).alloc _).alloc _) | exact HLC_7.out.grow ((Grow.refl _).drewN _)) (by first | exact HRD_7.out | exact HRD_7.out.grow ((Grow.refl _).alloc _) | exact HRD_7.out.grow (((Grow.refl _).alloc _).alloc _) | exact HRD_7.out.grow ((((Grow.refl _).alloc _).alloc _).alloc _) | exact HRD_7.out.grow (((((Grow.refl _).alloc _).alloc _).alloc _).alloc _) | exact HRD_7.out.grow ((Grow.refl _).drewN _)) _ ?_
      intro wz8 hg8 
      have hgr8 : Grow wz7 wz8 := by first | exact hg8 | exact Grow.trans ((Grow.refl _).alloc _) hg8 | exact Grow.trans (((Grow.refl _).alloc _).alloc _) hg8 | exact Grow.trans ((((Grow.refl _).alloc _).alloc _).alloc _) hg8 | exact Grow.trans (((((Grow.refl _).alloc _).alloc _).alloc _).alloc _) hg8 | exact Grow.trans ((Grow.refl _).drewN _) hg8
      have HLC_8 := Lib.hid (HLC_7.out.grow hgr8)
      have HRD_8 := Lib.hid (HRD_7.out.grow hgr8)
      have GCH8 := Lib.hid (GCH7.out.trans hgr8)
      have hbx_8 := hgr8.blk HBX0_7.out
      clear el0 el1 el2 el3 zl
      obtain ⟨el0, el1, el2, el3⟩ := box4 hbx_8
      have zl := lt_of_block hbx_8
      have HBX0_8 := Lib.hid hbx_8
      clear hbx_8
      clear hg8 hgr8 HLC_7 HRD_7 GCH7 HBX0_7
      rw [show decide (allR = allR) = true from decide_eq_true rfl]
      go_wp2_with fail
      refine ssame_any _ _ ?_
      intro wz9 hg9 
      have hgr9 : Grow wz8 wz9 := by first | exact hg9 | exact Grow.trans ((Grow.refl _).alloc _) hg9 | exact Grow.trans (((Grow.refl _).alloc _).alloc _) hg9 | exact Grow.trans ((((Grow.refl _).alloc _).alloc _).alloc _) hg9 | exact Grow.trans (((((Grow.refl _).alloc _).alloc _).alloc _).alloc _) hg9 | exact Grow.trans ((Grow.refl _).drewN _) hg9
      have HLC_9 := Lib.hid (HLC_8.out.grow hgr9)
      have HRD_9 := Lib.hid (HRD_8.out.grow hgr9)
      have GCH9 := Lib.hid (GCH8.out.trans hgr9)
      have hbx_9 := hgr9.blk HBX0_8.out
      clear el0 el1 el2 el3 zl
      obtain ⟨el0, el1, el2, el3⟩ := box4 hbx_9
      have zl := lt_of_block hbx_9
      have HBX0_9 := Lib.hid hbx_9
      clear hbx_9
      clear hg9 hgr9 HLC_8 HRD_8 GCH8 HBX0_8
      go_wp2_with fail
      first | exact HR.out _ (GCH9.out) | exact HR.out _ (Grow.trans GCH9.out ((Grow.refl _).alloc _)) | exact HR.out _ (Grow.trans GCH9.out (((Grow.refl _).alloc _).alloc _)) | exact HR.out _ (Grow.trans GCH9.out ((((Grow.refl _).alloc _).alloc _).alloc _)) | exact HR.out _ (Grow.trans GCH9.out (((((Grow.refl _).alloc _).alloc _).alloc _).alloc _)) | exact HR.out _ (Grow.trans GCH9.out ((Grow.refl _).drewN _))
    · obtain ⟨⟨o', d', a', b'⟩, hx⟩ : ∃ x, allR[k]? = some x := ⟨_, List.getElem?_eq_getElem (by rw [HN.out]; exact hlt)⟩
      obtain ⟨⟨f0, f1, f2, f3⟩, z0, z1, z2, z3⟩ := HRW.out.row.at (spoil_at hx)
      simp only [Nat.zero_add] at f0 f1 f2 f3 z0 z1 z2 z3
      have HX := Lib.hid hx
      clear hx
      have hkn : (k : Int) < (N : Int) := by omega
      clear HLA_4 HRW_4 HRA_4 GCH4 HBX0_4
      cases fb with
      | true =>
        go_wp2_with (go_quiet (fail))
        go_roundw
        case rel =>
          obtain ⟨s1, s2, s3⟩ := alls_step HGR.out HBX.out HRW.out HX.out hzg
          exact ⟨k + 1, true, by omega, by go_num, rfl, by rw [contains_take_succ HX.out, ← HFB.out]; simp, s1, s2, s3⟩
        case measure => simp [intOf]; omega
      | false =>
        by_cases heq : (⟨o', d', a', b'⟩ : Ln) = ⟨l0, l1, l2, l3⟩
        · have HEQ := Lib.hid heq
          simp only [Ln.mk.injEq] at heq
          obtain ⟨rfl, rfl, rfl, rfl⟩ := heq
          go_wp2_with (go_quiet (fail))
          go_roundw
          case rel =>
            obtain ⟨s1, s2, s3⟩ := alls_step HGR.out HBX.out HRW.out HX.out hzg
            exact ⟨k + 1, true, by omega, by go_num, rfl, by rw [contains_take_succ HX.out, ← HFB.out]; simp, s1, s2, s3⟩
          case measure => simp [intOf]; omega
        have HNE := Lib.hid heq
        clear heq
        by_cases gq0 : o' = l0
        rotate_left
        · have tq1 : (o' == l0) = false := by simpa using gq0
          have tq2 : (o' != l0) = true := by simpa using gq0
          go_wp2_with (go_quiet (fail))
          go_roundw
          case rel =>
            obtain ⟨s1, s2, s3⟩ := alls_step HGR.out HBX.out HRW.out HX.out hzg
            exact ⟨k + 1, false, by omega, by go_num, rfl, by rw [contains_take_succ HX.out, ← HFB.out]; rw [decide_eq_false HNE.out]; rfl, s1, s2, s3⟩
          case measure => simp [intOf]; omega
        subst gq0
        by_cases gq1 : d' = l1
        rotate_left
        · have tq1 : (d' == l1) = false := by simpa using gq1
          have tq2 : (d' != l1) = true := by simpa using gq1
          go_wp2_with (go_quiet (fail))
          go_roundw
          case rel =>
            obtain ⟨s1, s2, s3⟩ := alls_step HGR.out HBX.out HRW.out HX.out hzg
            exact ⟨k + 1, false, by omega, by go_num, rfl, by rw [contains_take_succ HX.out, ← HFB.out]; rw [decide_eq_false HNE.out]; rfl, s1, s2, s3⟩
          case measure => simp [intOf]; omega
        subst gq1
        by_cases gq2 : a' = l2
        rotate_left
        · have tq1 : (a' == l2) = false := by simpa using gq2
          have tq2 : (a' != l2) = true := by simpa using gq2
          go_wp2_with (go_quiet (fail))
          go_roundw
          case rel =>
            obtain ⟨s1, s2, s3⟩ := alls_step HGR.out HBX.out HRW.out HX.out hzg
            exact ⟨k + 1, false, by omega, by go_num, rfl, by rw [contains_take_succ HX.out, ← HFB.out]; rw [decide_eq_false HNE.out]; rfl, s1, s2, s3⟩
          case measure => simp [intOf]; omega
        subst gq2
        by_cases gq3 : b' = l3
        rotate_left
        · have tq1 : (b' == l3) = false := by simpa using gq3
          have tq2 : (b' != l3) = true := by simpa using gq3
          go_wp2_with (go_quiet (fail))
          go_roundw
          case rel =>
            obtain ⟨s1, s2, s3⟩ := alls_step HGR.out HBX.out HRW.out HX.out hzg
            exact ⟨k + 1, false, by omega, by go_num, rfl, by rw [contains_take_succ HX.out, ← HFB.out]; rw [decide_eq_false HNE.out]; rfl, s1, s2, s3⟩
          case measure => simp [intOf]; omega
        subst gq3
        exact absurd rfl HNE.out
end Go.Proofs.Ytbccbokjecdaaaa
