/- The walk of the document's answer to Slice. -/
import Derived.Test.YtmlbgfnddgbpbaaGreatD02
import Derived.Test.YtmlbgfnddgbpbaaGreatD24
import Derived.Test.YtmlbgfnddgbpbaaGreatD00
namespace Go.Proofs.YtmlbgfnddgbpbaaGreat
open Go.RowKit

theorem StepsAt.grow {w w' : World} {base : Nat} {x : Value} {vs : List (Nat × St)} (h : StepsAt w base x vs) (g : Grow w w') : StepsAt w' base x vs :=
  let ⟨ps, h1, h2, h3⟩ := h
  ⟨ps, g.owns h1, h2, fun j p v hp hv => ⟨(h3 j p v hp hv).1, g.owns (h3 j p v hp hv).2⟩⟩
theorem StepsAt.set {w : World} {base : Nat} {x : Value} {vs : List (Nat × St)} (h : StepsAt w base x vs) {b i : Nat} (hb : b < base) (u : Value) : StepsAt (w.setCell ⟨b, i, none⟩ u) base x vs :=
  let ⟨ps, h1, h2, h3⟩ := h
  ⟨ps, ownsRow_setCell_below h1 (by simpa using hb) _, h2, fun j p v hp hv => ⟨(h3 j p v hp hv).1, ownsRow_setCell_below (h3 j p v hp hv).2 (by simpa using hb) _⟩⟩

/-- Where the walk back stands. -/
structure RsI (w : World) (bm bi B : Nat) (sx : Value) (vs : List (Nat × St)) (m : Ms) (bs : List Bool) (W : World) : Prop where
  grow : Grow w W
  mm : W.heap[bm]? = some (.cells (arrM m) 4 (0, 0))
  ins : W.heap[bi]? = some (.cells (arrB bs) 4 (0, 0))
  steps : StepsAt W B sx vs
theorem RsI.next {w : World} {bm bi B : Nat} {sx : Value} {vs : List (Nat × St)} {m : Ms} {bs : List Bool} {W W' : World} (h : RsI w bm bi B sx vs m bs W) (g : Grow W W') : RsI w bm bi B sx vs m bs W' :=
  ⟨h.grow.trans g, g.blk h.mm, g.blk h.ins, h.steps.grow g⟩
theorem RsI.setM {w : World} {bm bi B : Nat} {sx : Value} {vs : List (Nat × St)} {m : Ms} {bs : List Bool} {W : World} (h : RsI w bm bi B sx vs m bs W) (h1 : w.heap.size ≤ bm) (h2 : bm ≠ bi) (h3 : bm < B) (r : Int) (x : Bool) (r0 : 0 ≤ r) (r3 : r ≤ 3) : RsI w bm bi B sx vs (m.set r x) bs (W.setCell ⟨bm, r.toNat, none⟩ (.bool x)) :=
  ⟨Below.setCell h.grow h1 _, arrM_set h.mm r x r0 r3, by rw [Below.heap_setCell _ _ _ _ (by simpa using h2.symm)]; exact h.ins, h.steps.set h3 _⟩
theorem RsI.setI {w : World} {bm bi B : Nat} {sx : Value} {vs : List (Nat × St)} {m : Ms} {bs : List Bool} {W : World} (h : RsI w bm bi B sx vs m bs W) (h1 : w.heap.size ≤ bi) (h2 : bm ≠ bi) (h3 : bi < B) (k : Nat) (x : Bool) : RsI w bm bi B sx vs m (bs.set k x) (W.setCell ⟨bi, k, none⟩ (.bool x)) :=
  ⟨Below.setCell h.grow h1 _, by rw [Below.heap_setCell _ _ _ _ (by simpa using h2)]; exact h.mm, arrB_set h.ins k x, h.steps.set h3 _⟩

theorem mk_bools0 (W : World) : (Instr.makeSlice 128 (.int .i64 ((0 : Nat) : Int)) (.int .i64 ((0 : Nat) : Int))).run Tryz.prog W = .ok (.slice (some ⟨W.heap.size, 0, none⟩) 0 0) (W.alloc (.cells (arrB (List.replicate 0 false)) 4)) := by kernel_rfl
theorem mk_bools1 (W : World) : (Instr.makeSlice 128 (.int .i64 ((1 : Nat) : Int)) (.int .i64 ((1 : Nat) : Int))).run Tryz.prog W = .ok (.slice (some ⟨W.heap.size, 0, none⟩) 1 1) (W.alloc (.cells (arrB (List.replicate 1 false)) 4)) := by kernel_rfl
theorem mk_bools2 (W : World) : (Instr.makeSlice 128 (.int .i64 ((2 : Nat) : Int)) (.int .i64 ((2 : Nat) : Int))).run Tryz.prog W = .ok (.slice (some ⟨W.heap.size, 0, none⟩) 2 2) (W.alloc (.cells (arrB (List.replicate 2 false)) 4)) := by kernel_rfl
theorem mk_bools3 (W : World) : (Instr.makeSlice 128 (.int .i64 ((3 : Nat) : Int)) (.int .i64 ((3 : Nat) : Int))).run Tryz.prog W = .ok (.slice (some ⟨W.heap.size, 0, none⟩) 3 3) (W.alloc (.cells (arrB (List.replicate 3 false)) 4)) := by kernel_rfl
theorem mk_bools4 (W : World) : (Instr.makeSlice 128 (.int .i64 ((4 : Nat) : Int)) (.int .i64 ((4 : Nat) : Int))).run Tryz.prog W = .ok (.slice (some ⟨W.heap.size, 0, none⟩) 4 4) (W.alloc (.cells (arrB (List.replicate 4 false)) 4)) := by kernel_rfl
theorem mk_bools5 (W : World) : (Instr.makeSlice 128 (.int .i64 ((5 : Nat) : Int)) (.int .i64 ((5 : Nat) : Int))).run Tryz.prog W = .ok (.slice (some ⟨W.heap.size, 0, none⟩) 5 5) (W.alloc (.cells (arrB (List.replicate 5 false)) 4)) := by kernel_rfl
theorem mk_bools6 (W : World) : (Instr.makeSlice 128 (.int .i64 ((6 : Nat) : Int)) (.int .i64 ((6 : Nat) : Int))).run Tryz.prog W = .ok (.slice (some ⟨W.heap.size, 0, none⟩) 6 6) (W.alloc (.cells (arrB (List.replicate 6 false)) 4)) := by kernel_rfl
theorem mk_bools7 (W : World) : (Instr.makeSlice 128 (.int .i64 ((7 : Nat) : Int)) (.int .i64 ((7 : Nat) : Int))).run Tryz.prog W = .ok (.slice (some ⟨W.heap.size, 0, none⟩) 7 7) (W.alloc (.cells (arrB (List.replicate 7 false)) 4)) := by kernel_rfl
theorem mk_bools8 (W : World) : (Instr.makeSlice 128 (.int .i64 ((8 : Nat) : Int)) (.int .i64 ((8 : Nat) : Int))).run Tryz.prog W = .ok (.slice (some ⟨W.heap.size, 0, none⟩) 8 8) (W.alloc (.cells (arrB (List.replicate 8 false)) 4)) := by kernel_rfl
theorem mk_bools (n : Nat) (hn : n ≤ 8) (W : World) : (Instr.makeSlice 128 (.int .i64 (n : Int)) (.int .i64 (n : Int))).run Tryz.prog W = .ok (.slice (some ⟨W.heap.size, 0, none⟩) n n) (W.alloc (.cells (arrB (List.replicate n false)) 4)) := by
  have : n = 0 ∨ n = 1 ∨ n = 2 ∨ n = 3 ∨ n = 4 ∨ n = 5 ∨ n = 6 ∨ n = 7 ∨ n = 8 := by omega
  rcases this with rfl | rfl | rfl | rfl | rfl | rfl | rfl | rfl | rfl
  · exact mk_bools0 W
  · exact mk_bools1 W
  · exact mk_bools2 W
  · exact mk_bools3 W
  · exact mk_bools4 W
  · exact mk_bools5 W
  · exact mk_bools6 W
  · exact mk_bools7 W
  · exact mk_bools8 W


set_option maxRecDepth 100000 in
set_option maxHeartbeats 8000000 in
theorem rSliceO_any (p : List Ln) (s : List Int) (r : Int) (v u : Value) (w : World) (hp : LinesAt w v p) (hs : IntsAt w u s) (R : Ending → World → Prop)
    (hR : ∀ w' x, Grow w w' → OwnI w.heap.size w' x (ifOK (sliceE p s r) (sliceM p s r)) → R (.returned (.tuple #[x, .int .i64 (sliceE p s r)])) w') :
    Calls Tryz.prog 110 #[v, u, .int .i64 r] w R := by
  have HP := Lib.hid hp
  have HS := Lib.hid hs
  have HR := Lib.hid hR
  obtain ⟨pa, pc, rfl, p1, p2, _⟩ := hp
  obtain ⟨sa, sc, rfl, s1, s2, _⟩ := hs
  clear hR
  by_cases hck : chk p s = 0
  rotate_left
  · have hE : sliceE p s r = chk p s := by unfold sliceE; rw [if_neg hck]
    have hM : ifOK (sliceE p s r) (sliceM p s r) = [] := by rw [hE]; exact ifOK_err hck _
    have HRR := HR.out
    rw [hM, hE] at HRR
    generalize he : chk p s = e at hck HRR
    have HR2 := Lib.hid HRR
    have HCE := Lib.hid he
    have t1 : (e == 0) = false := by simpa using hck
    have t2 : (e != 0) = true := by simpa using hck
    clear HRR HR hE hM he
    go_enter Tryz.func110, Tryz.ntmps110
    go_wp2_with fail
    refine rasked_any p s _ _ _ HP.out HS.out _ ?_
    intro w1 hg1
    rw [HCE.out]
    go_wp2_with fail
    exact HR2.out _ _ hg1 (Own.nil _ _ _ _)
  have HCK := Lib.hid hck
  have hp8 := (valP_ok.1 (chk_ok.1 hck).1).1
  cases hin : inB r 0 3 with
  | false =>
    have hE : sliceE p s r = 1 := by unfold sliceE; rw [if_pos hck, hin]; rfl
    have hM : ifOK (sliceE p s r) (sliceM p s r) = [] := by rw [hE]; exact ifOK_err (by decide) _
    have HRR := HR.out
    rw [hM, hE] at HRR
    have HR2 := Lib.hid HRR
    have HIN := Lib.hid hin
    clear HRR HR hE hM hin hck
    go_enter Tryz.func110, Tryz.ntmps110
    go_wp2_with fail
    refine rasked_any p s _ _ _ HP.out HS.out _ ?_
    intro w1 hg1
    rw [HCK.out]
    go_wp2_with fail
    refine risRegister_any r _ _ ?_
    rw [HIN.out]
    go_wp2_with fail
    exact HR2.out _ _ hg1 (Own.nil _ _ _ _)
  | true =>
  have hE : sliceE p s r = 0 := by unfold sliceE; rw [if_pos hck, hin]; rfl
  have HRR := HR.out
  rw [hE, ifOK_ok, ← setL_slice] at HRR
  have HR2 := Lib.hid HRR
  have HIN := Lib.hid hin
  obtain ⟨r0, r3⟩ := inB_true.1 hin
  have r4 : r < 4 := by omega
  clear HRR HR hE hin hck
  have hmk : ∀ W, (Instr.makeSlice 128 (.int .i64 4) (.int .i64 4)).run Tryz.prog W = .ok (.slice (some ⟨W.heap.size, 0, none⟩) 4 4) (W.alloc (.cells #[.bool false, .bool false, .bool false, .bool false] 4)) := fun W => by kernel_rfl
  have hmk2 := mk_bools p.length hp8
  go_enter Tryz.func110, Tryz.ntmps110
  go_wp2_with fail
  refine rasked_any p s _ _ _ HP.out HS.out _ ?_
  intro w1 hg1
  rw [HCK.out]
  have HG1 := Lib.hid hg1
  clear hg1
  go_wp2_with fail
  refine risRegister_any r _ _ ?_
  rw [HIN.out]
  obtain ⟨q, hq, hqf⟩ := St.of_valS (chk_ok.1 HCK.out).2
  have HQ := Lib.hid hq
  clear hq
  go_wp2_with fail
  clear hmk hmk2
  refine rtrace_any p q [] [] _ _ _ _ _ (HP.out.grow (Grow.trans HG1.out (((Grow.refl _).alloc _).alloc _))) (by rw [HQ.out]; exact HS.out.grow (Grow.trans HG1.out (((Grow.refl _).alloc _).alloc _))) (SlcAt.nil _ _ _) (SlcAt.nil _ _ _) rfl hp8 (valP_ok.1 (chk_ok.1 HCK.out).1).2 hqf (by simp) _ ?_
  intro w3 x y hg3 hst ho
  have hsz1 := HG1.out.sz
  have hmm := hg3.blk (heap_two0 w1 _ _)
  have hins := hg3.blk (heap_two1 w1 _ _)
  rw [World.size_alloc, World.size_alloc] at hst
  have hm0 : ([Value.bool false, Value.bool false, Value.bool false, Value.bool false].set r.toNat (.bool true)).toArray = arrM (Ms.set ⟨false, false, false, false⟩ r true) := by
    have : r = 0 ∨ r = 1 ∨ r = 2 ∨ r = 3 := by omega
    rcases this with rfl | rfl | rfl | rfl <;> rfl
  rw [hm0] at hmm
  rw [← marks_nil] at hins
  have hvs : (trc p (frc [] []) 0 q).1 = visits p s := by rw [← HQ.out]; rfl
  rw [hvs] at hst
  have hg13 : Grow w w3 := HG1.out.trans (Grow.trans (((Grow.refl _).alloc _).alloc _) hg3)
  have hI0 : RsI w w1.heap.size (w1.heap.size + 1) (w1.heap.size + 1 + 1) x (visits p s) (Ms.set ⟨false, false, false, false⟩ r true) (marks p.length []) w3 := ⟨hg13, hmm, hins, hst⟩
  obtain ⟨xa, xc, rfl, _, _⟩ := hst.read.at
  have hvl := visits_length p s
  have hvt := visits_lt p s
  clear ho hm0 hvs hst hmm hins hg13 hg3
  generalize visits p s = vs at hI0 HR2 hvl hvt ⊢
  generalize Ms.set ⟨false, false, false, false⟩ r true = m0 at hI0 HR2
  generalize w1.heap.size = bm at hI0 hsz1 ⊢
  have hI1 : RsI w bm (bm + 1) (bm + 2) (.slice xa vs.length xc) vs (accAt p vs m0 vs.length).1 (marks p.length (accAt p vs m0 vs.length).2) w3 := by rw [accAt_end]; exact hI0
  have HI1 := Lib.hid hI1
  have HVT := Lib.hid hvt
  clear hI0 hI1 hvt
  go_wp2_with fail
  go_loopw [13] (fun iv wr => ∃ k : Nat, k ≤ vs.length ∧ iv = .int .i64 ((k : Int) - 1) ∧ RsI w bm (bm + 1) (bm + 2) (.slice xa vs.length xc) vs (accAt p vs m0 k).1 (marks p.length (accAt p vs m0 k).2) wr) (fun iv _ => (intOf iv + 1).toNat)
  case atStart => exact ⟨vs.length, Nat.le_refl _, rfl, HI1.out⟩
  case round =>
    obtain ⟨k, hk, rfl, hI⟩ := hrel
    have HI := Lib.hid hI
    have hbl : bm + 1 < wr.heap.size := lt_of_block hI.ins
    clear hI
    cases k with
    | zero =>
      rw [show ((0 : Nat) : Int) - 1 = -1 from rfl]
      have hbs := arrB_slc HI.out.ins (by rw [marks_length]; omega)
      rw [marks_length] at hbs
      have HBS := Lib.hid hbs
      clear hbs
      go_wp2_with fail
      refine rset_any _ _ _ HBS.out (by rw [marks_length]; omega) _ ?_
      intro w6 y6 hg6 ho6
      have HF := Lib.hid (HR2.out w6 y6 (HI.out.grow.trans hg6) (ho6.mono (by have := HI.out.grow.sz; omega)))
      clear hg6 ho6
      go_wp2_with fail
      exact HF.out
    | succ j =>
      rw [show ((j + 1 : Nat) : Int) - 1 = (j : Int) by omega]
      obtain ⟨⟨ln, st⟩, hv⟩ : ∃ v, vs[j]? = some v := ⟨_, List.getElem?_eq_getElem (by omega)⟩
      have hlt := HVT.out _ (List.mem_of_getElem? hv)
      dsimp only at hlt
      obtain ⟨⟨op, d, a, b⟩, hl⟩ : ∃ l, p[ln]? = some l := ⟨_, List.getElem?_eq_getElem hlt⟩
      have hok := (valP_ok.1 (chk_ok.1 HCK.out).1).2 _ (List.mem_of_getElem? hl)
      obtain ⟨o0, o7, od, _⟩ := ok_rd hok
      obtain ⟨o2, o3⟩ := ok_args (op := op) (d := d) (a := a) (b := b) hok
      have hwr := wrB_of_ok (op := op) (d := d) (a := a) (b := b) hok
      obtain ⟨a2, c2, e0, _, hat⟩ := HI.out.steps.read.at
      cases e0
      obtain ⟨sb, so, _, _, rfl, k0, _, _⟩ := hat j _ hv
      obtain ⟨pb, po, rfl, hpb, f0, f1, f2, f3⟩ := lines_at (HP.out.grow HI.out.grow) hl
      have hsb : sb < wr.heap.size := World.block_lt_of_cell? _ _ k0
      have hstep := accAt_step p vs m0 hv
      obtain ⟨⟨m, l⟩, hacc⟩ : ∃ z, accAt p vs m0 (j + 1) = z := ⟨_, rfl⟩
      have hI := HI.out
      rw [hacc] at hstep hI
      dsimp only at hI
      have hss : sliceStep p (m, l) (ln, st) = if op ≠ 7 ∧ (wrB op = false ∨ m.get d = false) then (m, l) else ((rdL op a b).foldl (fun m r => m.set r true) (if wrB op then m.set d false else m), l ++ [(ln : Int)]) := by
        unfold sliceStep; rw [show p[(ln, st).1]? = some ⟨op, d, a, b⟩ from hl]
      rw [hss] at hstep
      have HSTEP := Lib.hid hstep
      have HVJ := Lib.hid hv
      have HI2 := Lib.hid hI
      have HWR := Lib.hid hwr
      have HOK := Lib.hid hok
      have hlm : ln < (marks p.length l).length := by rw [marks_length]; exact hlt
      have kin := arrB_cell hI.ins (List.getElem?_eq_getElem hlm)
      have fin := arrB_free hI.ins ln
      generalize (marks p.length l)[ln] = old at kin
      have hne1 : wr.heap.size ≠ bm + 1 := by omega
      have hne2 : bm + 1 ≠ wr.heap.size := by omega
      clear hv hl hok hwr hat hstep hacc hI hss hlm HI
      by_cases h7 : op = 7
      · subst h7
        go_upto_region 16 with (fail)
        have hI3 := HI2.out.setI (by omega) (by omega) (by omega) ln true
        rw [← marks_snoc] at hI3
        generalize hW1 : wr.setCell ⟨bm + 1, ln, none⟩ (.bool true) = W1 at hI3 ⊢
        have hsW : W1.heap.size = wr.heap.size := by rw [← hW1, World.size_setCell]
        have hbx := heap_alloc_new W1 (.cells #[.int .i64 7, .int .i64 d, .int .i64 a, .int .i64 b] 67)
        rw [hsW] at hbx
        have hI4 := hI3.next ((Grow.refl W1).alloc (.cells #[.int .i64 7, .int .i64 d, .int .i64 a, .int .i64 b] 67))
        generalize hW2 : W1.alloc (.cells #[.int .i64 7, .int .i64 d, .int .i64 a, .int .i64 b] 67) = W2 at hI4 hbx ⊢
        obtain ⟨g0, g1, g2, g3⟩ := box_cells hbx
        have hzb := lt_of_block hbx
        have HBX := Lib.hid hbx
        have HI4 := Lib.hid hI4
        clear hW1 hW2 hsW hbx hI3 hI4 f0 f1 f2 f3 k0 kin fin
        go_wp2_with fail
        refine rwrites_any 7 d a b _ _ ?_
        intro wc hgc
        rw [HWR.out, show wrB 7 = false from rfl]
        have hbx := hgc.blk HBX.out
        clear g0 g1 g2 g3 hzb
        obtain ⟨g0, g1, g2, g3⟩ := box_cells hbx
        have hzb := lt_of_block hbx
        have HI3 := Lib.hid (HI4.out.next hgc)
        have hcond : ¬ ((7 : Int) ≠ 7 ∧ (wrB 7 = false ∨ m.get d = false)) := fun h => h.1 rfl
        have HCOND := Lib.hid hcond
        clear hgc hbx hcond
        go_wp2_with fail
        refine rreads_any 7 d a b _ o2 o3 _ ?_
        intro w6 hg6 hi6
        have hbr : bm + 1 < wc.heap.size + 1 := by have := lt_of_block HI3.out.ins; omega
        have HI6 := Lib.hid (HI3.out.next hg6)
        generalize wc.heap.size + 1 = br at hi6 hbr ⊢
        have HR6 := Lib.hid hi6
        have hzr := lt_of_block hi6
        clear hg6 hi6
        go_wp2_with fail
        go_loopw [16] (fun iv wr => ∃ k : Nat, k ≤ 4 ∧ iv = .int .i64 k ∧ RsI w bm (bm + 1) (bm + 2) (.slice (some ⟨sb, so, none⟩) vs.length xc) vs (Ms.orN (m) (rdM 7 a b) k) (marks p.length (l ++ [(ln : Int)])) wr ∧ wr.heap[br]? = some (.cells (arrM (rdM 7 a b)) 4 (0, 0))) (fun iv _ => 4 - (intOf iv).toNat)
        case atStart => exact ⟨0, by omega, rfl, by rw [Ms.orN_zero]; exact HI6.out, HR6.out⟩
        case round =>
          obtain ⟨k, hk4, rfl, hIk, hRk⟩ := hrel
          have HIK := Lib.hid hIk
          have HRK := Lib.hid hRk
          by_cases hlt4 : k < 4
          · have c0 := arrM_cell hIk.mm (k : Int) (by omega) (by omega)
            have c1 := arrM_cell hRk (k : Int) (by omega) (by omega)
            have c2 := arrM_free hIk.mm k
            rw [Int.toNat_natCast] at c0 c1
            obtain ⟨x1, hx1⟩ : ∃ z, (Ms.orN (m) (rdM 7 a b) k).get k = z := ⟨_, rfl⟩
            obtain ⟨x2, hx2⟩ : ∃ z, (rdM 7 a b).get k = z := ⟨_, rfl⟩
            rw [hx1] at c0
            rw [hx2] at c1
            have HX1 := Lib.hid hx1
            have HX2 := Lib.hid hx2
            clear hIk hRk hx1 hx2
            cases x1 with
            | true =>
              go_wp2_with fail
              go_roundw
              case rel =>
                have h := HIK.out.setM (by omega) (by omega) (by omega) (k : Int) true (by omega) (by omega)
                rw [Int.toNat_natCast] at h
                refine ⟨k + 1, by omega, by go_num, ?_, by rw [Below.heap_setCell _ _ _ _ (by simp; omega)]; exact HRK.out⟩
                rw [Ms.orN_succ _ _ hlt4, HX1.out]; exact h
              case measure => simp [intOf]; omega
            | false =>
              go_wp2_with fail
              go_roundw
              case rel =>
                have h := HIK.out.setM (by omega) (by omega) (by omega) (k : Int) x2 (by omega) (by omega)
                rw [Int.toNat_natCast] at h
                refine ⟨k + 1, by omega, by go_num, ?_, by rw [Below.heap_setCell _ _ _ _ (by simp; omega)]; exact HRK.out⟩
                rw [Ms.orN_succ _ _ hlt4, HX1.out, HX2.out]; exact h
              case measure => simp [intOf]; omega
          · have hke : k = 4 := by omega
            subst hke
            clear hIk hRk
            go_wp2_with fail
            go_roundw
            case rel =>
              refine ⟨j, by omega, rfl, ?_⟩
              have h := HIK.out
              rw [orN_rdM o2 o3] at h
              rw [HSTEP.out, if_neg HCOND.out]
              first | exact h | (rw [if_pos HW.out]; exact h)
            case measure => simp [intOf]
      · have t7 : (op == 7) = false := by simpa using h7
        have t8 : (op != 7) = true := by simpa using h7
        cases hw : wrB op with
        | false =>
          have hcond : op ≠ 7 ∧ (wrB op = false ∨ m.get d = false) := ⟨h7, .inl hw⟩
          have HCOND := Lib.hid hcond
          rw [hw] at HWR
          clear hcond hw kin fin
          go_wp2_with fail
          refine rwrites_any op d a b _ _ ?_
          intro wc hgc
          rw [HWR.out]
          have HI5 := Lib.hid (HI2.out.next (Grow.trans ((Grow.refl _).alloc _) hgc))
          clear hgc
          go_wp2_with fail
          go_roundw
          case rel => exact ⟨j, by omega, rfl, by rw [HSTEP.out, if_pos HCOND.out]; exact HI5.out⟩
          case measure => simp [intOf]
        | true =>
          obtain ⟨d0, d3⟩ := od hw
          have d4 : d < 4 := by omega
          have HW := Lib.hid hw
          rw [hw] at HWR
          cases hmd : m.get d with
          | false =>
            have hcond : op ≠ 7 ∧ (wrB op = false ∨ m.get d = false) := ⟨h7, .inr hmd⟩
            have HCOND := Lib.hid hcond
            have HMD := Lib.hid hmd
            clear hcond hw kin fin hmd
            go_wp2_with fail
            refine rwrites_any op d a b _ _ ?_
            intro wc hgc
            rw [HWR.out]
            have hI5 := HI2.out.next (Grow.trans ((Grow.refl _).alloc _) hgc)
            have cd := arrM_cell hI5.mm d d0 d3
            rw [HMD.out] at cd
            have hbx := hgc.blk (heap_alloc_new wr _)
            obtain ⟨g0, g1, g2, g3⟩ := box_cells hbx
            have hzb := lt_of_block hbx
            have HI5 := Lib.hid hI5
            clear hgc hI5 hbx
            go_wp2_with fail
            go_roundw
            case rel => exact ⟨j, by omega, rfl, by rw [HSTEP.out, if_pos HCOND.out]; exact HI5.out⟩
            case measure => simp [intOf]
          | true =>
            have hcond : ¬ (op ≠ 7 ∧ (wrB op = false ∨ m.get d = false)) := by rw [hw, hmd]; simp
            have HCOND := Lib.hid hcond
            have HMD := Lib.hid hmd
            clear hcond hw hmd kin fin
            go_wp2_with fail
            refine rwrites_any op d a b _ _ ?_
            intro wc hgc
            rw [HWR.out]
            have hI5 := HI2.out.next (Grow.trans ((Grow.refl _).alloc _) hgc)
            have cd := arrM_cell hI5.mm d d0 d3
            rw [HMD.out] at cd
            have zd := arrM_free hI5.mm d.toNat
            have hbx := hgc.blk (heap_alloc_new wr _)
            obtain ⟨g0, g1, g2, g3⟩ := box_cells hbx
            have hzb := lt_of_block hbx
            have hlm : ln < (marks p.length l).length := by rw [marks_length]; exact hlt
            have kin := arrB_cell hI5.ins (List.getElem?_eq_getElem hlm)
            have fin := arrB_free hI5.ins ln
            generalize (marks p.length l)[ln] = old at kin
            obtain ⟨a2, c2, e0, _, hat⟩ := hI5.steps.read.at
            cases e0
            obtain ⟨sb', so', _, _, e9, k0', _, _⟩ := hat j _ HVJ.out
            cases e9
            have hne3 : bm + 1 ≠ wr.heap.size := by omega
            have HI5 := Lib.hid hI5
            have HBX := Lib.hid hbx
            clear hgc hI5 hbx hat hlm zd
            go_upto_region 16 with (fail)
            have hI3 := HI5.out.setI (by omega) (by omega) (by omega) ln true
            rw [← marks_snoc] at hI3
            have hbx : (wc.setCell ⟨bm + 1, ln, none⟩ (.bool true)).heap[wr.heap.size]? = _ := (Below.heap_setCell _ _ _ _ (by simpa using hne1)).trans HBX.out
            generalize wc.setCell ⟨bm + 1, ln, none⟩ (.bool true) = W1 at hI3 hbx ⊢
            clear g0 g1 g2 g3 hzb k0' kin fin cd
            obtain ⟨g0, g1, g2, g3⟩ := box_cells hbx
            have hzb := lt_of_block hbx
            have HBX1 := Lib.hid hbx
            have HI6 := Lib.hid hI3
            clear hbx hI3
            go_wp2_with fail
            refine rwrites_any op d a b _ _ ?_
            intro wd hgd
            rw [HWR.out]
            have hI7 := HI6.out.next hgd
            have cd := arrM_cell hI7.mm d d0 d3
            have zd := arrM_free hI7.mm d.toNat
            have hbx := hgd.blk HBX1.out
            clear g0 g1 g2 g3 hzb
            obtain ⟨g0, g1, g2, g3⟩ := box_cells hbx
            have hzb := lt_of_block hbx
            generalize m.get d = mg at cd
            have hne4 : wr.heap.size ≠ bm := by omega
            have HI7 := Lib.hid hI7
            have HBX2 := Lib.hid hbx
            clear hgd hI7 hbx
            go_upto_region 18 with (fail)
            have hI3 := HI7.out.setM (by omega) (by omega) (by omega) d false d0 d3
            have hbx : (wd.setCell ⟨bm, d.toNat, none⟩ (.bool false)).heap[wr.heap.size]? = _ := (Below.heap_setCell _ _ _ _ (by simpa using hne4)).trans HBX2.out
            clear g0 g1 g2 g3 hzb
            obtain ⟨wx, hwx⟩ : ∃ W, wd.setCell ⟨bm, d.toNat, none⟩ (.bool false) = W := ⟨_, rfl⟩
            rw [hwx] at hI3 hbx ⊢
            obtain ⟨g0, g1, g2, g3⟩ := box_cells hbx
            have hzb := lt_of_block hbx
            have HI3 := Lib.hid hI3
            clear hbx hI3 hwx cd zd
            go_wp2_with fail
            refine rreads_any op d a b _ o2 o3 _ ?_
            intro w6 hg6 hi6
            have hbr : bm + 1 < wx.heap.size + 1 := by have := lt_of_block HI3.out.ins; omega
            have HI6 := Lib.hid (HI3.out.next hg6)
            generalize wx.heap.size + 1 = br at hi6 hbr ⊢
            have HR6 := Lib.hid hi6
            have hzr := lt_of_block hi6
            clear hg6 hi6
            go_wp2_with fail
            go_loopw [16] (fun iv wr => ∃ k : Nat, k ≤ 4 ∧ iv = .int .i64 k ∧ RsI w bm (bm + 1) (bm + 2) (.slice (some ⟨sb, so, none⟩) vs.length xc) vs (Ms.orN (m.set d false) (rdM op a b) k) (marks p.length (l ++ [(ln : Int)])) wr ∧ wr.heap[br]? = some (.cells (arrM (rdM op a b)) 4 (0, 0))) (fun iv _ => 4 - (intOf iv).toNat)
            case atStart => exact ⟨0, by omega, rfl, by rw [Ms.orN_zero]; exact HI6.out, HR6.out⟩
            case round =>
              obtain ⟨k, hk4, rfl, hIk, hRk⟩ := hrel
              have HIK := Lib.hid hIk
              have HRK := Lib.hid hRk
              by_cases hlt4 : k < 4
              · have c0 := arrM_cell hIk.mm (k : Int) (by omega) (by omega)
                have c1 := arrM_cell hRk (k : Int) (by omega) (by omega)
                have c2 := arrM_free hIk.mm k
                rw [Int.toNat_natCast] at c0 c1
                obtain ⟨x1, hx1⟩ : ∃ z, (Ms.orN (m.set d false) (rdM op a b) k).get k = z := ⟨_, rfl⟩
                obtain ⟨x2, hx2⟩ : ∃ z, (rdM op a b).get k = z := ⟨_, rfl⟩
                rw [hx1] at c0
                rw [hx2] at c1
                have HX1 := Lib.hid hx1
                have HX2 := Lib.hid hx2
                clear hIk hRk hx1 hx2
                cases x1 with
                | true =>
                  go_wp2_with fail
                  go_roundw
                  case rel =>
                    have h := HIK.out.setM (by omega) (by omega) (by omega) (k : Int) true (by omega) (by omega)
                    rw [Int.toNat_natCast] at h
                    refine ⟨k + 1, by omega, by go_num, ?_, by rw [Below.heap_setCell _ _ _ _ (by simp; omega)]; exact HRK.out⟩
                    rw [Ms.orN_succ _ _ hlt4, HX1.out]; exact h
                  case measure => simp [intOf]; omega
                | false =>
                  go_wp2_with fail
                  go_roundw
                  case rel =>
                    have h := HIK.out.setM (by omega) (by omega) (by omega) (k : Int) x2 (by omega) (by omega)
                    rw [Int.toNat_natCast] at h
                    refine ⟨k + 1, by omega, by go_num, ?_, by rw [Below.heap_setCell _ _ _ _ (by simp; omega)]; exact HRK.out⟩
                    rw [Ms.orN_succ _ _ hlt4, HX1.out, HX2.out]; exact h
                  case measure => simp [intOf]; omega
              · have hke : k = 4 := by omega
                subst hke
                clear hIk hRk
                go_wp2_with fail
                go_roundw
                case rel =>
                  refine ⟨j, by omega, rfl, ?_⟩
                  have h := HIK.out
                  rw [orN_rdM o2 o3] at h
                  rw [HSTEP.out, if_neg HCOND.out]
                  first | exact h | (rw [if_pos HW.out]; exact h)
                case measure => simp [intOf]
theorem rSlice_any (p : List Ln) (s : List Int) (r : Int) (v u : Value) (w : World) (hp : LinesAt w v p) (hs : IntsAt w u s) (R : Ending → World → Prop)
    (hR : ∀ w' x, Grow w w' → IntsAt w' x (ifOK (sliceE p s r) (sliceM p s r)) → R (.returned (.tuple #[x, .int .i64 (sliceE p s r)])) w') :
    Calls Tryz.prog 110 #[v, u, .int .i64 r] w R := rSliceO_any p s r v u w hp hs R fun w' x hg ho => hR w' x hg (ho.slc encI_len)
end Go.Proofs.YtmlbgfnddgbpbaaGreat
