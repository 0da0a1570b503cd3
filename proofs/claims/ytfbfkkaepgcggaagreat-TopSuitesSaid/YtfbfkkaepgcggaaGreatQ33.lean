/-
The walks of compareEdits, and of the library's sort and Compact on a list of edits that rises.
The walks of Breaks and Kills with one more fact: what they answer was made by the call. Written by mkkl8.py.
-/
import Derived.Test.YtfbfkkaepgcggaaGreatQ27
import Derived.Test.YtfbfkkaepgcggaaGreatQ12
import Derived.Test.YtfbfkkaepgcggaaGreatQ42
import Derived.Test.YtfbfkkaepgcggaaGreatQ32
namespace Go.Proofs.YtfbfkkaepgcggaaGreat
open Go.RowKit

/-- The world has only grown, and drawn. -/
def Gw (w X : World) : Prop := ∃ (q : Nat) (os : Array Obj), X = Go.Sort.grow (w.drewN q) os
theorem drewN_grow (w : World) (os : Array Obj) : ∀ q, (Go.Sort.grow w os).drewN q = Go.Sort.grow (w.drewN q) os := fun _ => rfl
theorem Gw.refl (w : World) : Gw w w := ⟨0, #[], by simp [Go.Sort.grow]; rfl⟩
theorem drewN_add (w : World) (a b : Nat) : (w.drewN a).drewN b = w.drewN (a + b) := by
  show ({ w with drawn := w.drawn + a + b } : World) = { w with drawn := w.drawn + (a + b) }
  rw [Nat.add_assoc]
theorem Gw.trans {w X Y : World} (h : Gw w X) (k : Gw X Y) : Gw w Y := by
  obtain ⟨a, os, rfl⟩ := h
  obtain ⟨b, os', rfl⟩ := k
  exact ⟨a + b, os ++ os', by rw [drewN_grow, Go.Sort.grow_grow, drewN_add]⟩
theorem Gw.drew (w : World) : Gw w w.drew := ⟨1, #[], by simp [Go.Sort.grow]; rfl⟩
theorem Gw.alloc (w : World) (o : Obj) : Gw w (w.alloc o) := by
  refine ⟨0, #[o], ?_⟩
  rw [Go.Sort.alloc_eq_grow]; rfl
theorem Gw.g {w X : World} (h : Gw w X) : Grow w X := by
  obtain ⟨q, os, rfl⟩ := h
  exact below_growS os ((Grow.refl w).drewN q) (by show w.heap.size ≤ w.heap.size; omega)

theorem keep10 {X Y : World} {a0 a1 a2 a3 a4 a5 a6 a7 a8 a9 : Addr} {v0 v1 v2 v3 v4 v5 v6 v7 v8 v9 : Value} (g : Grow X Y) (h : X.cell? a0 = some v0 ∧ X.cell? a1 = some v1 ∧ X.cell? a2 = some v2 ∧ X.cell? a3 = some v3 ∧ X.cell? a4 = some v4 ∧ X.cell? a5 = some v5 ∧ X.cell? a6 = some v6 ∧ X.cell? a7 = some v7 ∧ X.cell? a8 = some v8 ∧ X.cell? a9 = some v9) : Y.cell? a0 = some v0 ∧ Y.cell? a1 = some v1 ∧ Y.cell? a2 = some v2 ∧ Y.cell? a3 = some v3 ∧ Y.cell? a4 = some v4 ∧ Y.cell? a5 = some v5 ∧ Y.cell? a6 = some v6 ∧ Y.cell? a7 = some v7 ∧ Y.cell? a8 = some v8 ∧ Y.cell? a9 = some v9 :=
  ⟨g.cell h.1, g.cell h.2.1, g.cell h.2.2.1, g.cell h.2.2.2.1, g.cell h.2.2.2.2.1, g.cell h.2.2.2.2.2.1, g.cell h.2.2.2.2.2.2.1, g.cell h.2.2.2.2.2.2.2.1, g.cell h.2.2.2.2.2.2.2.2.1, g.cell h.2.2.2.2.2.2.2.2.2⟩
set_option maxRecDepth 100000 in
set_option maxHeartbeats 8000000 in
theorem compareEdits_any (t op d a b t' op' d' a' b' : Int) (w : World) (R : Ending → World → Prop) (hR : ∀ w' : World, Gw w w' → R (.returned (.int .i64 (cmpE ⟨t, ⟨op, d, a, b⟩⟩ ⟨t', ⟨op', d', a', b'⟩⟩))) w') :
    Calls Tryz.prog 69 #[.agg #[.int .i64 t, .int .i64 op, .int .i64 d, .int .i64 a, .int .i64 b], .agg #[.int .i64 t', .int .i64 op', .int .i64 d', .int .i64 a', .int .i64 b']] w R := by
  have HR := Lib.hid hR
  have hc : cmpE ⟨t, ⟨op, d, a, b⟩⟩ ⟨t', ⟨op', d', a', b'⟩⟩ = orI [cmpI t t', cmpL ⟨op, d, a, b⟩ ⟨op', d', a', b'⟩] := rfl
  rw [hc] at HR
  obtain ⟨c0, h0⟩ : ∃ c, cmpI t t' = c := ⟨_, rfl⟩
  obtain ⟨c1, h1⟩ : ∃ c, cmpL ⟨op, d, a, b⟩ ⟨op', d', a', b'⟩ = c := ⟨_, rfl⟩
  rw [h0, h1] at HR
  have H0 := Lib.hid h0
  have H1 := Lib.hid h1
  clear hR hc h0 h1
  go_enter Tryz.func69, Tryz.ntmps69
  go_wp2_with fail
  have hb0 := heap_two0 w (.cells #[.int .i64 t, .int .i64 op, .int .i64 d, .int .i64 a, .int .i64 b] 46) (.cells #[.int .i64 t', .int .i64 op', .int .i64 d', .int .i64 a', .int .i64 b'] 46)
  have hb1 := heap_two1 w (.cells #[.int .i64 t, .int .i64 op, .int .i64 d, .int .i64 a, .int .i64 b] 46) (.cells #[.int .i64 t', .int .i64 op', .int .i64 d', .int .i64 a', .int .i64 b'] 46)
  have hg : Gw w ((w.alloc (.cells #[.int .i64 t, .int .i64 op, .int .i64 d, .int .i64 a, .int .i64 b] 46)).alloc (.cells #[.int .i64 t', .int .i64 op', .int .i64 d', .int .i64 a', .int .i64 b'] 46)) := (Gw.alloc _ _).trans (Gw.alloc _ _)
  have hsz : ((w.alloc (.cells #[.int .i64 t, .int .i64 op, .int .i64 d, .int .i64 a, .int .i64 b] 46)).alloc (.cells #[.int .i64 t', .int .i64 op', .int .i64 d', .int .i64 a', .int .i64 b'] 46)).heap.size = w.heap.size + 2 := by simp
  generalize (w.alloc (.cells #[.int .i64 t, .int .i64 op, .int .i64 d, .int .i64 a, .int .i64 b] 46)).alloc (.cells #[.int .i64 t', .int .i64 op', .int .i64 d', .int .i64 a', .int .i64 b'] 46) = W at hb0 hb1 hg hsz ⊢
  obtain ⟨e0, e1, e2, e3, e4⟩ := box5 hb0
  obtain ⟨f0, f1, f2, f3, f4⟩ := box5 hb1
  have hz : w.heap.size + 1 < W.heap.size := by omega
  have HG := Lib.hid hg
  clear hb0 hb1 hg
  refine wp_region_held_drew (S := fun X => (X.cell? ⟨w.heap.size, 0, none⟩ = some (.int .i64 t) ∧ X.cell? ⟨w.heap.size, 1, none⟩ = some (.int .i64 op) ∧ X.cell? ⟨w.heap.size, 2, none⟩ = some (.int .i64 d) ∧ X.cell? ⟨w.heap.size, 3, none⟩ = some (.int .i64 a) ∧ X.cell? ⟨w.heap.size, 4, none⟩ = some (.int .i64 b) ∧ X.cell? ⟨w.heap.size + 1, 0, none⟩ = some (.int .i64 t') ∧ X.cell? ⟨w.heap.size + 1, 1, none⟩ = some (.int .i64 op') ∧ X.cell? ⟨w.heap.size + 1, 2, none⟩ = some (.int .i64 d') ∧ X.cell? ⟨w.heap.size + 1, 3, none⟩ = some (.int .i64 a') ∧ X.cell? ⟨w.heap.size + 1, 4, none⟩ = some (.int .i64 b')) ∧ Gw W X) (by kernel_rfl) ⟨⟨e0, e1, e2, e3, e4, f0, f1, f2, f3, f4⟩, Gw.drew W⟩ (fun hH => ?_)
  refine wpAnyH_take (i := 0) (v := .pointer (some ⟨w.heap.size, 0, none⟩)) rfl (by kernel_rfl) (by kernel_rfl) (by kernel_rfl) (fun _ _ _ h => h) (Or.inl ⟨by rfl, ?_⟩) hH ?_
  · intro w9 hw9
    obtain ⟨⟨d0, d1, d2, d3, d4, d5, d6, d7, d8, d9⟩, dg⟩ := hw9
    go_simp
  simp only [List.getElem_toArray, List.getElem_cons_zero, Act.put, List.setIfInBounds_toArray, List.set_cons_zero, List.set_cons_succ]
  refine wpAnyH_take (i := 1) (v := .int .i64 t) rfl (by kernel_rfl) (by kernel_rfl) (by kernel_rfl) (fun _ _ _ h => h) (Or.inl ⟨by rfl, ?_⟩) hH ?_
  · intro w9 hw9
    obtain ⟨⟨d0, d1, d2, d3, d4, d5, d6, d7, d8, d9⟩, dg⟩ := hw9
    go_simp
  simp only [List.getElem_toArray, List.getElem_cons_succ, List.getElem_cons_zero, Act.put, List.setIfInBounds_toArray, List.set_cons_zero, List.set_cons_succ]
  refine wpAnyH_take (i := 2) (v := .pointer (some ⟨w.heap.size + 1, 0, none⟩)) rfl (by kernel_rfl) (by kernel_rfl) (by kernel_rfl) (fun _ _ _ h => h) (Or.inl ⟨by rfl, ?_⟩) hH ?_
  · intro w9 hw9
    obtain ⟨⟨d0, d1, d2, d3, d4, d5, d6, d7, d8, d9⟩, dg⟩ := hw9
    go_simp
  simp only [List.getElem_toArray, List.getElem_cons_succ, List.getElem_cons_zero, Act.put, List.setIfInBounds_toArray, List.set_cons_zero, List.set_cons_succ]
  refine wpAnyH_take (i := 3) (v := .int .i64 t') rfl (by kernel_rfl) (by kernel_rfl) (by kernel_rfl) (fun _ _ _ h => h) (Or.inl ⟨by rfl, ?_⟩) hH ?_
  · intro w9 hw9
    obtain ⟨⟨d0, d1, d2, d3, d4, d5, d6, d7, d8, d9⟩, dg⟩ := hw9
    go_simp
  simp only [List.getElem_toArray, List.getElem_cons_succ, List.getElem_cons_zero, Act.put, List.setIfInBounds_toArray, List.set_cons_zero, List.set_cons_succ]
  refine wpAnyH_take (i := 5) (v := .pointer (some ⟨w.heap.size, 1, none⟩)) rfl (by kernel_rfl) (by kernel_rfl) (by kernel_rfl) (fun _ _ _ h => h) (Or.inl ⟨by rfl, ?_⟩) hH ?_
  · intro w9 hw9
    obtain ⟨⟨d0, d1, d2, d3, d4, d5, d6, d7, d8, d9⟩, dg⟩ := hw9
    go_simp
  simp only [List.getElem_toArray, List.getElem_cons_succ, List.getElem_cons_zero, Act.put, List.setIfInBounds_toArray, List.set_cons_zero, List.set_cons_succ]
  refine wpAnyH_take (i := 6) (v := .agg #[.int .i64 op, .int .i64 d, .int .i64 a, .int .i64 b]) rfl (by kernel_rfl) (by kernel_rfl) (by kernel_rfl) (fun _ _ _ h => h) (Or.inl ⟨by rfl, ?_⟩) hH ?_
  · intro w9 hw9
    obtain ⟨⟨d0, d1, d2, d3, d4, d5, d6, d7, d8, d9⟩, dg⟩ := hw9
    go_simp
  simp only [List.getElem_toArray, List.getElem_cons_succ, List.getElem_cons_zero, Act.put, List.setIfInBounds_toArray, List.set_cons_zero, List.set_cons_succ]
  refine wpAnyH_take (i := 7) (v := .pointer (some ⟨w.heap.size + 1, 1, none⟩)) rfl (by kernel_rfl) (by kernel_rfl) (by kernel_rfl) (fun _ _ _ h => h) (Or.inl ⟨by rfl, ?_⟩) hH ?_
  · intro w9 hw9
    obtain ⟨⟨d0, d1, d2, d3, d4, d5, d6, d7, d8, d9⟩, dg⟩ := hw9
    go_simp
  simp only [List.getElem_toArray, List.getElem_cons_succ, List.getElem_cons_zero, Act.put, List.setIfInBounds_toArray, List.set_cons_zero, List.set_cons_succ]
  refine wpAnyH_take (i := 8) (v := .agg #[.int .i64 op', .int .i64 d', .int .i64 a', .int .i64 b']) rfl (by kernel_rfl) (by kernel_rfl) (by kernel_rfl) (fun _ _ _ h => h) (Or.inl ⟨by rfl, ?_⟩) hH ?_
  · intro w9 hw9
    obtain ⟨⟨d0, d1, d2, d3, d4, d5, d6, d7, d8, d9⟩, dg⟩ := hw9
    go_simp
  simp only [List.getElem_toArray, List.getElem_cons_succ, List.getElem_cons_zero, Act.put, List.setIfInBounds_toArray, List.set_cons_zero, List.set_cons_succ]
  refine wpAnyH_ready (rs := [4]) (by kernel_rfl) (by simp) ?_
  refine AllReadyH.cons rfl (fun K hK => ?_) AllReadyH.nil
  go_simp
  refine cmpI_any _ _ _ _ ?_
  rw [H0.out]
  go_wp2_with fail
  refine hK.out _ _ hH (fun hH2 => ?_)
  clear hK K hH
  have hH := hH2
  clear hH2
  refine wpAnyH_ready (rs := [9]) (by kernel_rfl) (by simp) ?_
  refine AllReadyH.cons rfl (fun K hK => ?_) AllReadyH.nil
  go_simp
  refine compare_any _ _ _ _ _ _ _ _ _ _ ?_
  intro w8 hg8
  rw [H1.out]
  have hg9 : Gw _ w8 := hg8
  go_wp2_with fail
  refine hK.out _ _ ⟨(keep10 (Gw.g hg9) hH.1), hH.2.trans hg9⟩ (fun hH2 => ?_)
  clear hK K hH
  have hH := hH2
  clear hH2
  refine wpAnyH_ready (rs := [10]) (by kernel_rfl) (by simp) ?_
  refine AllReadyH.cons rfl (fun K hK => ?_) AllReadyH.nil
  go_simp
  refine hK.out _ _ ⟨(keep10 (Gw.g (Gw.alloc _ _)) hH.1), hH.2.trans (Gw.alloc _ _)⟩ (fun hH2 => ?_)
  clear hK K hH
  have hH := hH2
  clear hH2
  refine wpAnyH_ready (rs := [11]) (by kernel_rfl) (by simp) ?_
  refine AllReadyH.cons rfl (fun K hK => ?_) AllReadyH.nil
  go_simp
  refine orI_any [c0, c1] _ _ ?_ _ ?_
  · exact slc_of_owns encI_len (xs := [c0, c1]) (World.ownsRow_lit w8 #[.int .i64 c0, .int .i64 c1] 2 (Nat.le_refl _) (by simp [maxLen]) rfl)
  go_wp2_with fail
  refine hK.out _ _ hH (fun hH2 => ?_)
  clear hK K hH
  have hH := hH2
  clear hH2
  refine wpAnyH_take (i := 12) (v := .int .i64 (orI [c0, c1])) rfl (by kernel_rfl) (by kernel_rfl) (by kernel_rfl) (fun _ _ _ h => h) (Or.inl ⟨by rfl, ?_⟩) hH ?_
  · intro w9 hw9
    obtain ⟨⟨d0, d1, d2, d3, d4, d5, d6, d7, d8, d9⟩, dg⟩ := hw9
    go_simp
  simp only [List.getElem_toArray, List.getElem_cons_succ, List.getElem_cons_zero, Act.put, List.setIfInBounds_toArray, List.set_cons_zero, List.set_cons_succ]
  refine wpAnyH_done (by kernel_rfl) ?_ _
  have HF := Lib.hid (HR.out _ (HG.out.trans hH.2))
  go_wp2_with fail
  exact HF.out
end Go.Proofs.YtfbfkkaepgcggaaGreat

namespace Go.Proofs.YtfbfkkaepgcggaaGreat
open Go.RowKit

set_option maxRecDepth 100000 in
set_option maxHeartbeats 16000000 in
theorem turned8_any (q p : List Ln) (ts : List Tst) (qv pv tv : Value) (w : World) (hq : LinesAt w qv q) (hp : LinesAt w pv p) (ht : TestsAt w tv ts) (h1 : chkT q ts = 0) (h2 : chkT p ts = 0) (R : Ending → World → Prop)
    (hR : ∀ w' v, Grow w w' → IntsAt w' v (brkM p q ts) → NewS w.heap.size v → R (.returned v) w') :
    Calls Tryz.prog 93 #[qv, pv, tv] w R := by
  have HQ := Lib.hid hq
  have HP := Lib.hid hp
  have HT := Lib.hid ht
  have HR := Lib.hid hR
  have H1 := Lib.hid h1
  have H2 := Lib.hid h2
  obtain ⟨qa, qc, rfl, _⟩ := hq
  obtain ⟨pa, pc, rfl, _⟩ := hp
  obtain ⟨⟨ta, tc, rfl, _⟩, _⟩ := ht
  have eg : Enters Tryz.prog 111 := enters_of Tryz.func111 (by kernel_rfl) rfl
  have EG := Lib.hid eg
  obtain ⟨A, hA⟩ : ∃ A, whereL (fun t => !passM q t) ts = A := ⟨_, rfl⟩
  obtain ⟨C, hC⟩ : ∃ C, whereL (passM p) ts = C := ⟨_, rfl⟩
  have hbr : brkM p q ts = keepI (fun i => !C.contains i) A := by rw [← hA, ← hC, where_and]; rfl
  rw [hbr] at HR
  have HA := Lib.hid hA
  have HC := Lib.hid hC
  clear hR h1 h2 eg hA hC hbr
  go_enter Tryz.func93, Tryz.ntmps93
  go_wp2_with fail
  refine Failing_any q ts _ _ _ HQ.out HT.out _ ?_
  intro w1 x1 hg1 hx1
  rw [H1.out, ifOK_ok, HA.out] at hx1
  rw [H1.out]
  have HX1 := Lib.hid hx1
  obtain ⟨a1, c1, rfl, q11, q12, _⟩ := hx1.slc encI_len
  have HG1 := Lib.hid hg1
  clear hg1 hx1
  go_wp2_with fail
  refine Passing_any p ts _ _ _ (HP.out.grow HG1.out) (HT.out.grow HG1.out) _ ?_
  intro w2 x2 hg2 hx2
  rw [H2.out, ifOK_ok, show whereL (fun t => passM p t) ts = C from HC.out] at hx2
  rw [H2.out]
  have hs2 := hx2.slc encI_len
  have hbk2 : ∀ b o s, ∀ a c, x2 = .slice a C.length c → a = some ⟨b, o, s⟩ → w1.heap.size ≤ b := fun b o s a c h ha => own_blkI (h ▸ hx2) b o s ha
  obtain ⟨a2, c2, rfl, _⟩ := hs2
  have HS2 := Lib.hid (hx2.slc encI_len)
  have HB2 := Lib.hid (fun b o s h => hbk2 b o s a2 c2 rfl h)
  have HG2 := Lib.hid hg2
  have hz2 := hg2.sz
  clear hg2 hx2 hbk2
  go_wp2_with fail
  have hb := heap_alloc_new w2 (.cells #[.slice a2 C.length c2] 25)
  have hg := (Grow.refl w2).alloc (.cells #[.slice a2 C.length c2] 25)
  have hszW : (w2.alloc (.cells #[.slice a2 C.length c2] 25)).heap.size = w2.heap.size + 1 := by simp
  generalize w2.alloc (.cells #[.slice a2 C.length c2] 25) = W at hb hg hszW ⊢
  have hpred : PredW 111 #[.pointer (some ⟨w2.heap.size, 0, none⟩)] (fun i => !C.contains i) (TInv w2.heap.size (.slice a2 C.length c2) C) := fun x X hX R hR => turnF_any x C _ _ X hX.2 hX.1 R hR
  have hgrw : ∀ X X' : World, TInv w2.heap.size (.slice a2 C.length c2) C X → Grow X X' → TInv w2.heap.size (.slice a2 C.length c2) C X' := fun X X' h g => ⟨g.blk h.1, h.2.grow g⟩
  have hinv : TInv w2.heap.size (.slice a2 C.length c2) C W := ⟨hb, HS2.out.grow hg⟩
  have hst : ∀ g1 : Nat, g1 < w1.heap.size → ∀ (X : World) (k : Nat) (v : Value), TInv w2.heap.size (.slice a2 C.length c2) C X → TInv w2.heap.size (.slice a2 C.length c2) C (X.setCell ⟨g1, k, none⟩ v) := by
    intro g1 hg1 X k v hX
    refine ⟨?_, slc_setCell hX.2 (fun b o s h => by have := HB2.out b o s h; omega)⟩
    rw [Below.heap_setCell _ _ _ _ (by show w2.heap.size ≠ g1; omega)]
    exact hX.1
  have HX1' := HX1.out
  obtain ⟨e1, hrow1⟩ := HX1'
  rcases hrow1.2 with ⟨hv, h0⟩ | ⟨g1, cap1, cur1, hv, hbg, hh, _⟩
  · obtain ⟨rfl, _, rfl⟩ : a1 = none ∧ A.length = 0 ∧ c1 = 0 := by simpa using hv
    have hA0 : A = [] := List.length_eq_zero_iff.1 h0
    rw [h0]
    refine deleteFI_none 111 _ EG.out (fun i => !C.contains i) (TInv w2.heap.size (.slice a2 C.length c2) C) hgrw hpred _ hinv _ ?_
    intro w3 hg3
    have HF := Lib.hid (HR.out w3 (.slice none 0 0) (HG1.out.trans (HG2.out.trans (hg.trans hg3))) (by rw [hA0]; exact SlcAt.nil _ _ _) (NewS.nil _ _ _))
    clear hg3 hpred hgrw hinv hst hb hg
    go_wp2_with fail
    exact HF.out
  · cases hv
    have hg1s : g1 < w1.heap.size := lt_of_block hh
    have hrowI := RowI.of_own hrow1
    have hrI := hrowI.grow (HG2.out.trans hg) hg1s
    have hgW : g1 < W.heap.size := by omega
    refine deleteFI_any 111 _ EG.out (fun i => !C.contains i) (TInv w2.heap.size (.slice a2 C.length c2) C) hgrw hpred A g1 A.length _ w.heap.size (hst g1 hg1s) W rfl q11 q12 hrI hgW hbg hinv _ ?_
    · intro w3 hb3 hg3 hr3
      have hle : (keepI (fun i => !C.contains i) A).length ≤ A.length := List.length_filter_le _ _
      have HF := Lib.hid (HR.out w3 _ (Below.trans (HG1.out.trans (HG2.out.trans hg)) hb3) (hr3.ints hg3 (Nat.le_trans hle q11) q12) (fun a n c e => by injection e with e1 _ _; injection e1 with e1; rw [← e1]; exact hbg))
      clear hb3 hg3 hr3 hpred hgrw hinv hst hb hg hrI hgW
      generalize keepI (fun i => !C.contains i) A = Lk at HF ⊢
      go_wp2_with fail
      exact HF.out

set_option maxRecDepth 100000 in
set_option maxHeartbeats 16000000 in
theorem Breaks8_any (p : List Ln) (x : List Ed) (ts : List Tst) (pv xv tv : Value) (w : World) (hp : LinesAt w pv p) (hx : EditsAt w xv x) (ht : TestsAt w tv ts) (R : Ending → World → Prop)
    (hR : ∀ w' v, Grow w w' → IntsAt w' v (brkO p x ts) → NewS w.heap.size v → R (.returned (.tuple #[v, .int .i64 (chkX p x ts)])) w') :
    Calls Tryz.prog 74 #[pv, xv, tv] w R := by
  have HP := Lib.hid hp
  have HX := Lib.hid hx
  have HT := Lib.hid ht
  rw [show brkO p x ts = ifOK (chkX p x ts) (brkM p (doM p x) ts) from rfl] at hR
  have HR := Lib.hid hR
  obtain ⟨e, he⟩ : ∃ e, chkX p x ts = e := ⟨_, rfl⟩
  have hok := fun h : e = 0 => chkX_ok.1 (he.trans h)
  rw [he] at HR
  have HE := Lib.hid he
  obtain ⟨pa, pc, rfl, _⟩ := hp
  obtain ⟨xa, xc, rfl, _⟩ := hx
  obtain ⟨⟨ta, tc, rfl, _⟩, _⟩ := ht
  clear hR he
  by_cases h0 : e = 0
  rotate_left
  · rw [ifOK_err h0] at HR
    have t1 : (e != 0) = true := by simpa using h0
    clear hok h0
    go_enter Tryz.func74, Tryz.ntmps74
    go_wp2_with fail
    refine checked_any p x ts _ _ _ _ HP.out HX.out HT.out _ ?_
    intro w1 hg1
    rw [HE.out]
    have HF := Lib.hid (HR.out w1 (.slice none 0 0) hg1 (SlcAt.nil _ _ _) (NewS.nil _ _ _))
    clear hg1
    go_wp2_with fail
    exact HF.out
  obtain ⟨hv, hvx, hvt, hoff⟩ := hok h0
  subst h0
  rw [ifOK_ok] at HR
  have hxv := valX_ok.1 hvx
  have hp8 := (valP_ok.1 hv).1
  have HD1 := Lib.hid (chkT_ok.2 ⟨doM_ok (x := x) hv (fun e he => by
    obtain ⟨i, hi⟩ := List.getElem?_of_mem he
    exact (edsOK_at hxv.2 hi).2.2), hvt⟩)
  have HD2 := Lib.hid (chkT_ok.2 ⟨hv, hvt⟩)
  have HXV := Lib.hid hxv
  have HOFF := Lib.hid hoff
  obtain ⟨q, hq⟩ : ∃ q, doM p x = q := ⟨_, rfl⟩
  rw [hq] at HR HD1
  have HQ := Lib.hid hq
  clear hok hv hvx hvt hoff hxv hq
  go_enter Tryz.func74, Tryz.ntmps74
  go_wp2_with fail
  refine checked_any p x ts _ _ _ _ HP.out HX.out HT.out _ ?_
  intro w1 hg1
  rw [HE.out]
  have HG1 := Lib.hid hg1
  clear hg1
  go_wp2_with fail
  refine do_any p x _ _ _ (HP.out.grow HG1.out) (HX.out.grow HG1.out) hp8 HXV.out.2 HXV.out.1 HOFF.out _ ?_
  intro w2 v2 hg2 _ hv2
  rw [HQ.out] at hv2
  have HV2 := Lib.hid hv2
  obtain ⟨a2, c2, rfl, _⟩ := hv2
  have HG2 := Lib.hid (HG1.out.trans hg2)
  clear hg2
  go_wp2_with fail
  refine turned8_any q p ts _ _ _ _ HV2.out (HP.out.grow HG2.out) (HT.out.grow HG2.out) HD1.out HD2.out _ ?_
  intro w3 v3 hg3 hv3 hn3
  have HF := Lib.hid (HR.out w3 v3 (HG2.out.trans hg3) hv3 (hn3.mono HG2.out.sz))
  clear hg3 hv3 hn3
  go_wp2_with fail
  exact HF.out

set_option maxRecDepth 100000 in
set_option maxHeartbeats 16000000 in
theorem kills8_any (p : List Ln) (ts : List Tst) (t op d a b : Int) (pv tv : Value) (w : World) (hp : LinesAt w pv p) (ht : TestsAt w tv ts) (R : Ending → World → Prop)
    (hR : ∀ w' v, Grow w w' → IntsAt w' v (brkO p [⟨t, ⟨op, d, a, b⟩⟩] ts) → NewS w.heap.size v → R (.returned v) w') :
    Calls Tryz.prog 48 #[pv, tv, .agg #[.int .i64 t, .int .i64 op, .int .i64 d, .int .i64 a, .int .i64 b]] w R := by
  have HP := Lib.hid hp
  have HT := Lib.hid ht
  have HR := Lib.hid hR
  obtain ⟨e, he⟩ : ∃ e, chkX p [⟨t, ⟨op, d, a, b⟩⟩] ts = e := ⟨_, rfl⟩
  have HE := Lib.hid he
  obtain ⟨pa, pc, rfl, _⟩ := hp
  obtain ⟨⟨ta, tc, rfl, _⟩, _⟩ := ht
  clear hR he
  go_enter Tryz.func48, Tryz.ntmps48
  go_wp2_with fail
  have hg := (Grow.refl w).alloc (.cells #[.int .i64 t, .int .i64 op, .int .i64 d, .int .i64 a, .int .i64 b] 46)
  have hsz : (w.alloc (.cells #[.int .i64 t, .int .i64 op, .int .i64 d, .int .i64 a, .int .i64 b] 46)).heap.size = w.heap.size + 1 := by simp
  generalize w.alloc (.cells #[.int .i64 t, .int .i64 op, .int .i64 d, .int .i64 a, .int .i64 b] 46) = W at hg hsz ⊢
  have hlit := edits_lit W t op d a b 46
  rw [hsz] at hlit
  refine Breaks8_any p [⟨t, ⟨op, d, a, b⟩⟩] ts _ _ _ _ (HP.out.grow (hg.alloc _)) hlit (HT.out.grow (hg.alloc _)) _ ?_
  intro w1 v1 hg1 hv1 hn1
  rw [HE.out]
  have HF := Lib.hid (HR.out w1 v1 ((hg.alloc _).trans hg1) hv1 (hn1.mono (hg.alloc _).sz))
  obtain ⟨a1, c1, rfl, _⟩ := hv1
  clear hg1 hn1 hlit hg hsz
  go_wp2_with fail
  exact HF.out

set_option maxRecDepth 100000 in
set_option maxHeartbeats 16000000 in
theorem Kills8_any (p : List Ln) (ts : List Tst) (t op d a b : Int) (pv tv : Value) (w : World) (hp : LinesAt w pv p) (ht : TestsAt w tv ts) (R : Ending → World → Prop)
    (hR : ∀ w' v, Grow w w' → IntsAt w' v (kilO p ts ⟨t, ⟨op, d, a, b⟩⟩) → NewS w.heap.size v → R (.returned (.tuple #[v, .int .i64 (kilE p ts ⟨t, ⟨op, d, a, b⟩⟩)])) w') :
    Calls Tryz.prog 18 #[pv, tv, .agg #[.int .i64 t, .int .i64 op, .int .i64 d, .int .i64 a, .int .i64 b]] w R := by
  have HP := Lib.hid hp
  have HT := Lib.hid ht
  have ho : kilO p ts ⟨t, ⟨op, d, a, b⟩⟩ = ifOK (kilE p ts ⟨t, ⟨op, d, a, b⟩⟩) (brkM p (setAll p [⟨t, ⟨op, d, a, b⟩⟩]) ts) := rfl
  have hk : kilE p ts ⟨t, ⟨op, d, a, b⟩⟩ = if chkT p ts = 0 then (if inB t 0 ((p.length : Int) - 1) then (if (tmpl (lineAt p t)).contains ⟨op, d, a, b⟩ then 0 else 1) else 4) else chkT p ts := rfl
  have hbk := fun h => (brkO_kil (p := p) (ts := ts) (m := ⟨t, ⟨op, d, a, b⟩⟩) h).2
  rw [ho] at hR
  obtain ⟨e, he⟩ : ∃ e, chkT p ts = e := ⟨_, rfl⟩
  obtain ⟨i, hi⟩ : ∃ i, inB t 0 ((p.length : Int) - 1) = i := ⟨_, rfl⟩
  obtain ⟨ke, hke⟩ : ∃ z, kilE p ts ⟨t, ⟨op, d, a, b⟩⟩ = z := ⟨_, rfl⟩
  rw [hke] at hR hbk hk
  rw [he, hi] at hk
  have hok := fun h : e = 0 => chkT_ok.1 (he.trans h)
  have HR := Lib.hid hR
  have HE := Lib.hid he
  have HI := Lib.hid hi
  obtain ⟨pa, pc, rfl, p1, p2, _⟩ := hp
  obtain ⟨⟨ta, tc, rfl, _⟩, _⟩ := ht
  have hw1 : IntKind.i64.wrap ((p.length : Int) - 1) = (p.length : Int) - 1 := IntWalk.i64_in _ (by omega)
  have HB := Lib.hid (heap_alloc_new w (.cells #[.int .i64 t, .int .i64 op, .int .i64 d, .int .i64 a, .int .i64 b] 46))
  have HG := Lib.hid ((Grow.refl w).alloc (.cells #[.int .i64 t, .int .i64 op, .int .i64 d, .int .i64 a, .int .i64 b] 46))
  clear hR ho he hi
  by_cases z1 : e = 0
  rotate_left
  · rw [if_neg z1] at hk
    subst hk
    rw [ifOK_err z1] at HR
    have t1 : (ke != 0) = true := by simpa using z1
    clear hok hbk z1
    go_enter Tryz.func18, Tryz.ntmps18
    go_wp2_with fail
    refine programs_any p ts _ _ _ (HP.out.grow HG.out) (HT.out.grow HG.out) _ ?_
    intro w1 hg1
    rw [HE.out]
    have HB1 := Lib.hid (hg1.blk HB.out)
    have HG1 := Lib.hid (HG.out.trans hg1)
    clear hg1
    obtain ⟨e0, e1, e2, e3, e4⟩ := box5 HB1.out
    have hz := lt_of_block HB1.out
    go_wp2_with fail
    exact HR.out w1 _ HG1.out (SlcAt.nil _ _ _) (NewS.nil _ _ _)
  obtain ⟨hv, hvt⟩ := hok z1
  subst z1
  rw [if_pos rfl] at hk
  clear hok
  cases i with
  | false =>
    rw [if_neg (by decide)] at hk
    subst hk
    rw [ifOK_err (by decide)] at HR
    clear hbk hv hvt
    go_enter Tryz.func18, Tryz.ntmps18
    go_wp2_with fail
    refine programs_any p ts _ _ _ (HP.out.grow HG.out) (HT.out.grow HG.out) _ ?_
    intro w1 hg1
    rw [HE.out]
    have HB1 := Lib.hid (hg1.blk HB.out)
    have HG1 := Lib.hid (HG.out.trans hg1)
    clear hg1
    obtain ⟨e0, e1, e2, e3, e4⟩ := box5 HB1.out
    have hz := lt_of_block HB1.out
    go_wp2_with fail
    refine swithin_any _ _ _ _ _ ?_
    rw [HI.out]
    go_wp2_with fail
    exact HR.out w1 _ HG1.out (SlcAt.nil _ _ _) (NewS.nil _ _ _)
  | true =>
    rw [if_pos rfl] at hk
    have hin := inB_true.1 HI.out
    obtain ⟨n, rfl⟩ : ∃ n : Nat, t = n := ⟨t.toNat, by omega⟩
    have hnp : n < p.length := by omega
    have hnp2 : (n : Int) < (p.length : Int) := by omega
    obtain ⟨⟨o1, d1, a1, b1⟩, hl⟩ : ∃ l, p[n]? = some l := ⟨_, List.getElem?_eq_getElem hnp⟩
    have hla : lineAt p (n : Int) = ⟨o1, d1, a1, b1⟩ := by unfold lineAt; rw [show ((n : Int)).toNat = n by omega, hl]; rfl
    rw [hla] at hk
    have HOK := Lib.hid (show vL o1 d1 a1 b1 = true from (valP_ok.1 hv).2 _ (List.mem_of_getElem? hl))
    have HL := Lib.hid hl
    obtain ⟨c, hc⟩ : ∃ c, (tmpl ⟨o1, d1, a1, b1⟩).contains ⟨op, d, a, b⟩ = c := ⟨_, rfl⟩
    rw [hc] at hk
    have HC := Lib.hid hc
    clear hv hvt hin hl hla hc
    go_enter Tryz.func18, Tryz.ntmps18
    go_wp2_with fail
    refine programs_any p ts _ _ _ (HP.out.grow HG.out) (HT.out.grow HG.out) _ ?_
    intro w1 hg1
    rw [HE.out]
    have HB1 := Lib.hid (hg1.blk HB.out)
    have HG1 := Lib.hid (HG.out.trans hg1)
    clear hg1
    obtain ⟨e0, e1, e2, e3, e4⟩ := box5 HB1.out
    have hz := lt_of_block HB1.out
    go_wp2_with fail
    refine swithin_any _ _ _ _ _ ?_
    rw [HI.out]
    go_wp2_with fail
    obtain ⟨g, o, rfl, hgp, y0, y1, y2, y3⟩ := lines_at (HP.out.grow HG1.out) HL.out
    refine wp_region_held_drew (S := fun X => X.cell? ⟨w.heap.size, 0, none⟩ = some (.int .i64 (n : Int)) ∧ X.cell? ⟨w.heap.size, 1, none⟩ = some (.int .i64 op) ∧ X.cell? ⟨w.heap.size, 2, none⟩ = some (.int .i64 d) ∧ X.cell? ⟨w.heap.size, 3, none⟩ = some (.int .i64 a) ∧ X.cell? ⟨w.heap.size, 4, none⟩ = some (.int .i64 b) ∧ X.cell? ⟨g, o + n * 4, none⟩ = some (.int .i64 o1) ∧ X.cell? ⟨g, o + n * 4 + 1, none⟩ = some (.int .i64 d1) ∧ X.cell? ⟨g, o + n * 4 + 2, none⟩ = some (.int .i64 a1) ∧ X.cell? ⟨g, o + n * 4 + 3, none⟩ = some (.int .i64 b1) ∧ Grow w1 X) (by kernel_rfl) ⟨e0, e1, e2, e3, e4, y0, y1, y2, y3, (Grow.refl w1).drew⟩ (fun hH => ?_)
    refine wpAnyH_take (i := 0) (v := .slice (some ⟨g, o, none⟩) p.length pc) rfl (by kernel_rfl) (by kernel_rfl) (by kernel_rfl) (fun _ _ _ h => h) (Or.inl ⟨by rfl, ?_⟩) hH ?_
    · intro w9 hw9
      obtain ⟨v0, v1, v2, v3, v4, v5, v6, v7, v8, vg⟩ := hw9
      go_simp
    simp only [List.getElem_toArray, List.getElem_cons_zero, Act.put, List.setIfInBounds_toArray, List.set_cons_zero, List.set_cons_succ]
    refine wpAnyH_take (i := 1) (v := .pointer (some ⟨w.heap.size, 0, none⟩)) rfl (by kernel_rfl) (by kernel_rfl) (by kernel_rfl) (fun _ _ _ h => h) (Or.inl ⟨by rfl, ?_⟩) hH ?_
    · intro w9 hw9
      obtain ⟨v0, v1, v2, v3, v4, v5, v6, v7, v8, vg⟩ := hw9
      go_simp
    simp only [List.getElem_toArray, List.getElem_cons_succ, List.getElem_cons_zero, Act.put, List.setIfInBounds_toArray, List.set_cons_zero, List.set_cons_succ]
    refine wpAnyH_take (i := 2) (v := .int .i64 n) rfl (by kernel_rfl) (by kernel_rfl) (by kernel_rfl) (fun _ _ _ h => h) (Or.inl ⟨by rfl, ?_⟩) hH ?_
    · intro w9 hw9
      obtain ⟨v0, v1, v2, v3, v4, v5, v6, v7, v8, vg⟩ := hw9
      go_simp
    simp only [List.getElem_toArray, List.getElem_cons_succ, List.getElem_cons_zero, Act.put, List.setIfInBounds_toArray, List.set_cons_zero, List.set_cons_succ]
    refine wpAnyH_take (i := 3) (v := .pointer (some ⟨g, o + n * 4, none⟩)) rfl (by kernel_rfl) (by kernel_rfl) (by kernel_rfl) (fun _ _ _ h => h) (Or.inl ⟨by rfl, ?_⟩) hH ?_
    · intro w9 hw9
      obtain ⟨v0, v1, v2, v3, v4, v5, v6, v7, v8, vg⟩ := hw9
      go_simp
    simp only [List.getElem_toArray, List.getElem_cons_succ, List.getElem_cons_zero, Act.put, List.setIfInBounds_toArray, List.set_cons_zero, List.set_cons_succ]
    refine wpAnyH_take (i := 4) (v := .agg #[.int .i64 o1, .int .i64 d1, .int .i64 a1, .int .i64 b1]) rfl (by kernel_rfl) (by kernel_rfl) (by kernel_rfl) (fun _ _ _ h => h) (Or.inl ⟨by rfl, ?_⟩) hH ?_
    · intro w9 hw9
      obtain ⟨v0, v1, v2, v3, v4, v5, v6, v7, v8, vg⟩ := hw9
      go_simp
    simp only [List.getElem_toArray, List.getElem_cons_succ, List.getElem_cons_zero, Act.put, List.setIfInBounds_toArray, List.set_cons_zero, List.set_cons_succ]
    refine wpAnyH_take (i := 6) (v := .pointer (some ⟨w.heap.size, 1, none⟩)) rfl (by kernel_rfl) (by kernel_rfl) (by kernel_rfl) (fun _ _ _ h => h) (Or.inl ⟨by rfl, ?_⟩) hH ?_
    · intro w9 hw9
      obtain ⟨v0, v1, v2, v3, v4, v5, v6, v7, v8, vg⟩ := hw9
      go_simp
    simp only [List.getElem_toArray, List.getElem_cons_succ, List.getElem_cons_zero, Act.put, List.setIfInBounds_toArray, List.set_cons_zero, List.set_cons_succ]
    refine wpAnyH_take (i := 7) (v := .agg #[.int .i64 op, .int .i64 d, .int .i64 a, .int .i64 b]) rfl (by kernel_rfl) (by kernel_rfl) (by kernel_rfl) (fun _ _ _ h => h) (Or.inl ⟨by rfl, ?_⟩) hH ?_
    · intro w9 hw9
      obtain ⟨v0, v1, v2, v3, v4, v5, v6, v7, v8, vg⟩ := hw9
      go_simp
    simp only [List.getElem_toArray, List.getElem_cons_succ, List.getElem_cons_zero, Act.put, List.setIfInBounds_toArray, List.set_cons_zero, List.set_cons_succ]
    refine wpAnyH_ready (rs := [5]) (by kernel_rfl) (by simp) ?_
    refine AllReadyH.cons rfl (fun K hK => ?_) AllReadyH.nil
    go_simp
    refine templates_any o1 d1 a1 b1 _ HOK.out _ ?_
    intro w8 v8 hg8 hv8
    have HV8 := Lib.hid hv8
    obtain ⟨a8, c8, rfl, _⟩ := hv8
    go_wp2_with fail
    refine hK.out _ _ (keep9 hg8 hH) (fun hH2 => ?_)
    clear hK K hH
    have hH := hH2
    clear hH2
    refine wpAnyH_ready (rs := [8]) (by kernel_rfl) (by simp) ?_
    refine AllReadyH.cons rfl (fun K hK => ?_) AllReadyH.nil
    go_simp
    refine contains_any _ op d a b _ _ HV8.out _ ?_
    intro w7 hg7
    rw [HC.out]
    go_wp2_with fail
    refine hK.out _ _ (keep9 hg7 hH) (fun hH2 => ?_)
    clear hK K hH
    have hH := hH2
    clear hH2
    refine wpAnyH_take (i := 9) (v := .bool (!c)) rfl (by kernel_rfl) (by kernel_rfl) (by kernel_rfl) (fun _ _ _ h => h) (Or.inl ⟨by rfl, ?_⟩) hH ?_
    · intro w9 hw9
      obtain ⟨v0, v1, v2, v3, v4, v5, v6, v7, v8, vg⟩ := hw9
      go_simp
    simp only [List.getElem_toArray, List.getElem_cons_succ, List.getElem_cons_zero, Act.put, List.setIfInBounds_toArray, List.set_cons_zero, List.set_cons_succ]
    refine wpAnyH_done (by kernel_rfl) ?_ _
    obtain ⟨f0, f1, f2, f3, f4, _, _, _, _, hgw⟩ := hH
    have hz7 : w.heap.size < w7.heap.size := Nat.lt_of_lt_of_le hz hgw.sz
    have HG7 := Lib.hid (HG1.out.trans hgw)
    clear hgw hg7 hg8 e0 e1 e2 e3 e4 y0 y1 y2 y3 hz
    cases c with
    | false =>
      rw [if_neg (by decide)] at hk
      subst hk
      rw [ifOK_err (by decide)] at HR
      go_wp2_with fail
      exact HR.out w7 _ HG7.out (SlcAt.nil _ _ _) (NewS.nil _ _ _)
    | true =>
      rw [if_pos rfl] at hk
      subst hk
      rw [ifOK_ok, ← hbk rfl] at HR
      go_wp2_with fail
      refine kills8_any p ts n op d a b _ _ _ (HP.out.grow HG7.out) (HT.out.grow HG7.out) _ ?_
      intro w6 v6 hg6 hv6 hn6
      have HF := Lib.hid (HR.out w6 v6 (HG7.out.trans hg6) hv6 (hn6.mono HG7.out.sz))
      clear hg6 hv6 hn6
      go_wp2_with fail
      exact HF.out

end Go.Proofs.YtfbfkkaepgcggaaGreat
