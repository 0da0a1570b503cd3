/-



-/
import Derived.Test.YtmeejlgnhfkeaaaGreatDoorL00
import Derived.Test.YtmeejlgnhfkeaaaGreatDoorL03
import Derived.BigGuard
import Derived.Deep.RegionWith
namespace Go.Proofs.YtmeejlgnhfkeaaaGreatDoor
open Go.RowKit
theorem box5 {w : World} {b : Nat} {c0 c1 c2 c3 c4 : Value} {e : TypeId} (h : w.heap[b]? = some (.cells #[c0, c1, c2, c3, c4] e (0, 0))) : w.cell? ⟨b, 0, none⟩ = some c0 ∧ w.cell? ⟨b, 1, none⟩ = some c1 ∧ w.cell? ⟨b, 2, none⟩ = some c2 ∧ w.cell? ⟨b, 3, none⟩ = some c3 ∧ w.cell? ⟨b, 4, none⟩ = some c4 := by
 refine ⟨?_, ?_, ?_, ?_, ?_⟩ <;> (unfold World.cell?; simp only [h]; rfl)
theorem keep5 {w2 X Y : World} {a0 a1 a2 a3 a4 : Addr} {v0 v1 v2 v3 v4 : Value} (g : Grow X Y)
  (h : X.cell? a0 = some v0 ∧ X.cell? a1 = some v1 ∧ X.cell? a2 = some v2 ∧ X.cell? a3 = some v3 ∧ X.cell? a4 = some v4 ∧ Grow w2 X) :
  Y.cell? a0 = some v0 ∧ Y.cell? a1 = some v1 ∧ Y.cell? a2 = some v2 ∧ Y.cell? a3 = some v3 ∧ Y.cell? a4 = some v4 ∧ Grow w2 Y :=
 ⟨g.cell h.1, g.cell h.2.1, g.cell h.2.2.1, g.cell h.2.2.2.1, g.cell h.2.2.2.2.1, h.2.2.2.2.2.trans g⟩
theorem keep6 {w2 X Y : World} {a0 a1 a2 a3 a4 a5 : Addr} {v0 v1 v2 v3 v4 v5 : Value} (g : Grow X Y)
  (h : X.cell? a0 = some v0 ∧ X.cell? a1 = some v1 ∧ X.cell? a2 = some v2 ∧ X.cell? a3 = some v3 ∧ X.cell? a4 = some v4 ∧ X.cell? a5 = some v5 ∧ Grow w2 X) :
  Y.cell? a0 = some v0 ∧ Y.cell? a1 = some v1 ∧ Y.cell? a2 = some v2 ∧ Y.cell? a3 = some v3 ∧ Y.cell? a4 = some v4 ∧ Y.cell? a5 = some v5 ∧ Grow w2 Y :=
 ⟨g.cell h.1, g.cell h.2.1, g.cell h.2.2.1, g.cell h.2.2.2.1, g.cell h.2.2.2.2.1, g.cell h.2.2.2.2.2.1, h.2.2.2.2.2.2.trans g⟩
theorem upto_succ {f : Nat → Bool} {k : Nat} (h : ∀ i < k, f i = true) (hk : f k = true) : ∀ i < k + 1, f i = true := fun i hi => by
 by_cases e : i = k
 ·rw [e]; exact hk
 ·exact h i (by omega)
set_option maxRecDepth 100000 in
set_option maxHeartbeats 16000000 in
theorem validateX_any (x : List Ed) (v : Value) (w : World) (hx : EditsAt w v x) (R : Ending → World → Prop) (hR : ∀ w', Grow w w' → R (.returned (.int .i64 (valX x))) w') :
  Calls Tryz.prog 138 #[v] w R := by
 have HX := Lib.hid hx
 have HR := Lib.hid hR
 obtain ⟨a, c, rfl, h1, h2, _⟩ := hx
 clear hR
 by_cases hl : 4 < x.length
 ·have hv : valX x = 3 := by unfold valX; rw [if_pos hl]
  rw [hv] at HR
  have hl2 : (x.length : Int) > 4 := by omega
  go_enter Tryz.func138, Tryz.ntmps138
  go_wp2_with fail
  exact HR.out _ (Grow.refl _)
 ·have hv : valX x = errB (edsOK x) := by unfold valX; rw [if_neg hl]
  rw [hv] at HR
  clear hv
  have hl2 : ¬ (x.length : Int) > 4 := by omega
  go_enter Tryz.func138, Tryz.ntmps138
  go_wp2_with fail
  go_loopw [3, 4, 10] (fun _ _ i wr => ∃ k : Nat, k ≤ x.length ∧ i = .int .i64 k ∧ Grow w wr ∧ ∀ i < k, edOK x i = true) (fun _ _ i _ => x.length - (intOf i).toNat)
  case atStart => exact ⟨0, Nat.zero_le _, rfl, Grow.refl _, fun i hi => by omega⟩
  case round =>
   obtain ⟨k, hk, rfl, hg, hall⟩ := hrel
   have HG := Lib.hid hg
   have HALL := Lib.hid hall
   have hzw := hg.sz
   clear hg hall
   by_cases hlt : k < x.length
   rotate_left
   ·rw [edsOK_upto HALL.out (by omega), errB_true] at HR
    have HF := Lib.hid (HR.out _ HG.out)
    go_wp2_with fail
    exact HF.out
   obtain ⟨⟨t, op, d, a', b'⟩, he⟩ : ∃ e, x[k]? = some e := ⟨_, List.getElem?_eq_getElem hlt⟩
   have hiff := edOK_iff he
   dsimp only at hiff
   have HIFF := Lib.hid hiff
   have hltk : (k : Int) < (x.length : Int) := by omega
   have hpv : (k = 0 ∧ prevAt x k = -1) ∨ ∃ (j : Nat) (q : Ed), k = j + 1 ∧ x[j]? = some q ∧ prevAt x k = q.at_ := by
    by_cases h0 : k = 0
    ·exact .inl ⟨h0, by unfold prevAt; rw [if_pos h0]⟩
    ·obtain ⟨q, hq⟩ : ∃ q, x[k - 1]? = some q := ⟨_, List.getElem?_eq_getElem (by omega)⟩
     exact .inr ⟨k - 1, q, by omega, hq, by unfold prevAt; rw [if_neg h0, hq]⟩
   obtain ⟨pv, hpvd⟩ : ∃ z, prevAt x k = z := ⟨_, rfl⟩
   rw [hpvd] at hpv HIFF
   clear hiff hpvd
   obtain ⟨gb, o, rfl, hgb, y0, y1, y2, y3, y4⟩ := edits_at (HX.out.grow HG.out) he
   have HE := Lib.hid he
   clear he
   have BX := Lib.hid (heap_alloc_new wr (.cells #[.int .i64 t, .int .i64 op, .int .i64 d, .int .i64 a', .int .i64 b'] 60))
   have GX := Lib.hid ((Grow.refl wr).alloc (.cells #[.int .i64 t, .int .i64 op, .int .i64 d, .int .i64 a', .int .i64 b'] 60))
   rcases hpv with ⟨h0, hpv⟩ | ⟨j, q, hkj, hq, hpv⟩
   ·have hk0 : ¬ (k : Int) > 0 := by omega
    subst hpv
    by_cases s0 : t < 0
    ·skip
     have HOKK := Lib.hid (show edOK x k = false by rw [← Bool.not_eq_true, HIFF.out]; omega)
     have s0d0 : decide (t < 0) = true := by simp; omega
     try clear h0
     go_wp2_with fail
     generalize wr.alloc (.cells #[.int .i64 t, .int .i64 op, .int .i64 d, .int .i64 a', .int .i64 b'] 60) = W at BX GX ⊢
     obtain ⟨c0, c1, c2, c3, c4⟩ := box5 BX.out
     have hz := lt_of_block BX.out
     clear y0 y1 y2 y3 y4
     have HF := HR.out
     rw [edsOK_bad hlt HOKK.out, errB_false] at HF
     have HF2 := Lib.hid HF
     clear HF
     go_wp2_with (go_quiet (fail))
     exact HF2.out _ (HG.out.trans (GX.out.drewN _))
    by_cases s1 : 8 ≤ t
    ·skip
     have HOKK := Lib.hid (show edOK x k = false by rw [← Bool.not_eq_true, HIFF.out]; omega)
     have s0d0 : decide (t < 0) = false := by simp; omega
     have s1d0 : decide (t ≥ 8) = true := by simp; omega
     have s1d1 : decide (8 ≤ t) = true := by simp; omega
     try clear h0
     go_wp2_with fail
     generalize wr.alloc (.cells #[.int .i64 t, .int .i64 op, .int .i64 d, .int .i64 a', .int .i64 b'] 60) = W at BX GX ⊢
     obtain ⟨c0, c1, c2, c3, c4⟩ := box5 BX.out
     have hz := lt_of_block BX.out
     clear y0 y1 y2 y3 y4
     have HF := HR.out
     rw [edsOK_bad hlt HOKK.out, errB_false] at HF
     have HF2 := Lib.hid HF
     clear HF
     go_wp2_with (go_quiet (fail))
     exact HF2.out _ (HG.out.trans (GX.out.drewN _))
    cases hv : vL op d a' b' with
    | false =>
     have HOKK := Lib.hid (show edOK x k = false by rw [← Bool.not_eq_true, HIFF.out]; rintro ⟨_, _, h⟩; unfold Ln.ok at h; rw [hv] at h; cases h)
     have HV := Lib.hid (show errB (vL op d a' b') = 1 by rw [hv]; rfl)
     clear hv
     have s0d0 : decide (t < 0) = false := by simp; omega
     have s1d0 : decide (t ≥ 8) = false := by simp; omega
     have s1d1 : decide (8 ≤ t) = false := by simp; omega
     have kzd0 : decide ((k : Int) > 0) = false := by simp; omega
     have kzd1 : decide (0 < (k : Int)) = false := by simp; omega
     have kzd2 : decide (0 < k) = false := by simp; omega
     clear h0
     try clear h0
     go_wp2_with fail
     generalize wr.alloc (.cells #[.int .i64 t, .int .i64 op, .int .i64 d, .int .i64 a', .int .i64 b'] 60) = W at BX GX ⊢
     obtain ⟨c0, c1, c2, c3, c4⟩ := box5 BX.out
     have hz := lt_of_block BX.out
     clear y0 y1 y2 y3 y4
     refine wp_region_held_drew (S := fun X => X.cell? ⟨wr.heap.size, 0, none⟩ = some (.int .i64 t) ∧ X.cell? ⟨wr.heap.size, 1, none⟩ = some (.int .i64 op) ∧ X.cell? ⟨wr.heap.size, 2, none⟩ = some (.int .i64 d) ∧ X.cell? ⟨wr.heap.size, 3, none⟩ = some (.int .i64 a') ∧ X.cell? ⟨wr.heap.size, 4, none⟩ = some (.int .i64 b') ∧ Grow W X) (by kernel_rfl) ⟨c0, c1, c2, c3, c4, (Grow.refl W).drew⟩ (fun hH => ?_)
     refine wpAnyH_take (i := 0) (v := .pointer (some ⟨wr.heap.size, 0, none⟩)) rfl (by kernel_rfl) (by kernel_rfl) (by kernel_rfl) (fun _ _ _ h => h) (Or.inl ⟨by rfl, ?_⟩) hH ?_
     ·intro w9 hw9
      obtain ⟨d0, d1, d2, d3, d4, dg⟩ := hw9
      go_simp
     simp only [List.getElem_toArray, List.getElem_cons_zero, Act.put, List.setIfInBounds_toArray, List.set_cons_zero, List.set_cons_succ]
     refine wpAnyH_take (i := 1) (v := .int .i64 t) rfl (by kernel_rfl) (by kernel_rfl) (by kernel_rfl) (fun _ _ _ h => h) (Or.inl ⟨by rfl, ?_⟩) hH ?_
     ·intro w9 hw9
      obtain ⟨d0, d1, d2, d3, d4, dg⟩ := hw9
      go_simp
     simp only [nrm, Act.put]
     refine wpAnyH_take (i := 2) (v := .bool false) rfl (by kernel_rfl) (by kernel_rfl) (by kernel_rfl) (fun _ _ _ h => h) (Or.inl ⟨by rfl, ?_⟩) hH ?_
     ·intro w9 hw9
      obtain ⟨d0, d1, d2, d3, d4, dg⟩ := hw9
      go_simp
     simp only [nrm, Act.put]
     refine wpAnyH_take (i := 3) (v := .bool false) rfl (by kernel_rfl) (by kernel_rfl) (by kernel_rfl) (fun _ _ _ h => h) (Or.inl ⟨by rfl, ?_⟩) hH ?_
     ·intro w9 hw9
      obtain ⟨d0, d1, d2, d3, d4, dg⟩ := hw9
      go_simp
     simp only [nrm, Act.put]
     refine wpAnyH_take (i := 4) (v := .pointer (some ⟨wr.heap.size, 0, none⟩)) rfl (by kernel_rfl) (by kernel_rfl) (by kernel_rfl) (fun _ _ _ h => h) (Or.inl ⟨by rfl, ?_⟩) hH ?_
     ·intro w9 hw9
      obtain ⟨d0, d1, d2, d3, d4, dg⟩ := hw9
      go_simp
     simp only [nrm, Act.put]
     refine wpAnyH_take (i := 5) (v := .int .i64 t) rfl (by kernel_rfl) (by kernel_rfl) (by kernel_rfl) (fun _ _ _ h => h) (Or.inl ⟨by rfl, ?_⟩) hH ?_
     ·intro w9 hw9
      obtain ⟨d0, d1, d2, d3, d4, dg⟩ := hw9
      go_simp
     simp only [nrm, Act.put]
     refine wpAnyH_take (i := 6) (v := .bool false) rfl (by kernel_rfl) (by kernel_rfl) (by kernel_rfl) (fun _ _ _ h => h) (Or.inl ⟨by rfl, ?_⟩) hH ?_
     ·intro w9 hw9
      obtain ⟨d0, d1, d2, d3, d4, dg⟩ := hw9
      go_simp
     simp only [nrm, Act.put]
     refine wpAnyH_take (i := 7) (v := .bool false) rfl (by kernel_rfl) (by kernel_rfl) (by kernel_rfl) (fun _ _ _ h => h) (Or.inl ⟨by rfl, ?_⟩) hH ?_
     ·intro w9 hw9
      obtain ⟨d0, d1, d2, d3, d4, dg⟩ := hw9
      go_simp
     simp only [nrm, Act.put]
     refine wpAnyH_take (i := 8) (v := .bool false) rfl (by kernel_rfl) (by kernel_rfl) (by kernel_rfl) (fun _ _ _ h => h) (Or.inl ⟨by rfl, ?_⟩) hH ?_
     ·intro w9 hw9
      obtain ⟨d0, d1, d2, d3, d4, dg⟩ := hw9
      go_simp
     simp only [nrm, Act.put]
     refine wpAnyH_take (i := 9) (v := .int .i64 k) rfl (by kernel_rfl) (by kernel_rfl) (by kernel_rfl) (fun _ _ _ h => h) (Or.inl ⟨by rfl, ?_⟩) hH ?_
     ·intro w9 hw9
      obtain ⟨d0, d1, d2, d3, d4, dg⟩ := hw9
      go_simp
     simp only [nrm, Act.put]
     refine wpAnyH_take (i := 10) (v := .bool false) rfl (by kernel_rfl) (by kernel_rfl) (by kernel_rfl) (fun _ _ _ h => h) (Or.inl ⟨by rfl, ?_⟩) hH ?_
     ·intro w9 hw9
      obtain ⟨d0, d1, d2, d3, d4, dg⟩ := hw9
      go_simp
     simp only [nrm, Act.put]
     refine wpAnyH_take (i := 11) (v := .bool false) rfl (by kernel_rfl) (by kernel_rfl) (by kernel_rfl) (fun _ _ _ h => h) (Or.inl ⟨by rfl, ?_⟩) hH ?_
     ·intro w9 hw9
      obtain ⟨d0, d1, d2, d3, d4, dg⟩ := hw9
      go_simp
     simp only [nrm, Act.put]
     refine wpAnyH_take (i := 12) (v := undef) rfl (by kernel_rfl) (by kernel_rfl) (by kernel_rfl) (fun _ _ _ h => h) (Or.inr ⟨by rfl, rfl⟩) hH ?_
     simp only [nrm, Act.put]
     refine wpAnyH_take (i := 13) (v := undef) rfl (by kernel_rfl) (by kernel_rfl) (by kernel_rfl) (fun _ _ _ h => h) (Or.inr ⟨by rfl, rfl⟩) hH ?_
     simp only [nrm, Act.put]
     refine wpAnyH_take (i := 14) (v := undef) rfl (by kernel_rfl) (by kernel_rfl) (by kernel_rfl) (fun _ _ _ h => h) (Or.inr ⟨by rfl, rfl⟩) hH ?_
     simp only [nrm, Act.put]
     refine wpAnyH_take (i := 15) (v := undef) rfl (by kernel_rfl) (by kernel_rfl) (by kernel_rfl) (fun _ _ _ h => h) (Or.inr ⟨by rfl, rfl⟩) hH ?_
     simp only [nrm, Act.put]
     refine wpAnyH_take (i := 16) (v := undef) rfl (by kernel_rfl) (by kernel_rfl) (by kernel_rfl) (fun _ _ _ h => h) (Or.inr ⟨by rfl, rfl⟩) hH ?_
     simp only [nrm, Act.put]
     refine wpAnyH_take (i := 17) (v := undef) rfl (by kernel_rfl) (by kernel_rfl) (by kernel_rfl) (fun _ _ _ h => h) (Or.inr ⟨by rfl, rfl⟩) hH ?_
     simp only [nrm, Act.put]
     refine wpAnyH_take (i := 18) (v := undef) rfl (by kernel_rfl) (by kernel_rfl) (by kernel_rfl) (fun _ _ _ h => h) (Or.inr ⟨by rfl, rfl⟩) hH ?_
     simp only [nrm, Act.put]
     refine wpAnyH_take (i := 19) (v := undef) rfl (by kernel_rfl) (by kernel_rfl) (by kernel_rfl) (fun _ _ _ h => h) (Or.inr ⟨by rfl, rfl⟩) hH ?_
     simp only [nrm, Act.put]
     refine wpAnyH_take (i := 20) (v := undef) rfl (by kernel_rfl) (by kernel_rfl) (by kernel_rfl) (fun _ _ _ h => h) (Or.inr ⟨by rfl, rfl⟩) hH ?_
     simp only [nrm, Act.put]
     refine wpAnyH_take (i := 21) (v := .bool false) rfl (by kernel_rfl) (by kernel_rfl) (by kernel_rfl) (fun _ _ _ h => h) (Or.inl ⟨by rfl, ?_⟩) hH ?_
     ·intro w9 hw9
      obtain ⟨d0, d1, d2, d3, d4, dg⟩ := hw9
      go_simp
     simp only [nrm, Act.put]
     refine wpAnyH_take (i := 22) (v := .bool false) rfl (by kernel_rfl) (by kernel_rfl) (by kernel_rfl) (fun _ _ _ h => h) (Or.inl ⟨by rfl, ?_⟩) hH ?_
     ·intro w9 hw9
      obtain ⟨d0, d1, d2, d3, d4, dg⟩ := hw9
      go_simp
     simp only [nrm, Act.put]
     refine wpAnyH_take (i := 23) (v := .bool false) rfl (by kernel_rfl) (by kernel_rfl) (by kernel_rfl) (fun _ _ _ h => h) (Or.inl ⟨by rfl, ?_⟩) hH ?_
     ·intro w9 hw9
      obtain ⟨d0, d1, d2, d3, d4, dg⟩ := hw9
      go_simp
     simp only [nrm, Act.put]
     refine wpAnyH_take (i := 24) (v := .pointer (some ⟨wr.heap.size, 1, none⟩)) rfl (by kernel_rfl) (by kernel_rfl) (by kernel_rfl) (fun _ _ _ h => h) (Or.inl ⟨by rfl, ?_⟩) hH ?_
     ·intro w9 hw9
      obtain ⟨d0, d1, d2, d3, d4, dg⟩ := hw9
      go_simp
     simp only [nrm, Act.put]
     refine wpAnyH_take (i := 25) (v := .agg #[.int .i64 op, .int .i64 d, .int .i64 a', .int .i64 b']) rfl (by kernel_rfl) (by kernel_rfl) (by kernel_rfl) (fun _ _ _ h => h) (Or.inl ⟨by rfl, ?_⟩) hH ?_
     ·intro w9 hw9
      obtain ⟨d0, d1, d2, d3, d4, dg⟩ := hw9
      go_simp
     simp only [nrm, Act.put]
     refine wpAnyH_ready (rs := [26]) (by kernel_rfl) (by simp) ?_
     refine AllReadyH.cons rfl (fun K hK => ?_) AllReadyH.nil
     go_simp
     refine validateLine_any op d a' b' _ _ ?_
     intro w8 hg8
     rw [HV.out]
     go_wp2_with fail
     refine hK.out _ _ (keep5 hg8 hH) (fun hH2 => ?_)
     have hgW : Grow W w8 := hH2.2.2.2.2.2
     clear hK K hH
     have hH := hH2
     clear hH2
     refine wpAnyH_take (i := 27) (v := .bool true) rfl (by kernel_rfl) (by kernel_rfl) (by kernel_rfl) (fun _ _ _ h => h) (Or.inl ⟨by rfl, ?_⟩) hH ?_
     ·intro w9 hw9
      obtain ⟨d0, d1, d2, d3, d4, dg⟩ := hw9
      go_simp
     simp only [nrm, Act.put]
     refine wpAnyH_take (i := 28) (v := .bool true) rfl (by kernel_rfl) (by kernel_rfl) (by kernel_rfl) (fun _ _ _ h => h) (Or.inl ⟨by rfl, ?_⟩) hH ?_
     ·intro w9 hw9
      obtain ⟨d0, d1, d2, d3, d4, dg⟩ := hw9
      go_simp
     simp only [nrm, Act.put]
     refine wpAnyH_done (by kernel_rfl) ?_ _
     have HGW := Lib.hid (HG.out.trans (GX.out.trans hgW))
     clear hgW
     have HF := HR.out
     rw [edsOK_bad hlt HOKK.out, errB_false] at HF
     have HF2 := Lib.hid HF
     clear HF
     go_wp2_with fail
     first | exact HF2.out _ HGW.out | exact HF2.out _ (HG.out.trans (GX.out.drew)) | exact HF2.out _ (HG.out.trans GX.out) | exact HF2.out _ (HG.out.trans (GX.out.drewN _))
    | true =>
     have HOKK := Lib.hid (show edOK x k = true from HIFF.out.2 ⟨by omega, by omega, hv⟩)
     have HV := Lib.hid (show errB (vL op d a' b') = 0 by rw [hv]; rfl)
     clear hv
     have s0d0 : decide (t < 0) = false := by simp; omega
     have s1d0 : decide (t ≥ 8) = false := by simp; omega
     have s1d1 : decide (8 ≤ t) = false := by simp; omega
     have kzd0 : decide ((k : Int) > 0) = false := by simp; omega
     have kzd1 : decide (0 < (k : Int)) = false := by simp; omega
     have kzd2 : decide (0 < k) = false := by simp; omega
     clear h0
     try clear h0
     go_wp2_with fail
     generalize wr.alloc (.cells #[.int .i64 t, .int .i64 op, .int .i64 d, .int .i64 a', .int .i64 b'] 60) = W at BX GX ⊢
     obtain ⟨c0, c1, c2, c3, c4⟩ := box5 BX.out
     have hz := lt_of_block BX.out
     clear y0 y1 y2 y3 y4
     refine wp_region_held_drew (S := fun X => X.cell? ⟨wr.heap.size, 0, none⟩ = some (.int .i64 t) ∧ X.cell? ⟨wr.heap.size, 1, none⟩ = some (.int .i64 op) ∧ X.cell? ⟨wr.heap.size, 2, none⟩ = some (.int .i64 d) ∧ X.cell? ⟨wr.heap.size, 3, none⟩ = some (.int .i64 a') ∧ X.cell? ⟨wr.heap.size, 4, none⟩ = some (.int .i64 b') ∧ Grow W X) (by kernel_rfl) ⟨c0, c1, c2, c3, c4, (Grow.refl W).drew⟩ (fun hH => ?_)
     refine wpAnyH_take (i := 0) (v := .pointer (some ⟨wr.heap.size, 0, none⟩)) rfl (by kernel_rfl) (by kernel_rfl) (by kernel_rfl) (fun _ _ _ h => h) (Or.inl ⟨by rfl, ?_⟩) hH ?_
     ·intro w9 hw9
      obtain ⟨d0, d1, d2, d3, d4, dg⟩ := hw9
      go_simp
     simp only [List.getElem_toArray, List.getElem_cons_zero, Act.put, List.setIfInBounds_toArray, List.set_cons_zero, List.set_cons_succ]
     refine wpAnyH_take (i := 1) (v := .int .i64 t) rfl (by kernel_rfl) (by kernel_rfl) (by kernel_rfl) (fun _ _ _ h => h) (Or.inl ⟨by rfl, ?_⟩) hH ?_
     ·intro w9 hw9
      obtain ⟨d0, d1, d2, d3, d4, dg⟩ := hw9
      go_simp
     simp only [nrm, Act.put]
     refine wpAnyH_take (i := 2) (v := .bool false) rfl (by kernel_rfl) (by kernel_rfl) (by kernel_rfl) (fun _ _ _ h => h) (Or.inl ⟨by rfl, ?_⟩) hH ?_
     ·intro w9 hw9
      obtain ⟨d0, d1, d2, d3, d4, dg⟩ := hw9
      go_simp
     simp only [nrm, Act.put]
     refine wpAnyH_take (i := 3) (v := .bool false) rfl (by kernel_rfl) (by kernel_rfl) (by kernel_rfl) (fun _ _ _ h => h) (Or.inl ⟨by rfl, ?_⟩) hH ?_
     ·intro w9 hw9
      obtain ⟨d0, d1, d2, d3, d4, dg⟩ := hw9
      go_simp
     simp only [nrm, Act.put]
     refine wpAnyH_take (i := 4) (v := .pointer (some ⟨wr.heap.size, 0, none⟩)) rfl (by kernel_rfl) (by kernel_rfl) (by kernel_rfl) (fun _ _ _ h => h) (Or.inl ⟨by rfl, ?_⟩) hH ?_
     ·intro w9 hw9
      obtain ⟨d0, d1, d2, d3, d4, dg⟩ := hw9
      go_simp
     simp only [nrm, Act.put]
     refine wpAnyH_take (i := 5) (v := .int .i64 t) rfl (by kernel_rfl) (by kernel_rfl) (by kernel_rfl) (fun _ _ _ h => h) (Or.inl ⟨by rfl, ?_⟩) hH ?_
     ·intro w9 hw9
      obtain ⟨d0, d1, d2, d3, d4, dg⟩ := hw9
      go_simp
     simp only [nrm, Act.put]
     refine wpAnyH_take (i := 6) (v := .bool false) rfl (by kernel_rfl) (by kernel_rfl) (by kernel_rfl) (fun _ _ _ h => h) (Or.inl ⟨by rfl, ?_⟩) hH ?_
     ·intro w9 hw9
      obtain ⟨d0, d1, d2, d3, d4, dg⟩ := hw9
      go_simp
     simp only [nrm, Act.put]
     refine wpAnyH_take (i := 7) (v := .bool false) rfl (by kernel_rfl) (by kernel_rfl) (by kernel_rfl) (fun _ _ _ h => h) (Or.inl ⟨by rfl, ?_⟩) hH ?_
     ·intro w9 hw9
      obtain ⟨d0, d1, d2, d3, d4, dg⟩ := hw9
      go_simp
     simp only [nrm, Act.put]
     refine wpAnyH_take (i := 8) (v := .bool false) rfl (by kernel_rfl) (by kernel_rfl) (by kernel_rfl) (fun _ _ _ h => h) (Or.inl ⟨by rfl, ?_⟩) hH ?_
     ·intro w9 hw9
      obtain ⟨d0, d1, d2, d3, d4, dg⟩ := hw9
      go_simp
     simp only [nrm, Act.put]
     refine wpAnyH_take (i := 9) (v := .int .i64 k) rfl (by kernel_rfl) (by kernel_rfl) (by kernel_rfl) (fun _ _ _ h => h) (Or.inl ⟨by rfl, ?_⟩) hH ?_
     ·intro w9 hw9
      obtain ⟨d0, d1, d2, d3, d4, dg⟩ := hw9
      go_simp
     simp only [nrm, Act.put]
     refine wpAnyH_take (i := 10) (v := .bool false) rfl (by kernel_rfl) (by kernel_rfl) (by kernel_rfl) (fun _ _ _ h => h) (Or.inl ⟨by rfl, ?_⟩) hH ?_
     ·intro w9 hw9
      obtain ⟨d0, d1, d2, d3, d4, dg⟩ := hw9
      go_simp
     simp only [nrm, Act.put]
     refine wpAnyH_take (i := 11) (v := .bool false) rfl (by kernel_rfl) (by kernel_rfl) (by kernel_rfl) (fun _ _ _ h => h) (Or.inl ⟨by rfl, ?_⟩) hH ?_
     ·intro w9 hw9
      obtain ⟨d0, d1, d2, d3, d4, dg⟩ := hw9
      go_simp
     simp only [nrm, Act.put]
     refine wpAnyH_take (i := 12) (v := undef) rfl (by kernel_rfl) (by kernel_rfl) (by kernel_rfl) (fun _ _ _ h => h) (Or.inr ⟨by rfl, rfl⟩) hH ?_
     simp only [nrm, Act.put]
     refine wpAnyH_take (i := 13) (v := undef) rfl (by kernel_rfl) (by kernel_rfl) (by kernel_rfl) (fun _ _ _ h => h) (Or.inr ⟨by rfl, rfl⟩) hH ?_
     simp only [nrm, Act.put]
     refine wpAnyH_take (i := 14) (v := undef) rfl (by kernel_rfl) (by kernel_rfl) (by kernel_rfl) (fun _ _ _ h => h) (Or.inr ⟨by rfl, rfl⟩) hH ?_
     simp only [nrm, Act.put]
     refine wpAnyH_take (i := 15) (v := undef) rfl (by kernel_rfl) (by kernel_rfl) (by kernel_rfl) (fun _ _ _ h => h) (Or.inr ⟨by rfl, rfl⟩) hH ?_
     simp only [nrm, Act.put]
     refine wpAnyH_take (i := 16) (v := undef) rfl (by kernel_rfl) (by kernel_rfl) (by kernel_rfl) (fun _ _ _ h => h) (Or.inr ⟨by rfl, rfl⟩) hH ?_
     simp only [nrm, Act.put]
     refine wpAnyH_take (i := 17) (v := undef) rfl (by kernel_rfl) (by kernel_rfl) (by kernel_rfl) (fun _ _ _ h => h) (Or.inr ⟨by rfl, rfl⟩) hH ?_
     simp only [nrm, Act.put]
     refine wpAnyH_take (i := 18) (v := undef) rfl (by kernel_rfl) (by kernel_rfl) (by kernel_rfl) (fun _ _ _ h => h) (Or.inr ⟨by rfl, rfl⟩) hH ?_
     simp only [nrm, Act.put]
     refine wpAnyH_take (i := 19) (v := undef) rfl (by kernel_rfl) (by kernel_rfl) (by kernel_rfl) (fun _ _ _ h => h) (Or.inr ⟨by rfl, rfl⟩) hH ?_
     simp only [nrm, Act.put]
     refine wpAnyH_take (i := 20) (v := undef) rfl (by kernel_rfl) (by kernel_rfl) (by kernel_rfl) (fun _ _ _ h => h) (Or.inr ⟨by rfl, rfl⟩) hH ?_
     simp only [nrm, Act.put]
     refine wpAnyH_take (i := 21) (v := .bool false) rfl (by kernel_rfl) (by kernel_rfl) (by kernel_rfl) (fun _ _ _ h => h) (Or.inl ⟨by rfl, ?_⟩) hH ?_
     ·intro w9 hw9
      obtain ⟨d0, d1, d2, d3, d4, dg⟩ := hw9
      go_simp
     simp only [nrm, Act.put]
     refine wpAnyH_take (i := 22) (v := .bool false) rfl (by kernel_rfl) (by kernel_rfl) (by kernel_rfl) (fun _ _ _ h => h) (Or.inl ⟨by rfl, ?_⟩) hH ?_
     ·intro w9 hw9
      obtain ⟨d0, d1, d2, d3, d4, dg⟩ := hw9
      go_simp
     simp only [nrm, Act.put]
     refine wpAnyH_take (i := 23) (v := .bool false) rfl (by kernel_rfl) (by kernel_rfl) (by kernel_rfl) (fun _ _ _ h => h) (Or.inl ⟨by rfl, ?_⟩) hH ?_
     ·intro w9 hw9
      obtain ⟨d0, d1, d2, d3, d4, dg⟩ := hw9
      go_simp
     simp only [nrm, Act.put]
     refine wpAnyH_take (i := 24) (v := .pointer (some ⟨wr.heap.size, 1, none⟩)) rfl (by kernel_rfl) (by kernel_rfl) (by kernel_rfl) (fun _ _ _ h => h) (Or.inl ⟨by rfl, ?_⟩) hH ?_
     ·intro w9 hw9
      obtain ⟨d0, d1, d2, d3, d4, dg⟩ := hw9
      go_simp
     simp only [nrm, Act.put]
     refine wpAnyH_take (i := 25) (v := .agg #[.int .i64 op, .int .i64 d, .int .i64 a', .int .i64 b']) rfl (by kernel_rfl) (by kernel_rfl) (by kernel_rfl) (fun _ _ _ h => h) (Or.inl ⟨by rfl, ?_⟩) hH ?_
     ·intro w9 hw9
      obtain ⟨d0, d1, d2, d3, d4, dg⟩ := hw9
      go_simp
     simp only [nrm, Act.put]
     refine wpAnyH_ready (rs := [26]) (by kernel_rfl) (by simp) ?_
     refine AllReadyH.cons rfl (fun K hK => ?_) AllReadyH.nil
     go_simp
     refine validateLine_any op d a' b' _ _ ?_
     intro w8 hg8
     rw [HV.out]
     go_wp2_with fail
     refine hK.out _ _ (keep5 hg8 hH) (fun hH2 => ?_)
     have hgW : Grow W w8 := hH2.2.2.2.2.2
     clear hK K hH
     have hH := hH2
     clear hH2
     refine wpAnyH_take (i := 27) (v := .bool false) rfl (by kernel_rfl) (by kernel_rfl) (by kernel_rfl) (fun _ _ _ h => h) (Or.inl ⟨by rfl, ?_⟩) hH ?_
     ·intro w9 hw9
      obtain ⟨d0, d1, d2, d3, d4, dg⟩ := hw9
      go_simp
     simp only [nrm, Act.put]
     refine wpAnyH_take (i := 28) (v := .bool false) rfl (by kernel_rfl) (by kernel_rfl) (by kernel_rfl) (fun _ _ _ h => h) (Or.inl ⟨by rfl, ?_⟩) hH ?_
     ·intro w9 hw9
      obtain ⟨d0, d1, d2, d3, d4, dg⟩ := hw9
      go_simp
     simp only [nrm, Act.put]
     refine wpAnyH_done (by kernel_rfl) ?_ _
     have HGW := Lib.hid (HG.out.trans (GX.out.trans hgW))
     clear hgW
     go_wp2_with fail
     go_roundw
     case rel => exact ⟨k + 1, by omega, by go_num, HGW.out, upto_succ HALL.out HOKK.out⟩
     case measure => simp [intOf]; omega
   ·have hk0 : (k : Int) > 0 := by omega
    obtain ⟨qt, qo, qd, qa, qb⟩ := q
    dsimp only at hpv
    obtain ⟨gb2, o2, e2, _, q0, _⟩ := edits_at (HX.out.grow HG.out) hq
    cases e2
    subst hpv
    have hkj2 : (k : Int) - 1 = (j : Int) := by omega
    have hjx : (j : Int) < (x.length : Int) := by omega
    have hwj : IntKind.i64.wrap (j : Int) = (j : Int) := IntWalk.i64_in _ (by omega)
    have hj0 : (0 : Int) ≤ (j : Int) := by omega
    have hjn : j < x.length := by omega
    clear hq hkj
    by_cases s0 : t < 0
    ·skip
     have HOKK := Lib.hid (show edOK x k = false by rw [← Bool.not_eq_true, HIFF.out]; omega)
     have s0d0 : decide (t < 0) = true := by simp; omega
     try clear h0
     go_wp2_with fail
     generalize wr.alloc (.cells #[.int .i64 t, .int .i64 op, .int .i64 d, .int .i64 a', .int .i64 b'] 60) = W at BX GX ⊢
     obtain ⟨c0, c1, c2, c3, c4⟩ := box5 BX.out
     have hz := lt_of_block BX.out
     have p0 := GX.out.cell q0
     have hz2 : gb < W.heap.size := by have := GX.out.sz; omega
     clear y0 y1 y2 y3 y4 q0
     have HF := HR.out
     rw [edsOK_bad hlt HOKK.out, errB_false] at HF
     have HF2 := Lib.hid HF
     clear HF
     go_wp2_with (go_quiet (fail))
     exact HF2.out _ (HG.out.trans (GX.out.drewN _))
    by_cases s1 : 8 ≤ t
    ·skip
     have HOKK := Lib.hid (show edOK x k = false by rw [← Bool.not_eq_true, HIFF.out]; omega)
     have s0d0 : decide (t < 0) = false := by simp; omega
     have s1d0 : decide (t ≥ 8) = true := by simp; omega
     have s1d1 : decide (8 ≤ t) = true := by simp; omega
     try clear h0
     go_wp2_with fail
     generalize wr.alloc (.cells #[.int .i64 t, .int .i64 op, .int .i64 d, .int .i64 a', .int .i64 b'] 60) = W at BX GX ⊢
     obtain ⟨c0, c1, c2, c3, c4⟩ := box5 BX.out
     have hz := lt_of_block BX.out
     have p0 := GX.out.cell q0
     have hz2 : gb < W.heap.size := by have := GX.out.sz; omega
     clear y0 y1 y2 y3 y4 q0
     have HF := HR.out
     rw [edsOK_bad hlt HOKK.out, errB_false] at HF
     have HF2 := Lib.hid HF
     clear HF
     go_wp2_with (go_quiet (fail))
     exact HF2.out _ (HG.out.trans (GX.out.drewN _))
    by_cases s2 : t ≤ pv
    ·skip
     have HOKK := Lib.hid (show edOK x k = false by rw [← Bool.not_eq_true, HIFF.out]; omega)
     have s0d0 : decide (t < 0) = false := by simp; omega
     have s1d0 : decide (t ≥ 8) = false := by simp; omega
     have s1d1 : decide (8 ≤ t) = false := by simp; omega
     have kzd0 : decide ((k : Int) > 0) = true := by simp; omega
     have kzd1 : decide (0 < (k : Int)) = true := by simp; omega
     have kzd2 : decide (0 < k) = true := by simp; omega
     have s2d0 : decide (pv ≥ t) = true := by simp; omega
     have s2d1 : decide (t ≤ pv) = true := by simp; omega
     try clear h0
     go_wp2_with fail
     generalize wr.alloc (.cells #[.int .i64 t, .int .i64 op, .int .i64 d, .int .i64 a', .int .i64 b'] 60) = W at BX GX ⊢
     obtain ⟨c0, c1, c2, c3, c4⟩ := box5 BX.out
     have hz := lt_of_block BX.out
     have p0 := GX.out.cell q0
     have hz2 : gb < W.heap.size := by have := GX.out.sz; omega
     clear y0 y1 y2 y3 y4 q0
     have HF := HR.out
     rw [edsOK_bad hlt HOKK.out, errB_false] at HF
     have HF2 := Lib.hid HF
     clear HF
     go_wp2_with (go_quiet (fail))
     exact HF2.out _ (HG.out.trans (GX.out.drewN _))
    cases hv : vL op d a' b' with
    | false =>
     have HOKK := Lib.hid (show edOK x k = false by rw [← Bool.not_eq_true, HIFF.out]; rintro ⟨_, _, h⟩; unfold Ln.ok at h; rw [hv] at h; cases h)
     have HV := Lib.hid (show errB (vL op d a' b') = 1 by rw [hv]; rfl)
     clear hv
     have s0d0 : decide (t < 0) = false := by simp; omega
     have s1d0 : decide (t ≥ 8) = false := by simp; omega
     have s1d1 : decide (8 ≤ t) = false := by simp; omega
     have kzd0 : decide ((k : Int) > 0) = true := by simp; omega
     have kzd1 : decide (0 < (k : Int)) = true := by simp; omega
     have kzd2 : decide (0 < k) = true := by simp; omega
     have s2d0 : decide (pv ≥ t) = false := by simp; omega
     have s2d1 : decide (t ≤ pv) = false := by simp; omega
     try clear h0
     go_wp2_with fail
     generalize wr.alloc (.cells #[.int .i64 t, .int .i64 op, .int .i64 d, .int .i64 a', .int .i64 b'] 60) = W at BX GX ⊢
     obtain ⟨c0, c1, c2, c3, c4⟩ := box5 BX.out
     have hz := lt_of_block BX.out
     have p0 := GX.out.cell q0
     have hz2 : gb < W.heap.size := by have := GX.out.sz; omega
     clear y0 y1 y2 y3 y4 q0
     refine wp_region_held_drew (S := fun X => X.cell? ⟨wr.heap.size, 0, none⟩ = some (.int .i64 t) ∧ X.cell? ⟨wr.heap.size, 1, none⟩ = some (.int .i64 op) ∧ X.cell? ⟨wr.heap.size, 2, none⟩ = some (.int .i64 d) ∧ X.cell? ⟨wr.heap.size, 3, none⟩ = some (.int .i64 a') ∧ X.cell? ⟨wr.heap.size, 4, none⟩ = some (.int .i64 b') ∧ X.cell? ⟨gb, o + j * 5, none⟩ = some (.int .i64 pv) ∧ Grow W X) (by kernel_rfl) ⟨c0, c1, c2, c3, c4, p0, (Grow.refl W).drew⟩ (fun hH => ?_)
     refine wpAnyH_take (i := 0) (v := .pointer (some ⟨wr.heap.size, 0, none⟩)) rfl (by kernel_rfl) (by kernel_rfl) (by kernel_rfl) (fun _ _ _ h => h) (Or.inl ⟨by rfl, ?_⟩) hH ?_
     ·intro w9 hw9
      obtain ⟨d0, d1, d2, d3, d4, dp, dg⟩ := hw9
      go_simp
     simp only [List.getElem_toArray, List.getElem_cons_zero, Act.put, List.setIfInBounds_toArray, List.set_cons_zero, List.set_cons_succ]
     refine wpAnyH_take (i := 1) (v := .int .i64 t) rfl (by kernel_rfl) (by kernel_rfl) (by kernel_rfl) (fun _ _ _ h => h) (Or.inl ⟨by rfl, ?_⟩) hH ?_
     ·intro w9 hw9
      obtain ⟨d0, d1, d2, d3, d4, dp, dg⟩ := hw9
      go_simp
     simp only [nrm, Act.put]
     refine wpAnyH_take (i := 2) (v := .bool false) rfl (by kernel_rfl) (by kernel_rfl) (by kernel_rfl) (fun _ _ _ h => h) (Or.inl ⟨by rfl, ?_⟩) hH ?_
     ·intro w9 hw9
      obtain ⟨d0, d1, d2, d3, d4, dp, dg⟩ := hw9
      go_simp
     simp only [nrm, Act.put]
     refine wpAnyH_take (i := 3) (v := .bool false) rfl (by kernel_rfl) (by kernel_rfl) (by kernel_rfl) (fun _ _ _ h => h) (Or.inl ⟨by rfl, ?_⟩) hH ?_
     ·intro w9 hw9
      obtain ⟨d0, d1, d2, d3, d4, dp, dg⟩ := hw9
      go_simp
     simp only [nrm, Act.put]
     refine wpAnyH_take (i := 4) (v := .pointer (some ⟨wr.heap.size, 0, none⟩)) rfl (by kernel_rfl) (by kernel_rfl) (by kernel_rfl) (fun _ _ _ h => h) (Or.inl ⟨by rfl, ?_⟩) hH ?_
     ·intro w9 hw9
      obtain ⟨d0, d1, d2, d3, d4, dp, dg⟩ := hw9
      go_simp
     simp only [nrm, Act.put]
     refine wpAnyH_take (i := 5) (v := .int .i64 t) rfl (by kernel_rfl) (by kernel_rfl) (by kernel_rfl) (fun _ _ _ h => h) (Or.inl ⟨by rfl, ?_⟩) hH ?_
     ·intro w9 hw9
      obtain ⟨d0, d1, d2, d3, d4, dp, dg⟩ := hw9
      go_simp
     simp only [nrm, Act.put]
     refine wpAnyH_take (i := 6) (v := .bool false) rfl (by kernel_rfl) (by kernel_rfl) (by kernel_rfl) (fun _ _ _ h => h) (Or.inl ⟨by rfl, ?_⟩) hH ?_
     ·intro w9 hw9
      obtain ⟨d0, d1, d2, d3, d4, dp, dg⟩ := hw9
      go_simp
     simp only [nrm, Act.put]
     refine wpAnyH_take (i := 7) (v := .bool false) rfl (by kernel_rfl) (by kernel_rfl) (by kernel_rfl) (fun _ _ _ h => h) (Or.inl ⟨by rfl, ?_⟩) hH ?_
     ·intro w9 hw9
      obtain ⟨d0, d1, d2, d3, d4, dp, dg⟩ := hw9
      go_simp
     simp only [nrm, Act.put]
     refine wpAnyH_take (i := 8) (v := .bool false) rfl (by kernel_rfl) (by kernel_rfl) (by kernel_rfl) (fun _ _ _ h => h) (Or.inl ⟨by rfl, ?_⟩) hH ?_
     ·intro w9 hw9
      obtain ⟨d0, d1, d2, d3, d4, dp, dg⟩ := hw9
      go_simp
     simp only [nrm, Act.put]
     refine wpAnyH_take (i := 9) (v := .int .i64 k) rfl (by kernel_rfl) (by kernel_rfl) (by kernel_rfl) (fun _ _ _ h => h) (Or.inl ⟨by rfl, ?_⟩) hH ?_
     ·intro w9 hw9
      obtain ⟨d0, d1, d2, d3, d4, dp, dg⟩ := hw9
      go_simp
     simp only [nrm, Act.put]
     refine wpAnyH_take (i := 10) (v := .bool true) rfl (by kernel_rfl) (by kernel_rfl) (by kernel_rfl) (fun _ _ _ h => h) (Or.inl ⟨by rfl, ?_⟩) hH ?_
     ·intro w9 hw9
      obtain ⟨d0, d1, d2, d3, d4, dp, dg⟩ := hw9
      go_simp
     simp only [nrm, Act.put]
     refine wpAnyH_take (i := 11) (v := .bool true) rfl (by kernel_rfl) (by kernel_rfl) (by kernel_rfl) (fun _ _ _ h => h) (Or.inl ⟨by rfl, ?_⟩) hH ?_
     ·intro w9 hw9
      obtain ⟨d0, d1, d2, d3, d4, dp, dg⟩ := hw9
      go_simp
     simp only [nrm, Act.put]
     refine wpAnyH_take (i := 12) (v := .slice (some ⟨gb, o, none⟩) x.length c) rfl (by kernel_rfl) (by kernel_rfl) (by kernel_rfl) (fun _ _ _ h => h) (Or.inl ⟨by rfl, ?_⟩) hH ?_
     ·intro w9 hw9
      obtain ⟨d0, d1, d2, d3, d4, dp, dg⟩ := hw9
      go_simp
     simp only [nrm, Act.put]
     refine wpAnyH_take (i := 13) (v := .int .i64 k) rfl (by kernel_rfl) (by kernel_rfl) (by kernel_rfl) (fun _ _ _ h => h) (Or.inl ⟨by rfl, ?_⟩) hH ?_
     ·intro w9 hw9
      obtain ⟨d0, d1, d2, d3, d4, dp, dg⟩ := hw9
      go_simp
     simp only [nrm, Act.put]
     refine wpAnyH_take (i := 14) (v := .int .i64 j) rfl (by kernel_rfl) (by kernel_rfl) (by kernel_rfl) (fun _ _ _ h => h) (Or.inl ⟨by rfl, ?_⟩) hH ?_
     ·intro w9 hw9
      obtain ⟨d0, d1, d2, d3, d4, dp, dg⟩ := hw9
      go_simp
     simp only [nrm, Act.put]
     refine wpAnyH_take (i := 15) (v := .pointer (some ⟨gb, o + j * 5, none⟩)) rfl (by kernel_rfl) (by kernel_rfl) (by kernel_rfl) (fun _ _ _ h => h) (Or.inl ⟨by rfl, ?_⟩) hH ?_
     ·intro w9 hw9
      obtain ⟨d0, d1, d2, d3, d4, dp, dg⟩ := hw9
      go_simp
     simp only [nrm, Act.put]
     refine wpAnyH_take (i := 16) (v := .pointer (some ⟨gb, o + j * 5, none⟩)) rfl (by kernel_rfl) (by kernel_rfl) (by kernel_rfl) (fun _ _ _ h => h) (Or.inl ⟨by rfl, ?_⟩) hH ?_
     ·intro w9 hw9
      obtain ⟨d0, d1, d2, d3, d4, dp, dg⟩ := hw9
      go_simp
     simp only [nrm, Act.put]
     refine wpAnyH_take (i := 17) (v := .int .i64 pv) rfl (by kernel_rfl) (by kernel_rfl) (by kernel_rfl) (fun _ _ _ h => h) (Or.inl ⟨by rfl, ?_⟩) hH ?_
     ·intro w9 hw9
      obtain ⟨d0, d1, d2, d3, d4, dp, dg⟩ := hw9
      go_simp
     simp only [nrm, Act.put]
     refine wpAnyH_take (i := 18) (v := .pointer (some ⟨wr.heap.size, 0, none⟩)) rfl (by kernel_rfl) (by kernel_rfl) (by kernel_rfl) (fun _ _ _ h => h) (Or.inl ⟨by rfl, ?_⟩) hH ?_
     ·intro w9 hw9
      obtain ⟨d0, d1, d2, d3, d4, dp, dg⟩ := hw9
      go_simp
     simp only [nrm, Act.put]
     refine wpAnyH_take (i := 19) (v := .int .i64 t) rfl (by kernel_rfl) (by kernel_rfl) (by kernel_rfl) (fun _ _ _ h => h) (Or.inl ⟨by rfl, ?_⟩) hH ?_
     ·intro w9 hw9
      obtain ⟨d0, d1, d2, d3, d4, dp, dg⟩ := hw9
      go_simp
     simp only [nrm, Act.put]
     refine wpAnyH_take (i := 20) (v := .bool false) rfl (by kernel_rfl) (by kernel_rfl) (by kernel_rfl) (fun _ _ _ h => h) (Or.inl ⟨by rfl, ?_⟩) hH ?_
     ·intro w9 hw9
      obtain ⟨d0, d1, d2, d3, d4, dp, dg⟩ := hw9
      go_simp
     simp only [nrm, Act.put]
     refine wpAnyH_take (i := 21) (v := .bool false) rfl (by kernel_rfl) (by kernel_rfl) (by kernel_rfl) (fun _ _ _ h => h) (Or.inl ⟨by rfl, ?_⟩) hH ?_
     ·intro w9 hw9
      obtain ⟨d0, d1, d2, d3, d4, dp, dg⟩ := hw9
      go_simp
     simp only [nrm, Act.put]
     refine wpAnyH_take (i := 22) (v := .bool false) rfl (by kernel_rfl) (by kernel_rfl) (by kernel_rfl) (fun _ _ _ h => h) (Or.inl ⟨by rfl, ?_⟩) hH ?_
     ·intro w9 hw9
      obtain ⟨d0, d1, d2, d3, d4, dp, dg⟩ := hw9
      go_simp
     simp only [nrm, Act.put]
     refine wpAnyH_take (i := 23) (v := .bool false) rfl (by kernel_rfl) (by kernel_rfl) (by kernel_rfl) (fun _ _ _ h => h) (Or.inl ⟨by rfl, ?_⟩) hH ?_
     ·intro w9 hw9
      obtain ⟨d0, d1, d2, d3, d4, dp, dg⟩ := hw9
      go_simp
     simp only [nrm, Act.put]
     refine wpAnyH_take (i := 24) (v := .pointer (some ⟨wr.heap.size, 1, none⟩)) rfl (by kernel_rfl) (by kernel_rfl) (by kernel_rfl) (fun _ _ _ h => h) (Or.inl ⟨by rfl, ?_⟩) hH ?_
     ·intro w9 hw9
      obtain ⟨d0, d1, d2, d3, d4, dp, dg⟩ := hw9
      go_simp
     simp only [nrm, Act.put]
     refine wpAnyH_take (i := 25) (v := .agg #[.int .i64 op, .int .i64 d, .int .i64 a', .int .i64 b']) rfl (by kernel_rfl) (by kernel_rfl) (by kernel_rfl) (fun _ _ _ h => h) (Or.inl ⟨by rfl, ?_⟩) hH ?_
     ·intro w9 hw9
      obtain ⟨d0, d1, d2, d3, d4, dp, dg⟩ := hw9
      go_simp
     simp only [nrm, Act.put]
     refine wpAnyH_ready (rs := [26]) (by kernel_rfl) (by simp) ?_
     refine AllReadyH.cons rfl (fun K hK => ?_) AllReadyH.nil
     go_simp
     refine validateLine_any op d a' b' _ _ ?_
     intro w8 hg8
     rw [HV.out]
     go_wp2_with fail
     refine hK.out _ _ (keep6 hg8 hH) (fun hH2 => ?_)
     have hgW : Grow W w8 := hH2.2.2.2.2.2.2
     clear hK K hH
     have hH := hH2
     clear hH2
     refine wpAnyH_take (i := 27) (v := .bool true) rfl (by kernel_rfl) (by kernel_rfl) (by kernel_rfl) (fun _ _ _ h => h) (Or.inl ⟨by rfl, ?_⟩) hH ?_
     ·intro w9 hw9
      obtain ⟨d0, d1, d2, d3, d4, dp, dg⟩ := hw9
      go_simp
     simp only [nrm, Act.put]
     refine wpAnyH_take (i := 28) (v := .bool true) rfl (by kernel_rfl) (by kernel_rfl) (by kernel_rfl) (fun _ _ _ h => h) (Or.inl ⟨by rfl, ?_⟩) hH ?_
     ·intro w9 hw9
      obtain ⟨d0, d1, d2, d3, d4, dp, dg⟩ := hw9
      go_simp
     simp only [nrm, Act.put]
     refine wpAnyH_done (by kernel_rfl) ?_ _
     have HGW := Lib.hid (HG.out.trans (GX.out.trans hgW))
     clear hgW
     have HF := HR.out
     rw [edsOK_bad hlt HOKK.out, errB_false] at HF
     have HF2 := Lib.hid HF
     clear HF
     go_wp2_with fail
     first | exact HF2.out _ HGW.out | exact HF2.out _ (HG.out.trans (GX.out.drew)) | exact HF2.out _ (HG.out.trans GX.out) | exact HF2.out _ (HG.out.trans (GX.out.drewN _))
    | true =>
     have HOKK := Lib.hid (show edOK x k = true from HIFF.out.2 ⟨by omega, by omega, hv⟩)
     have HV := Lib.hid (show errB (vL op d a' b') = 0 by rw [hv]; rfl)
     clear hv
     have s0d0 : decide (t < 0) = false := by simp; omega
     have s1d0 : decide (t ≥ 8) = false := by simp; omega
     have s1d1 : decide (8 ≤ t) = false := by simp; omega
     have kzd0 : decide ((k : Int) > 0) = true := by simp; omega
     have kzd1 : decide (0 < (k : Int)) = true := by simp; omega
     have kzd2 : decide (0 < k) = true := by simp; omega
     have s2d0 : decide (pv ≥ t) = false := by simp; omega
     have s2d1 : decide (t ≤ pv) = false := by simp; omega
     try clear h0
     go_wp2_with fail
     generalize wr.alloc (.cells #[.int .i64 t, .int .i64 op, .int .i64 d, .int .i64 a', .int .i64 b'] 60) = W at BX GX ⊢
     obtain ⟨c0, c1, c2, c3, c4⟩ := box5 BX.out
     have hz := lt_of_block BX.out
     have p0 := GX.out.cell q0
     have hz2 : gb < W.heap.size := by have := GX.out.sz; omega
     clear y0 y1 y2 y3 y4 q0
     refine wp_region_held_drew (S := fun X => X.cell? ⟨wr.heap.size, 0, none⟩ = some (.int .i64 t) ∧ X.cell? ⟨wr.heap.size, 1, none⟩ = some (.int .i64 op) ∧ X.cell? ⟨wr.heap.size, 2, none⟩ = some (.int .i64 d) ∧ X.cell? ⟨wr.heap.size, 3, none⟩ = some (.int .i64 a') ∧ X.cell? ⟨wr.heap.size, 4, none⟩ = some (.int .i64 b') ∧ X.cell? ⟨gb, o + j * 5, none⟩ = some (.int .i64 pv) ∧ Grow W X) (by kernel_rfl) ⟨c0, c1, c2, c3, c4, p0, (Grow.refl W).drew⟩ (fun hH => ?_)
     refine wpAnyH_take (i := 0) (v := .pointer (some ⟨wr.heap.size, 0, none⟩)) rfl (by kernel_rfl) (by kernel_rfl) (by kernel_rfl) (fun _ _ _ h => h) (Or.inl ⟨by rfl, ?_⟩) hH ?_
     ·intro w9 hw9
      obtain ⟨d0, d1, d2, d3, d4, dp, dg⟩ := hw9
      go_simp
     simp only [List.getElem_toArray, List.getElem_cons_zero, Act.put, List.setIfInBounds_toArray, List.set_cons_zero, List.set_cons_succ]
     refine wpAnyH_take (i := 1) (v := .int .i64 t) rfl (by kernel_rfl) (by kernel_rfl) (by kernel_rfl) (fun _ _ _ h => h) (Or.inl ⟨by rfl, ?_⟩) hH ?_
     ·intro w9 hw9
      obtain ⟨d0, d1, d2, d3, d4, dp, dg⟩ := hw9
      go_simp
     simp only [nrm, Act.put]
     refine wpAnyH_take (i := 2) (v := .bool false) rfl (by kernel_rfl) (by kernel_rfl) (by kernel_rfl) (fun _ _ _ h => h) (Or.inl ⟨by rfl, ?_⟩) hH ?_
     ·intro w9 hw9
      obtain ⟨d0, d1, d2, d3, d4, dp, dg⟩ := hw9
      go_simp
     simp only [nrm, Act.put]
     refine wpAnyH_take (i := 3) (v := .bool false) rfl (by kernel_rfl) (by kernel_rfl) (by kernel_rfl) (fun _ _ _ h => h) (Or.inl ⟨by rfl, ?_⟩) hH ?_
     ·intro w9 hw9
      obtain ⟨d0, d1, d2, d3, d4, dp, dg⟩ := hw9
      go_simp
     simp only [nrm, Act.put]
     refine wpAnyH_take (i := 4) (v := .pointer (some ⟨wr.heap.size, 0, none⟩)) rfl (by kernel_rfl) (by kernel_rfl) (by kernel_rfl) (fun _ _ _ h => h) (Or.inl ⟨by rfl, ?_⟩) hH ?_
     ·intro w9 hw9
      obtain ⟨d0, d1, d2, d3, d4, dp, dg⟩ := hw9
      go_simp
     simp only [nrm, Act.put]
     refine wpAnyH_take (i := 5) (v := .int .i64 t) rfl (by kernel_rfl) (by kernel_rfl) (by kernel_rfl) (fun _ _ _ h => h) (Or.inl ⟨by rfl, ?_⟩) hH ?_
     ·intro w9 hw9
      obtain ⟨d0, d1, d2, d3, d4, dp, dg⟩ := hw9
      go_simp
     simp only [nrm, Act.put]
     refine wpAnyH_take (i := 6) (v := .bool false) rfl (by kernel_rfl) (by kernel_rfl) (by kernel_rfl) (fun _ _ _ h => h) (Or.inl ⟨by rfl, ?_⟩) hH ?_
     ·intro w9 hw9
      obtain ⟨d0, d1, d2, d3, d4, dp, dg⟩ := hw9
      go_simp
     simp only [nrm, Act.put]
     refine wpAnyH_take (i := 7) (v := .bool false) rfl (by kernel_rfl) (by kernel_rfl) (by kernel_rfl) (fun _ _ _ h => h) (Or.inl ⟨by rfl, ?_⟩) hH ?_
     ·intro w9 hw9
      obtain ⟨d0, d1, d2, d3, d4, dp, dg⟩ := hw9
      go_simp
     simp only [nrm, Act.put]
     refine wpAnyH_take (i := 8) (v := .bool false) rfl (by kernel_rfl) (by kernel_rfl) (by kernel_rfl) (fun _ _ _ h => h) (Or.inl ⟨by rfl, ?_⟩) hH ?_
     ·intro w9 hw9
      obtain ⟨d0, d1, d2, d3, d4, dp, dg⟩ := hw9
      go_simp
     simp only [nrm, Act.put]
     refine wpAnyH_take (i := 9) (v := .int .i64 k) rfl (by kernel_rfl) (by kernel_rfl) (by kernel_rfl) (fun _ _ _ h => h) (Or.inl ⟨by rfl, ?_⟩) hH ?_
     ·intro w9 hw9
      obtain ⟨d0, d1, d2, d3, d4, dp, dg⟩ := hw9
      go_simp
     simp only [nrm, Act.put]
     refine wpAnyH_take (i := 10) (v := .bool true) rfl (by kernel_rfl) (by kernel_rfl) (by kernel_rfl) (fun _ _ _ h => h) (Or.inl ⟨by rfl, ?_⟩) hH ?_
     ·intro w9 hw9
      obtain ⟨d0, d1, d2, d3, d4, dp, dg⟩ := hw9
      go_simp
     simp only [nrm, Act.put]
     refine wpAnyH_take (i := 11) (v := .bool true) rfl (by kernel_rfl) (by kernel_rfl) (by kernel_rfl) (fun _ _ _ h => h) (Or.inl ⟨by rfl, ?_⟩) hH ?_
     ·intro w9 hw9
      obtain ⟨d0, d1, d2, d3, d4, dp, dg⟩ := hw9
      go_simp
     simp only [nrm, Act.put]
     refine wpAnyH_take (i := 12) (v := .slice (some ⟨gb, o, none⟩) x.length c) rfl (by kernel_rfl) (by kernel_rfl) (by kernel_rfl) (fun _ _ _ h => h) (Or.inl ⟨by rfl, ?_⟩) hH ?_
     ·intro w9 hw9
      obtain ⟨d0, d1, d2, d3, d4, dp, dg⟩ := hw9
      go_simp
     simp only [nrm, Act.put]
     refine wpAnyH_take (i := 13) (v := .int .i64 k) rfl (by kernel_rfl) (by kernel_rfl) (by kernel_rfl) (fun _ _ _ h => h) (Or.inl ⟨by rfl, ?_⟩) hH ?_
     ·intro w9 hw9
      obtain ⟨d0, d1, d2, d3, d4, dp, dg⟩ := hw9
      go_simp
     simp only [nrm, Act.put]
     refine wpAnyH_take (i := 14) (v := .int .i64 j) rfl (by kernel_rfl) (by kernel_rfl) (by kernel_rfl) (fun _ _ _ h => h) (Or.inl ⟨by rfl, ?_⟩) hH ?_
     ·intro w9 hw9
      obtain ⟨d0, d1, d2, d3, d4, dp, dg⟩ := hw9
      go_simp
     simp only [nrm, Act.put]
     refine wpAnyH_take (i := 15) (v := .pointer (some ⟨gb, o + j * 5, none⟩)) rfl (by kernel_rfl) (by kernel_rfl) (by kernel_rfl) (fun _ _ _ h => h) (Or.inl ⟨by rfl, ?_⟩) hH ?_
     ·intro w9 hw9
      obtain ⟨d0, d1, d2, d3, d4, dp, dg⟩ := hw9
      go_simp
     simp only [nrm, Act.put]
     refine wpAnyH_take (i := 16) (v := .pointer (some ⟨gb, o + j * 5, none⟩)) rfl (by kernel_rfl) (by kernel_rfl) (by kernel_rfl) (fun _ _ _ h => h) (Or.inl ⟨by rfl, ?_⟩) hH ?_
     ·intro w9 hw9
      obtain ⟨d0, d1, d2, d3, d4, dp, dg⟩ := hw9
      go_simp
     simp only [nrm, Act.put]
     refine wpAnyH_take (i := 17) (v := .int .i64 pv) rfl (by kernel_rfl) (by kernel_rfl) (by kernel_rfl) (fun _ _ _ h => h) (Or.inl ⟨by rfl, ?_⟩) hH ?_
     ·intro w9 hw9
      obtain ⟨d0, d1, d2, d3, d4, dp, dg⟩ := hw9
      go_simp
     simp only [nrm, Act.put]
     refine wpAnyH_take (i := 18) (v := .pointer (some ⟨wr.heap.size, 0, none⟩)) rfl (by kernel_rfl) (by kernel_rfl) (by kernel_rfl) (fun _ _ _ h => h) (Or.inl ⟨by rfl, ?_⟩) hH ?_
     ·intro w9 hw9
      obtain ⟨d0, d1, d2, d3, d4, dp, dg⟩ := hw9
      go_simp
     simp only [nrm, Act.put]
     refine wpAnyH_take (i := 19) (v := .int .i64 t) rfl (by kernel_rfl) (by kernel_rfl) (by kernel_rfl) (fun _ _ _ h => h) (Or.inl ⟨by rfl, ?_⟩) hH ?_
     ·intro w9 hw9
      obtain ⟨d0, d1, d2, d3, d4, dp, dg⟩ := hw9
      go_simp
     simp only [nrm, Act.put]
     refine wpAnyH_take (i := 20) (v := .bool false) rfl (by kernel_rfl) (by kernel_rfl) (by kernel_rfl) (fun _ _ _ h => h) (Or.inl ⟨by rfl, ?_⟩) hH ?_
     ·intro w9 hw9
      obtain ⟨d0, d1, d2, d3, d4, dp, dg⟩ := hw9
      go_simp
     simp only [nrm, Act.put]
     refine wpAnyH_take (i := 21) (v := .bool false) rfl (by kernel_rfl) (by kernel_rfl) (by kernel_rfl) (fun _ _ _ h => h) (Or.inl ⟨by rfl, ?_⟩) hH ?_
     ·intro w9 hw9
      obtain ⟨d0, d1, d2, d3, d4, dp, dg⟩ := hw9
      go_simp
     simp only [nrm, Act.put]
     refine wpAnyH_take (i := 22) (v := .bool false) rfl (by kernel_rfl) (by kernel_rfl) (by kernel_rfl) (fun _ _ _ h => h) (Or.inl ⟨by rfl, ?_⟩) hH ?_
     ·intro w9 hw9
      obtain ⟨d0, d1, d2, d3, d4, dp, dg⟩ := hw9
      go_simp
     simp only [nrm, Act.put]
     refine wpAnyH_take (i := 23) (v := .bool false) rfl (by kernel_rfl) (by kernel_rfl) (by kernel_rfl) (fun _ _ _ h => h) (Or.inl ⟨by rfl, ?_⟩) hH ?_
     ·intro w9 hw9
      obtain ⟨d0, d1, d2, d3, d4, dp, dg⟩ := hw9
      go_simp
     simp only [nrm, Act.put]
     refine wpAnyH_take (i := 24) (v := .pointer (some ⟨wr.heap.size, 1, none⟩)) rfl (by kernel_rfl) (by kernel_rfl) (by kernel_rfl) (fun _ _ _ h => h) (Or.inl ⟨by rfl, ?_⟩) hH ?_
     ·intro w9 hw9
      obtain ⟨d0, d1, d2, d3, d4, dp, dg⟩ := hw9
      go_simp
     simp only [nrm, Act.put]
     refine wpAnyH_take (i := 25) (v := .agg #[.int .i64 op, .int .i64 d, .int .i64 a', .int .i64 b']) rfl (by kernel_rfl) (by kernel_rfl) (by kernel_rfl) (fun _ _ _ h => h) (Or.inl ⟨by rfl, ?_⟩) hH ?_
     ·intro w9 hw9
      obtain ⟨d0, d1, d2, d3, d4, dp, dg⟩ := hw9
      go_simp
     simp only [nrm, Act.put]
     refine wpAnyH_ready (rs := [26]) (by kernel_rfl) (by simp) ?_
     refine AllReadyH.cons rfl (fun K hK => ?_) AllReadyH.nil
     go_simp
     refine validateLine_any op d a' b' _ _ ?_
     intro w8 hg8
     rw [HV.out]
     go_wp2_with fail
     refine hK.out _ _ (keep6 hg8 hH) (fun hH2 => ?_)
     have hgW : Grow W w8 := hH2.2.2.2.2.2.2
     clear hK K hH
     have hH := hH2
     clear hH2
     refine wpAnyH_take (i := 27) (v := .bool false) rfl (by kernel_rfl) (by kernel_rfl) (by kernel_rfl) (fun _ _ _ h => h) (Or.inl ⟨by rfl, ?_⟩) hH ?_
     ·intro w9 hw9
      obtain ⟨d0, d1, d2, d3, d4, dp, dg⟩ := hw9
      go_simp
     simp only [nrm, Act.put]
     refine wpAnyH_take (i := 28) (v := .bool false) rfl (by kernel_rfl) (by kernel_rfl) (by kernel_rfl) (fun _ _ _ h => h) (Or.inl ⟨by rfl, ?_⟩) hH ?_
     ·intro w9 hw9
      obtain ⟨d0, d1, d2, d3, d4, dp, dg⟩ := hw9
      go_simp
     simp only [nrm, Act.put]
     refine wpAnyH_done (by kernel_rfl) ?_ _
     have HGW := Lib.hid (HG.out.trans (GX.out.trans hgW))
     clear hgW
     go_wp2_with fail
     go_roundw
     case rel => exact ⟨k + 1, by omega, by go_num, HGW.out, upto_succ HALL.out HOKK.out⟩
     case measure => simp [intOf]; omega
end Go.Proofs.YtmeejlgnhfkeaaaGreatDoor

namespace Go.Proofs.YtmeejlgnhfkeaaaGreatDoor
open Go.RowKit
def PredE (g : Nat) (cb : Array Value) (w : World) (pr : Ed → Bool) : Prop :=
 ∀ t op d a b W, Grow w W → ∀ R : Ending → World → Prop, (∀ W', Grow W W' → R (.returned (.bool (pr ⟨t, ⟨op, d, a, b⟩⟩))) W') → Calls Tryz.prog g (#[.agg #[.int .i64 t, .int .i64 op, .int .i64 d, .int .i64 a, .int .i64 b]] ++ cb) W R
set_option maxHeartbeats 2000000 in
theorem indexFuncE_any (g : Nat) (cb : Array Value) (eg : Enters Tryz.prog g) (pr : Ed → Bool) (ts : List Ed) (v : Value) (w : World) (hx : EditsAt w v ts) (hp : PredE g cb w pr)
  (R : Ending → World → Prop) (hR1 : ∀ w' (k : Nat), Grow w w' → ts.any pr = true → R (.returned (.int .i64 k)) w') (hR2 : ∀ w', Grow w w' → ts.any pr = false → R (.returned (.int .i64 (-1))) w') :
  Calls Tryz.prog 192 #[v, .func (.func g) #[] cb] w R := by
 have HX := Lib.hid hx
 obtain ⟨a, c, rfl, h1, h2, _⟩ := hx
 have hm : ts.length ≤ 9223372036854775807 := by omega
 have HR1 := Lib.hid hR1
 have HR2 := Lib.hid hR2
 have HP := Lib.hid hp
 unfold Enters at eg
 clear hR1 hR2 hp
 go_enter Tryz.func192, Tryz.ntmps192
 go_wp2_with fail
 go_loopw [4, 5, 8] (fun _ _ i wr => ∃ k : Nat, k ≤ ts.length ∧ i = .int .i64 k ∧ Grow w wr ∧ ∀ y ∈ ts.take k, pr y = false) (fun _ _ i _ => ts.length - (intOf i).toNat)
 case atStart => exact ⟨0, Nat.zero_le _, rfl, Grow.refl _, by simp⟩
 case round =>
  obtain ⟨k, hk, rfl, hg, hall⟩ := hrel
  have HALL := Lib.hid hall
  have HG := Lib.hid hg
  clear hall hg
  by_cases hlt : k < ts.length
  ·obtain ⟨⟨t, op, d, a', b'⟩, ht⟩ : ∃ x, ts[k]? = some x := ⟨_, List.getElem?_eq_getElem hlt⟩
   obtain ⟨b, o, rfl, hb, e0, e1, e2, e3, e4⟩ := edits_at (HX.out.grow HG.out) ht
   have HT := Lib.hid ht
   clear ht
   by_cases hv : pr ⟨t, ⟨op, d, a', b'⟩⟩ = true
   ·have HA := Lib.hid (any_at HT.out hv)
    have HV := Lib.hid hv
    clear hv
    go_wp2_with fail
    refine HP.out t op d a' b' _ HG.out _ ?_
    intro w1 hg1
    rw [HV.out]
    have HF := Lib.hid (HR1.out w1 k (HG.out.trans hg1) HA.out)
    clear hg1
    go_wp2_with fail
    exact HF.out
   ·replace hv : pr ⟨t, ⟨op, d, a', b'⟩⟩ = false := by simpa using hv
    have HV := Lib.hid hv
    clear hv
    go_wp2_with fail
    refine HP.out t op d a' b' _ HG.out _ ?_
    intro w1 hg1
    rw [HV.out]
    have HG2 := Lib.hid (HG.out.trans hg1)
    clear hg1
    go_wp2_with fail
    go_roundw
    case rel => exact ⟨k + 1, by omega, by go_num, HG2.out, take_succ_false' HALL.out HT.out HV.out⟩
    case measure => simp [intOf]; omega
  ·have HF := Lib.hid (HR2.out _ HG.out (any_none HALL.out (by omega)))
   go_wp2_with fail
   exact HF.out
set_option maxHeartbeats 1000000 in
theorem containsFuncE_any (g : Nat) (cb : Array Value) (eg : Enters Tryz.prog g) (pr : Ed → Bool) (ts : List Ed) (v : Value) (w : World) (hx : EditsAt w v ts) (hp : PredE g cb w pr)
  (R : Ending → World → Prop) (hR : ∀ w', Grow w w' → R (.returned (.bool (ts.any pr))) w') :
  Calls Tryz.prog 140 #[v, .func (.func g) #[] cb] w R := by
 have HR := Lib.hid hR
 clear hR
 go_enter Tryz.func140, Tryz.ntmps140
 go_wp2_with fail
 refine indexFuncE_any g cb eg pr ts v _ hx hp _ ?_ ?_
 ·intro w1 k hg1 h
  have HF := Lib.hid (HR.out w1 hg1)
  rw [h] at HF
  have hk : (k : Int) ≥ 0 := by omega
  clear h hg1
  go_wp2_with fail
  exact HF.out
 ·intro w1 hg1 h
  have HF := Lib.hid (HR.out w1 hg1)
  rw [h] at HF
  clear h hg1
  go_wp2_with fail
  exact HF.out
set_option maxHeartbeats 2000000 in
theorem offF_any (t op d a b : Int) (n c : Nat) (ad : Option Addr) (bp : Nat) (w : World) (hb : w.heap[bp]? = some (.cells #[.slice ad n c] 22 (0, 0))) (R : Ending → World → Prop)
  (hR : ∀ w', Grow w w' → R (.returned (.bool (decide ((n : Int) ≤ t)))) w') :
  Calls Tryz.prog 141 #[.agg #[.int .i64 t, .int .i64 op, .int .i64 d, .int .i64 a, .int .i64 b], .pointer (some ⟨bp, 0, none⟩)] w R := by
 have HR := Lib.hid hR
 have c0 := box1 hb
 have hz := lt_of_block hb
 clear hR hb
 by_cases h : (n : Int) ≤ t
 ·rw [decide_eq_true h] at HR
  have t1 : t ≥ (n : Int) := h
  go_enter Tryz.func141, Tryz.ntmps141
  go_wp2_with fail
  exact HR.out _ ((Grow.refl _).alloc _)
 ·rw [decide_eq_false h] at HR
  have t1 : ¬ t ≥ (n : Int) := h
  go_enter Tryz.func141, Tryz.ntmps141
  go_wp2_with fail
  exact HR.out _ ((Grow.refl _).alloc _)
set_option maxRecDepth 100000 in
set_option maxHeartbeats 4000000 in
theorem checked_any (p : List Ln) (x : List Ed) (ts : List Tst) (pv xv tv : Value) (w : World) (hp : LinesAt w pv p) (hx : EditsAt w xv x) (ht : TestsAt w tv ts) (R : Ending → World → Prop)
  (hR : ∀ w', Grow w w' → R (.returned (.int .i64 (chkX p x ts))) w') :
  Calls Tryz.prog 90 #[pv, xv, tv] w R := by
 have HP := Lib.hid hp
 have HX := Lib.hid hx
 have HT := Lib.hid ht
 have hv : chkX p x ts = if valP p = 0 then (if valX x = 0 then (if valT ts = 0 then (if offB p.length x then 4 else 0) else valT ts) else valX x) else valP p := rfl
 rw [hv] at hR
 have HR := Lib.hid hR
 obtain ⟨e1, h1⟩ : ∃ e, valP p = e := ⟨_, rfl⟩
 obtain ⟨e2, h2⟩ : ∃ e, valX x = e := ⟨_, rfl⟩
 obtain ⟨e3, h3⟩ : ∃ e, valT ts = e := ⟨_, rfl⟩
 obtain ⟨q, h4⟩ : ∃ e, offB p.length x = e := ⟨_, rfl⟩
 rw [h1, h2, h3, h4] at HR
 have H1 := Lib.hid h1
 have H2 := Lib.hid h2
 have H3 := Lib.hid h3
 have H4 := Lib.hid h4
 obtain ⟨pa, pc, rfl, _⟩ := hp
 obtain ⟨xa, xc, rfl, _⟩ := hx
 obtain ⟨⟨ta, tc, rfl, _⟩, _⟩ := ht
 clear hR hv h1 h2 h3 h4
 have eg : Enters Tryz.prog 141 := enters_of Tryz.func141 (by kernel_rfl) rfl
 have EG := Lib.hid eg
 clear eg
 by_cases z1 : e1 = 0
 rotate_left
 ·rw [if_neg z1] at HR
  have t1 : (e1 != 0) = true := by simpa using z1
  clear z1
  go_enter Tryz.func90, Tryz.ntmps90
  go_wp2_with fail
  have hb := heap_alloc_new w (.cells #[.slice pa p.length pc] 22)
  have hg := (Grow.refl w).alloc (.cells #[.slice pa p.length pc] 22)
  generalize w.alloc (.cells #[.slice pa p.length pc] 22) = W at hb hg ⊢
  refine validate_any p _ _ (HP.out.grow hg) _ ?_
  intro w1 hg1
  rw [H1.out]
  have HB := Lib.hid (hg1.blk hb)
  have HG := Lib.hid (hg.trans hg1)
  clear hb hg hg1
  have HF := Lib.hid (HR.out w1 HG.out)
  go_wp2_with fail
  exact HF.out
 subst z1
 rw [if_pos rfl] at HR
 by_cases z2 : e2 = 0
 rotate_left
 ·rw [if_neg z2] at HR
  have t1 : (e2 != 0) = true := by simpa using z2
  clear z2
  go_enter Tryz.func90, Tryz.ntmps90
  go_wp2_with fail
  have hb := heap_alloc_new w (.cells #[.slice pa p.length pc] 22)
  have hg := (Grow.refl w).alloc (.cells #[.slice pa p.length pc] 22)
  generalize w.alloc (.cells #[.slice pa p.length pc] 22) = W at hb hg ⊢
  refine validate_any p _ _ (HP.out.grow hg) _ ?_
  intro w1 hg1
  rw [H1.out]
  have HB := Lib.hid (hg1.blk hb)
  have HG := Lib.hid (hg.trans hg1)
  clear hb hg hg1
  go_wp2_with fail
  refine validateX_any x _ _ (HX.out.grow HG.out) _ ?_
  intro w2 hg2
  rw [H2.out]
  have HB2 := Lib.hid (hg2.blk HB.out)
  have HG2 := Lib.hid (HG.out.trans hg2)
  clear hg2
  have HF := Lib.hid (HR.out w2 HG2.out)
  go_wp2_with fail
  exact HF.out
 subst z2
 rw [if_pos rfl] at HR
 by_cases z3 : e3 = 0
 rotate_left
 ·rw [if_neg z3] at HR
  have t1 : (e3 != 0) = true := by simpa using z3
  clear z3
  go_enter Tryz.func90, Tryz.ntmps90
  go_wp2_with fail
  have hb := heap_alloc_new w (.cells #[.slice pa p.length pc] 22)
  have hg := (Grow.refl w).alloc (.cells #[.slice pa p.length pc] 22)
  generalize w.alloc (.cells #[.slice pa p.length pc] 22) = W at hb hg ⊢
  refine validate_any p _ _ (HP.out.grow hg) _ ?_
  intro w1 hg1
  rw [H1.out]
  have HB := Lib.hid (hg1.blk hb)
  have HG := Lib.hid (hg.trans hg1)
  clear hb hg hg1
  go_wp2_with fail
  refine validateX_any x _ _ (HX.out.grow HG.out) _ ?_
  intro w2 hg2
  rw [H2.out]
  have HB2 := Lib.hid (hg2.blk HB.out)
  have HG2 := Lib.hid (HG.out.trans hg2)
  clear hg2
  go_wp2_with fail
  refine validateTests_any ts _ _ (HT.out.grow HG2.out) _ ?_
  intro w3 hg3
  rw [H3.out]
  have HB3 := Lib.hid (hg3.blk HB2.out)
  have HG3 := Lib.hid (HG2.out.trans hg3)
  clear hg3
  have HF := Lib.hid (HR.out w3 HG3.out)
  go_wp2_with fail
  exact HF.out
 subst z3
 rw [if_pos rfl] at HR
 cases q with
 | true =>
  rw [if_pos rfl] at HR
  go_enter Tryz.func90, Tryz.ntmps90
  go_wp2_with fail
  have hb := heap_alloc_new w (.cells #[.slice pa p.length pc] 22)
  have hg := (Grow.refl w).alloc (.cells #[.slice pa p.length pc] 22)
  generalize w.alloc (.cells #[.slice pa p.length pc] 22) = W at hb hg ⊢
  refine validate_any p _ _ (HP.out.grow hg) _ ?_
  intro w1 hg1
  rw [H1.out]
  have HB := Lib.hid (hg1.blk hb)
  have HG := Lib.hid (hg.trans hg1)
  clear hb hg hg1
  go_wp2_with fail
  refine validateX_any x _ _ (HX.out.grow HG.out) _ ?_
  intro w2 hg2
  rw [H2.out]
  have HB2 := Lib.hid (hg2.blk HB.out)
  have HG2 := Lib.hid (HG.out.trans hg2)
  clear hg2
  go_wp2_with fail
  refine validateTests_any ts _ _ (HT.out.grow HG2.out) _ ?_
  intro w3 hg3
  rw [H3.out]
  have HB3 := Lib.hid (hg3.blk HB2.out)
  have HG3 := Lib.hid (HG2.out.trans hg3)
  clear hg3
  go_wp2_with fail
  have hpred : PredE 141 #[.pointer (some ⟨w.heap.size, 0, none⟩)] w3 (fun e => decide ((p.length : Int) ≤ e.at_)) := fun t op d a b W hgW R hR => offF_any t op d a b _ _ _ _ W (hgW.blk HB3.out) R hR
  refine containsFuncE_any 141 _ EG.out (fun e => decide ((p.length : Int) ≤ e.at_)) x _ _ (HX.out.grow HG3.out) hpred _ ?_
  intro w4 hg4
  rw [show x.any (fun e => decide ((p.length : Int) ≤ e.at_)) = true from H4.out]
  have HG4 := Lib.hid (HG3.out.trans hg4)
  clear hg4 hpred
  have HF := Lib.hid (HR.out w4 HG4.out)
  go_wp2_with fail
  exact HF.out
 | false =>
  rw [if_neg (by decide)] at HR
  go_enter Tryz.func90, Tryz.ntmps90
  go_wp2_with fail
  have hb := heap_alloc_new w (.cells #[.slice pa p.length pc] 22)
  have hg := (Grow.refl w).alloc (.cells #[.slice pa p.length pc] 22)
  generalize w.alloc (.cells #[.slice pa p.length pc] 22) = W at hb hg ⊢
  refine validate_any p _ _ (HP.out.grow hg) _ ?_
  intro w1 hg1
  rw [H1.out]
  have HB := Lib.hid (hg1.blk hb)
  have HG := Lib.hid (hg.trans hg1)
  clear hb hg hg1
  go_wp2_with fail
  refine validateX_any x _ _ (HX.out.grow HG.out) _ ?_
  intro w2 hg2
  rw [H2.out]
  have HB2 := Lib.hid (hg2.blk HB.out)
  have HG2 := Lib.hid (HG.out.trans hg2)
  clear hg2
  go_wp2_with fail
  refine validateTests_any ts _ _ (HT.out.grow HG2.out) _ ?_
  intro w3 hg3
  rw [H3.out]
  have HB3 := Lib.hid (hg3.blk HB2.out)
  have HG3 := Lib.hid (HG2.out.trans hg3)
  clear hg3
  go_wp2_with fail
  have hpred : PredE 141 #[.pointer (some ⟨w.heap.size, 0, none⟩)] w3 (fun e => decide ((p.length : Int) ≤ e.at_)) := fun t op d a b W hgW R hR => offF_any t op d a b _ _ _ _ W (hgW.blk HB3.out) R hR
  refine containsFuncE_any 141 _ EG.out (fun e => decide ((p.length : Int) ≤ e.at_)) x _ _ (HX.out.grow HG3.out) hpred _ ?_
  intro w4 hg4
  rw [show x.any (fun e => decide ((p.length : Int) ≤ e.at_)) = false from H4.out]
  have HG4 := Lib.hid (HG3.out.trans hg4)
  clear hg4 hpred
  have HF := Lib.hid (HR.out w4 HG4.out)
  go_wp2_with fail
  exact HF.out
end Go.Proofs.YtmeejlgnhfkeaaaGreatDoor

namespace Go.Proofs.YtmeejlgnhfkeaaaGreatDoor
open Go.RowKit
set_option maxRecDepth 100000 in
set_option maxHeartbeats 4000000 in
theorem r2Passes_any (p : List Ln) (t : Tst) (pv : Value) (w : World) (hp : LinesAt w pv p) (ht : IntsAt w t.v t.xs) (hok : valP p = 0) (htok : t.ok = true) (R : Ending → World → Prop)
  (hR : ∀ w', Grow w w' → R (.returned (.tuple #[.bool (passM p t), .int .i64 0])) w') :
  Calls Tryz.prog 129 #[pv, .agg #[t.v, .int .i64 t.o, .int .i64 t.wt]] w R := by
 obtain ⟨v, xs, o, wt⟩ := t
 obtain ⟨k1, ⟨k2, k3⟩, _⟩ := Tst.ok_iff.1 htok
 have HC := Lib.hid ((chkT_one p ⟨v, xs, o, wt⟩).2 ⟨hok, htok⟩)
 have hpm : passM p ⟨v, xs, o, wt⟩ = decide (endM p xs o = wt) := rfl
 rw [hpm] at hR
 have HR := Lib.hid hR
 dsimp only at ht k1 k2 k3 ⊢
 have HP := Lib.hid hp
 have HT := Lib.hid ht
 have HOK := Lib.hid (chk_ok.2 ⟨hok, k1⟩)
 have HK2 := Lib.hid k2
 have HK3 := Lib.hid k3
 obtain ⟨q, hq⟩ : ∃ q, endM p xs o = q := ⟨_, rfl⟩
 rw [hq] at HR
 have HQ := Lib.hid hq
 obtain ⟨pa, pc, rfl, _⟩ := hp
 obtain ⟨sa, sc, rfl, _⟩ := ht
 have t1 : (q == wt) = decide (q = wt) := by by_cases h : q = wt <;> simp [h]
 generalize decide (q = wt) = bb at HR t1
 clear hR hpm hq htok hok k1 k2 k3
 go_enter Tryz.func129, Tryz.ntmps129
 go_wp2_with fail
 have hb := heap_alloc_new w (.cells #[.slice sa xs.length sc, .int .i64 o, .int .i64 wt] 63)
 have hg := (Grow.refl w).alloc (.cells #[.slice sa xs.length sc, .int .i64 o, .int .i64 wt] 63)
 have hsz : (w.alloc (.cells #[.slice sa xs.length sc, .int .i64 o, .int .i64 wt] 63)).heap.size = w.heap.size + 1 := by simp
 generalize w.alloc (.cells #[.slice sa xs.length sc, .int .i64 o, .int .i64 wt] 63) = W0 at hb hg hsz ⊢
 have hL := tests_lit W0 ⟨.slice sa xs.length sc, xs, o, wt⟩ 63 (HT.out.grow hg)
 dsimp only at hL
 rw [hsz] at hL
 have hg2 := (Grow.refl W0).alloc (.cells #[.slice sa xs.length sc, .int .i64 o, .int .i64 wt] 63)
 generalize W0.alloc (.cells #[.slice sa xs.length sc, .int .i64 o, .int .i64 wt] 63) = W1 at hL hg2 ⊢
 have HL := Lib.hid hL
 obtain ⟨c0, c1, c2⟩ := box3 hb
 have HG2 := Lib.hid (hg.trans hg2)
 refine r2tested_any p [⟨.slice sa xs.length sc, xs, o, wt⟩] _ _ _ (HP.out.grow HG2.out) HL.out _ ?_
 intro W hgW
 rw [HC.out]
 have d0 := (hg2.trans hgW).cell c0
 have d1 := (hg2.trans hgW).cell c1
 have d2 := (hg2.trans hgW).cell c2
 have hz : w.heap.size < W.heap.size := Nat.lt_of_lt_of_le (lt_of_block hb) (hg2.trans hgW).sz
 have HGW := Lib.hid (HG2.out.trans hgW)
 clear hb hg hg2 hgW c0 c1 c2 HL hL hsz
 go_wp2_with fail
 go_region_held3 (fun X => X.cell? ⟨w.heap.size, 0, none⟩ = some (.slice sa xs.length sc) ∧ X.cell? ⟨w.heap.size, 1, none⟩ = some (.int .i64 o) ∧ X.cell? ⟨w.heap.size, 2, none⟩ = some (.int .i64 wt) ∧ Grow W X)
  (first | exact ⟨d0, d1, d2, (Grow.refl W).drew⟩ | exact ⟨d0, d1, d2, Grow.refl W⟩ | exact keep3 hg8 (by assumption))
  (first | (go_at_call 178; refine r2made_any p xs o _ _ _ ?_ ?_ HOK.out HK2.out HK3.out _ ?_; exact HP.out.grow (HGW.out.trans (And.right (And.right (And.right ‹_›)))); exact HT.out.grow (HGW.out.trans (And.right (And.right (And.right ‹_›)))); intro w8 hg8; rw [HQ.out]))
 rename_i hx
 have hgf : Grow w w8 := HGW.out.trans hx.2.2.2
 have HF := Lib.hid (HR.out w8 hgf)
 go_wp2_with fail
 first | exact HF.out | (rw [t1]; exact HF.out)
end Go.Proofs.YtmeejlgnhfkeaaaGreatDoor
