/- The walks of package patch: which patches are valid. -/
import Derived.Test.YtfbfkkaepgcggaaGreatQ01
import Derived.Test.YtfbfkkaepgcggaaGreatQ07
import Derived.BigGuard
namespace Go.Proofs.YtfbfkkaepgcggaaGreat
open Go.RowKit

theorem box5 {w : World} {b : Nat} {c0 c1 c2 c3 c4 : Value} {e : TypeId} (h : w.heap[b]? = some (.cells #[c0, c1, c2, c3, c4] e (0, 0))) : w.cell? ⟨b, 0, none⟩ = some c0 ∧ w.cell? ⟨b, 1, none⟩ = some c1 ∧ w.cell? ⟨b, 2, none⟩ = some c2 ∧ w.cell? ⟨b, 3, none⟩ = some c3 ∧ w.cell? ⟨b, 4, none⟩ = some c4 := by
  refine ⟨?_, ?_, ?_, ?_, ?_⟩ <;> (unfold World.cell?; simp only [h]; rfl)
theorem keep5 {w2 X Y : World} {a0 a1 a2 a3 a4 : Addr} {v0 v1 v2 v3 v4 : Value} (g : Grow X Y)
    (h : X.cell? a0 = some v0 ∧ X.cell? a1 = some v1 ∧ X.cell? a2 = some v2 ∧ X.cell? a3 = some v3 ∧ X.cell? a4 = some v4 ∧ Grow w2 X) :
    Y.cell? a0 = some v0 ∧ Y.cell? a1 = some v1 ∧ Y.cell? a2 = some v2 ∧ Y.cell? a3 = some v3 ∧ Y.cell? a4 = some v4 ∧ Grow w2 Y :=
  ⟨g.cell h.1, g.cell h.2.1, g.cell h.2.2.1, g.cell h.2.2.2.1, g.cell h.2.2.2.2.1, h.2.2.2.2.2.trans g⟩
theorem keep6 {w2 X Y : World} {a0 a1 a2 a3 a4 a5 : Addr} {v0 v1 v2 v3 v4 v5 : Value} (g : Grow X Y)
    (h : X.cell? a0 = some v0 ∧ X.cell? a1 = some v1 ∧ X.cell? a2 = some v2 ∧ X.cell? a3 = some v3 ∧ X.cell? a4 = some v4 ∧ X.cell? a5 = some v5 ∧ Grow w2 X) :
    Y.cell? a0 = some v0 ∧ Y.cell? a1 = some v1 ∧ Y.cell? a2 = some v2 ∧ Y.cell? a3 = some v3 ∧ Y.cell? a4 = some v4 ∧ Y.cell? a5 = some v5 ∧ Grow w2 Y :=
  ⟨g.cell h.1, g.cell h.2.1, g.cell h.2.2.1, g.cell h.2.2.2.1, g.cell h.2.2.2.2.1, g.cell h.2.2.2.2.2.1, h.2.2.2.2.2.2.trans g⟩
theorem upto_succ {f : Nat → Bool} {k : Nat} (h : ∀ i < k, f i = true) (hk : f k = true) : ∀ i < k + 1, f i = true := fun i hi => by
  by_cases e : i = k
  · rw [e]; exact hk
  · exact h i (by omega)

set_option maxRecDepth 100000 in
set_option maxHeartbeats 16000000 in
theorem validateX_any (x : List Ed) (v : Value) (w : World) (hx : EditsAt w v x) (R : Ending → World → Prop) (hR : ∀ w', Grow w w' → R (.returned (.int .i64 (valX x))) w') :
    Calls Tryz.prog 106 #[v] w R := by
  have HX := Lib.hid hx
  have HR := Lib.hid hR
  obtain ⟨a, c, rfl, h1, h2, _⟩ := hx
  clear hR
  by_cases hl : 4 < x.length
  · have hv : valX x = 3 := by unfold valX; rw [if_pos hl]
    rw [hv] at HR
    have hl2 : (x.length : Int) > 4 := by omega
    go_enter Tryz.func106, Tryz.ntmps106
    go_wp2_with fail
    exact HR.out _ (Grow.refl _)
  · have hv : valX x = errB (edsOK x) := by unfold valX; rw [if_neg hl]
    rw [hv] at HR
    clear hv
    have hl2 : ¬ (x.length : Int) > 4 := by omega
    go_enter Tryz.func106, Tryz.ntmps106
    go_wp2_with fail
    go_loopw [3, 4, 10] (fun _ _ i wr => ∃ k : Nat, k ≤ x.length ∧ i = .int .i64 k ∧ Grow w wr ∧ ∀ i < k, edOK x i = true) (fun _ _ i _ => x.length - (intOf i).toNat)
    case atStart => exact ⟨0, Nat.zero_le _, rfl, Grow.refl _, fun i hi => by omega⟩
    case round =>
      obtain ⟨k, hk, rfl, hg, hall⟩ := hrel
      have HG := Lib.hid hg
      have HALL := Lib.hid hall
      have hzw := hg.sz
      clear hg hall
      by_cases hlt : k < x.length
      rotate_left
      · rw [edsOK_upto HALL.out (by omega), errB_true] at HR
        have HF := Lib.hid (HR.out _ HG.out)
        go_wp2_with fail
        exact HF.out
      obtain ⟨⟨t, op, d, a', b'⟩, he⟩ : ∃ e, x[k]? = some e := ⟨_, List.getElem?_eq_getElem hlt⟩
      have hiff := edOK_iff he
      dsimp only at hiff
      have HIFF := Lib.hid hiff
      have hltk : (k : Int) < (x.length : Int) := by omega
      have hpv : (k = 0 ∧ prevAt x k = -1) ∨ ∃ (j : Nat) (q : Ed), k = j + 1 ∧ x[j]? = some q ∧ prevAt x k = q.at_ := by
        by_cases h0 : k = 0
        · exact .inl ⟨h0, by unfold prevAt; rw [if_pos h0]⟩
        · obtain ⟨q, hq⟩ : ∃ q, x[k - 1]? = some q := ⟨_, List.getElem?_eq_getElem (by omega)⟩
          exact .inr ⟨k - 1, q, by omega, hq, by unfold prevAt; rw [if_neg h0, hq]⟩
      obtain ⟨pv, hpvd⟩ : ∃ z, prevAt x k = z := ⟨_, rfl⟩
      rw [hpvd] at hpv HIFF
      clear hiff hpvd
      obtain ⟨gb, o, rfl, hgb, y0, y1, y2, y3, y4⟩ := edits_at (HX.out.grow HG.out) he
      have HE := Lib.hid he
      clear he
      have BX := Lib.hid (heap_alloc_new wr (.cells #[.int .i64 t, .int .i64 op, .int .i64 d, .int .i64 a', .int .i64 b'] 46))
      have GX := Lib.hid ((Grow.refl wr).alloc (.cells #[.int .i64 t, .int .i64 op, .int .i64 d, .int .i64 a', .int .i64 b'] 46))
      rcases hpv with ⟨h0, hpv⟩ | ⟨j, q, hkj, hq, hpv⟩
      · have hk0 : ¬ (k : Int) > 0 := by omega
        subst hpv
        by_cases s0 : t < 0
        · skip
          have HOKK := Lib.hid (show edOK x k = false by rw [← Bool.not_eq_true, HIFF.out]; omega)
          have s0d0 : decide (t < 0) = true := by simp; omega
          try clear h0
          go_wp2_with fail
          generalize wr.alloc (.cells #[.int .i64 t, .int .i64 op, .int .i64 d, .int .i64 a', .int .i64 b'] 46) = W at BX GX ⊢
          obtain ⟨c0, c1, c2, c3, c4⟩ := box5 BX.out
          have hz := lt_of_block BX.out
          clear y0 y1 y2 y3 y4
          have HF := HR.out
          rw [edsOK_bad hlt HOKK.out, errB_false] at HF
          have HF2 := Lib.hid HF
          clear HF
          go_wp2_with (go_quiet (fail))
          exact HF2.out _ (HG.out.trans (GX.out.drewN _))
        by_cases s1 : 8 ≤ t
        · skip
          have HOKK := Lib.hid (show edOK x k = false by rw [← Bool.not_eq_true, HIFF.out]; omega)
          have s0d0 : decide (t < 0) = false := by simp; omega
          have s1d0 : decide (t ≥ 8) = true := by simp; omega
          have s1d1 : decide (8 ≤ t) = true := by simp; omega
          try clear h0
          go_wp2_with fail
          generalize wr.alloc (.cells #[.int .i64 t, .int .i64 op, .int .i64 d, .int .i64 a', .int .i64 b'] 46) = W at BX GX ⊢
          obtain ⟨c0, c1, c2, c3, c4⟩ := box5 BX.out
          have hz := lt_of_block BX.out
          clear y0 y1 y2 y3 y4
          have HF := HR.out
          rw [edsOK_bad hlt HOKK.out, errB_false] at HF
          have HF2 := Lib.hid HF
          clear HF
          go_wp2_with (go_quiet (fail))
          exact HF2.out _ (HG.out.trans (GX.out.drewN _))
        obtain ⟨q, hv⟩ : ∃ q, vL op d a' b' = q := ⟨_, rfl⟩
        have HOKK := Lib.hid (show edOK x k = q from by
          cases q with
          | true => exact HIFF.out.2 ⟨by omega, by omega, hv⟩
          | false => rw [← Bool.not_eq_true, HIFF.out]; rintro ⟨_, _, h⟩; unfold Ln.ok at h; rw [hv] at h; cases h)
        have HV := Lib.hid (show errB (vL op d a' b') = errB q by rw [hv])
        have hzq : (errB q != 0) = !q := by cases q <;> rfl
        clear hv
        have s0d0 : decide (t < 0) = false := by simp; omega
        have s1d0 : decide (t ≥ 8) = false := by simp; omega
        have s1d1 : decide (8 ≤ t) = false := by simp; omega
        have kzd0 : decide ((k : Int) > 0) = false := by simp; omega
        have kzd1 : decide (0 < (k : Int)) = false := by simp; omega
        have kzd2 : decide (0 < k) = false := by simp; omega
        clear h0
        try clear h0
        go_wp2_with fail
        generalize wr.alloc (.cells #[.int .i64 t, .int .i64 op, .int .i64 d, .int .i64 a', .int .i64 b'] 46) = W at BX GX ⊢
        obtain ⟨c0, c1, c2, c3, c4⟩ := box5 BX.out
        have hz := lt_of_block BX.out
        clear y0 y1 y2 y3 y4
        refine wp_region_held_drew (S := fun X => X.cell? ⟨wr.heap.size, 0, none⟩ = some (.int .i64 t) ∧ X.cell? ⟨wr.heap.size, 1, none⟩ = some (.int .i64 op) ∧ X.cell? ⟨wr.heap.size, 2, none⟩ = some (.int .i64 d) ∧ X.cell? ⟨wr.heap.size, 3, none⟩ = some (.int .i64 a') ∧ X.cell? ⟨wr.heap.size, 4, none⟩ = some (.int .i64 b') ∧ Grow W X) (by kernel_rfl) ⟨c0, c1, c2, c3, c4, (Grow.refl W).drew⟩ (fun hH => ?_)
        refine wpAnyH_take (i := 0) (v := .pointer (some ⟨wr.heap.size, 0, none⟩)) rfl (by kernel_rfl) (by kernel_rfl) (by kernel_rfl) (fun _ _ _ h => h) (Or.inl ⟨by rfl, ?_⟩) hH ?_
        · intro w9 hw9
          obtain ⟨d0, d1, d2, d3, d4, dg⟩ := hw9
          go_simp
        simp only [List.getElem_toArray, List.getElem_cons_zero, Act.put, List.setIfInBounds_toArray, List.set_cons_zero, List.set_cons_succ]
        refine wpAnyH_take (i := 1) (v := .int .i64 t) rfl (by kernel_rfl) (by kernel_rfl) (by kernel_rfl) (fun _ _ _ h => h) (Or.inl ⟨by rfl, ?_⟩) hH ?_
        · intro w9 hw9
          obtain ⟨d0, d1, d2, d3, d4, dg⟩ := hw9
          go_simp
        simp only [List.getElem_toArray, List.getElem_cons_succ, List.getElem_cons_zero, Act.put, List.setIfInBounds_toArray, List.set_cons_zero, List.set_cons_succ]
        refine wpAnyH_take (i := 2) (v := .bool false) rfl (by kernel_rfl) (by kernel_rfl) (by kernel_rfl) (fun _ _ _ h => h) (Or.inl ⟨by rfl, ?_⟩) hH ?_
        · intro w9 hw9
          obtain ⟨d0, d1, d2, d3, d4, dg⟩ := hw9
          go_simp
        simp only [List.getElem_toArray, List.getElem_cons_succ, List.getElem_cons_zero, Act.put, List.setIfInBounds_toArray, List.set_cons_zero, List.set_cons_succ]
        refine wpAnyH_take (i := 3) (v := .bool false) rfl (by kernel_rfl) (by kernel_rfl) (by kernel_rfl) (fun _ _ _ h => h) (Or.inl ⟨by rfl, ?_⟩) hH ?_
        · intro w9 hw9
          obtain ⟨d0, d1, d2, d3, d4, dg⟩ := hw9
          go_simp
        simp only [List.getElem_toArray, List.getElem_cons_succ, List.getElem_cons_zero, Act.put, List.setIfInBounds_toArray, List.set_cons_zero, List.set_cons_succ]
        refine wpAnyH_take (i := 4) (v := .pointer (some ⟨wr.heap.size, 0, none⟩)) rfl (by kernel_rfl) (by kernel_rfl) (by kernel_rfl) (fun _ _ _ h => h) (Or.inl ⟨by rfl, ?_⟩) hH ?_
        · intro w9 hw9
          obtain ⟨d0, d1, d2, d3, d4, dg⟩ := hw9
          go_simp
        simp only [List.getElem_toArray, List.getElem_cons_succ, List.getElem_cons_zero, Act.put, List.setIfInBounds_toArray, List.set_cons_zero, List.set_cons_succ]
        refine wpAnyH_take (i := 5) (v := .int .i64 t) rfl (by kernel_rfl) (by kernel_rfl) (by kernel_rfl) (fun _ _ _ h => h) (Or.inl ⟨by rfl, ?_⟩) hH ?_
        · intro w9 hw9
          obtain ⟨d0, d1, d2, d3, d4, dg⟩ := hw9
          go_simp
        simp only [List.getElem_toArray, List.getElem_cons_succ, List.getElem_cons_zero, Act.put, List.setIfInBounds_toArray, List.set_cons_zero, List.set_cons_succ]
        refine wpAnyH_take (i := 6) (v := .bool false) rfl (by kernel_rfl) (by kernel_rfl) (by kernel_rfl) (fun _ _ _ h => h) (Or.inl ⟨by rfl, ?_⟩) hH ?_
        · intro w9 hw9
          obtain ⟨d0, d1, d2, d3, d4, dg⟩ := hw9
          go_simp
        simp only [List.getElem_toArray, List.getElem_cons_succ, List.getElem_cons_zero, Act.put, List.setIfInBounds_toArray, List.set_cons_zero, List.set_cons_succ]
        refine wpAnyH_take (i := 7) (v := .bool false) rfl (by kernel_rfl) (by kernel_rfl) (by kernel_rfl) (fun _ _ _ h => h) (Or.inl ⟨by rfl, ?_⟩) hH ?_
        · intro w9 hw9
          obtain ⟨d0, d1, d2, d3, d4, dg⟩ := hw9
          go_simp
        simp only [List.getElem_toArray, List.getElem_cons_succ, List.getElem_cons_zero, Act.put, List.setIfInBounds_toArray, List.set_cons_zero, List.set_cons_succ]
        refine wpAnyH_take (i := 8) (v := .bool false) rfl (by kernel_rfl) (by kernel_rfl) (by kernel_rfl) (fun _ _ _ h => h) (Or.inl ⟨by rfl, ?_⟩) hH ?_
        · intro w9 hw9
          obtain ⟨d0, d1, d2, d3, d4, dg⟩ := hw9
          go_simp
        simp only [List.getElem_toArray, List.getElem_cons_succ, List.getElem_cons_zero, Act.put, List.setIfInBounds_toArray, List.set_cons_zero, List.set_cons_succ]
        refine wpAnyH_take (i := 9) (v := .int .i64 k) rfl (by kernel_rfl) (by kernel_rfl) (by kernel_rfl) (fun _ _ _ h => h) (Or.inl ⟨by rfl, ?_⟩) hH ?_
        · intro w9 hw9
          obtain ⟨d0, d1, d2, d3, d4, dg⟩ := hw9
          go_simp
        simp only [List.getElem_toArray, List.getElem_cons_succ, List.getElem_cons_zero, Act.put, List.setIfInBounds_toArray, List.set_cons_zero, List.set_cons_succ]
        refine wpAnyH_take (i := 10) (v := .bool false) rfl (by kernel_rfl) (by kernel_rfl) (by kernel_rfl) (fun _ _ _ h => h) (Or.inl ⟨by rfl, ?_⟩) hH ?_
        · intro w9 hw9
          obtain ⟨d0, d1, d2, d3, d4, dg⟩ := hw9
          go_simp
        simp only [List.getElem_toArray, List.getElem_cons_succ, List.getElem_cons_zero, Act.put, List.setIfInBounds_toArray, List.set_cons_zero, List.set_cons_succ]
        refine wpAnyH_take (i := 11) (v := .bool false) rfl (by kernel_rfl) (by kernel_rfl) (by kernel_rfl) (fun _ _ _ h => h) (Or.inl ⟨by rfl, ?_⟩) hH ?_
        · intro w9 hw9
          obtain ⟨d0, d1, d2, d3, d4, dg⟩ := hw9
          go_simp
        simp only [List.getElem_toArray, List.getElem_cons_succ, List.getElem_cons_zero, Act.put, List.setIfInBounds_toArray, List.set_cons_zero, List.set_cons_succ]
        refine wpAnyH_take (i := 12) (v := undef) rfl (by kernel_rfl) (by kernel_rfl) (by kernel_rfl) (fun _ _ _ h => h) (Or.inr ⟨by rfl, rfl⟩) hH ?_
        simp only [List.getElem_toArray, List.getElem_cons_succ, List.getElem_cons_zero, Act.put, List.setIfInBounds_toArray, List.set_cons_zero, List.set_cons_succ]
        refine wpAnyH_take (i := 13) (v := undef) rfl (by kernel_rfl) (by kernel_rfl) (by kernel_rfl) (fun _ _ _ h => h) (Or.inr ⟨by rfl, rfl⟩) hH ?_
        simp only [List.getElem_toArray, List.getElem_cons_succ, List.getElem_cons_zero, Act.put, List.setIfInBounds_toArray, List.set_cons_zero, List.set_cons_succ]
        refine wpAnyH_take (i := 14) (v := undef) rfl (by kernel_rfl) (by kernel_rfl) (by kernel_rfl) (fun _ _ _ h => h) (Or.inr ⟨by rfl, rfl⟩) hH ?_
        simp only [List.getElem_toArray, List.getElem_cons_succ, List.getElem_cons_zero, Act.put, List.setIfInBounds_toArray, List.set_cons_zero, List.set_cons_succ]
        refine wpAnyH_take (i := 15) (v := undef) rfl (by kernel_rfl) (by kernel_rfl) (by kernel_rfl) (fun _ _ _ h => h) (Or.inr ⟨by rfl, rfl⟩) hH ?_
        simp only [List.getElem_toArray, List.getElem_cons_succ, List.getElem_cons_zero, Act.put, List.setIfInBounds_toArray, List.set_cons_zero, List.set_cons_succ]
        refine wpAnyH_take (i := 16) (v := undef) rfl (by kernel_rfl) (by kernel_rfl) (by kernel_rfl) (fun _ _ _ h => h) (Or.inr ⟨by rfl, rfl⟩) hH ?_
        simp only [List.getElem_toArray, List.getElem_cons_succ, List.getElem_cons_zero, Act.put, List.setIfInBounds_toArray, List.set_cons_zero, List.set_cons_succ]
        refine wpAnyH_take (i := 17) (v := undef) rfl (by kernel_rfl) (by kernel_rfl) (by kernel_rfl) (fun _ _ _ h => h) (Or.inr ⟨by rfl, rfl⟩) hH ?_
        simp only [List.getElem_toArray, List.getElem_cons_succ, List.getElem_cons_zero, Act.put, List.setIfInBounds_toArray, List.set_cons_zero, List.set_cons_succ]
        refine wpAnyH_take (i := 18) (v := undef) rfl (by kernel_rfl) (by kernel_rfl) (by kernel_rfl) (fun _ _ _ h => h) (Or.inr ⟨by rfl, rfl⟩) hH ?_
        simp only [List.getElem_toArray, List.getElem_cons_succ, List.getElem_cons_zero, Act.put, List.setIfInBounds_toArray, List.set_cons_zero, List.set_cons_succ]
        refine wpAnyH_take (i := 19) (v := undef) rfl (by kernel_rfl) (by kernel_rfl) (by kernel_rfl) (fun _ _ _ h => h) (Or.inr ⟨by rfl, rfl⟩) hH ?_
        simp only [List.getElem_toArray, List.getElem_cons_succ, List.getElem_cons_zero, Act.put, List.setIfInBounds_toArray, List.set_cons_zero, List.set_cons_succ]
        refine wpAnyH_take (i := 20) (v := undef) rfl (by kernel_rfl) (by kernel_rfl) (by kernel_rfl) (fun _ _ _ h => h) (Or.inr ⟨by rfl, rfl⟩) hH ?_
        simp only [List.getElem_toArray, List.getElem_cons_succ, List.getElem_cons_zero, Act.put, List.setIfInBounds_toArray, List.set_cons_zero, List.set_cons_succ]
        refine wpAnyH_take (i := 21) (v := .bool false) rfl (by kernel_rfl) (by kernel_rfl) (by kernel_rfl) (fun _ _ _ h => h) (Or.inl ⟨by rfl, ?_⟩) hH ?_
        · intro w9 hw9
          obtain ⟨d0, d1, d2, d3, d4, dg⟩ := hw9
          go_simp
        simp only [List.getElem_toArray, List.getElem_cons_succ, List.getElem_cons_zero, Act.put, List.setIfInBounds_toArray, List.set_cons_zero, List.set_cons_succ]
        refine wpAnyH_take (i := 22) (v := .bool false) rfl (by kernel_rfl) (by kernel_rfl) (by kernel_rfl) (fun _ _ _ h => h) (Or.inl ⟨by rfl, ?_⟩) hH ?_
        · intro w9 hw9
          obtain ⟨d0, d1, d2, d3, d4, dg⟩ := hw9
          go_simp
        simp only [List.getElem_toArray, List.getElem_cons_succ, List.getElem_cons_zero, Act.put, List.setIfInBounds_toArray, List.set_cons_zero, List.set_cons_succ]
        refine wpAnyH_take (i := 23) (v := .bool false) rfl (by kernel_rfl) (by kernel_rfl) (by kernel_rfl) (fun _ _ _ h => h) (Or.inl ⟨by rfl, ?_⟩) hH ?_
        · intro w9 hw9
          obtain ⟨d0, d1, d2, d3, d4, dg⟩ := hw9
          go_simp
        simp only [List.getElem_toArray, List.getElem_cons_succ, List.getElem_cons_zero, Act.put, List.setIfInBounds_toArray, List.set_cons_zero, List.set_cons_succ]
        refine wpAnyH_take (i := 24) (v := .pointer (some ⟨wr.heap.size, 1, none⟩)) rfl (by kernel_rfl) (by kernel_rfl) (by kernel_rfl) (fun _ _ _ h => h) (Or.inl ⟨by rfl, ?_⟩) hH ?_
        · intro w9 hw9
          obtain ⟨d0, d1, d2, d3, d4, dg⟩ := hw9
          go_simp
        simp only [List.getElem_toArray, List.getElem_cons_succ, List.getElem_cons_zero, Act.put, List.setIfInBounds_toArray, List.set_cons_zero, List.set_cons_succ]
        refine wpAnyH_take (i := 25) (v := .agg #[.int .i64 op, .int .i64 d, .int .i64 a', .int .i64 b']) rfl (by kernel_rfl) (by kernel_rfl) (by kernel_rfl) (fun _ _ _ h => h) (Or.inl ⟨by rfl, ?_⟩) hH ?_
        · intro w9 hw9
          obtain ⟨d0, d1, d2, d3, d4, dg⟩ := hw9
          go_simp
        simp only [List.getElem_toArray, List.getElem_cons_succ, List.getElem_cons_zero, Act.put, List.setIfInBounds_toArray, List.set_cons_zero, List.set_cons_succ]
        refine wpAnyH_ready (rs := [26]) (by kernel_rfl) (by simp) ?_
        refine AllReadyH.cons rfl (fun K hK => ?_) AllReadyH.nil
        go_simp
        refine validateLine_any op d a' b' _ _ ?_
        intro w8 hg8
        rw [HV.out]
        go_wp2_with fail
        refine hK.out _ _ (keep5 hg8 hH) (fun hH2 => ?_)
        have hgW : Grow W w8 := hH2.2.2.2.2.2
        clear hK K hH
        have hH := hH2
        clear hH2
        refine wpAnyH_take (i := 27) (v := .bool (!q)) rfl (by kernel_rfl) (by kernel_rfl) (by kernel_rfl) (fun _ _ _ h => h) (Or.inl ⟨by rfl, ?_⟩) hH ?_
        · intro w9 hw9
          obtain ⟨d0, d1, d2, d3, d4, dg⟩ := hw9
          go_simp
        simp only [List.getElem_toArray, List.getElem_cons_succ, List.getElem_cons_zero, Act.put, List.setIfInBounds_toArray, List.set_cons_zero, List.set_cons_succ]
        refine wpAnyH_take (i := 28) (v := .bool (!q)) rfl (by kernel_rfl) (by kernel_rfl) (by kernel_rfl) (fun _ _ _ h => h) (Or.inl ⟨by rfl, ?_⟩) hH ?_
        · intro w9 hw9
          obtain ⟨d0, d1, d2, d3, d4, dg⟩ := hw9
          go_simp
        simp only [List.getElem_toArray, List.getElem_cons_succ, List.getElem_cons_zero, Act.put, List.setIfInBounds_toArray, List.set_cons_zero, List.set_cons_succ]
        refine wpAnyH_done (by kernel_rfl) ?_ _
        have HGW := Lib.hid (HG.out.trans (GX.out.trans hgW))
        clear hgW
        cases q with
        | true =>
          go_wp2_with fail
          go_roundw
          case rel => exact ⟨k + 1, by omega, by go_num, HGW.out, upto_succ HALL.out HOKK.out⟩
          case measure => simp [intOf]; omega
        | false =>
          have HF := HR.out
          rw [edsOK_bad hlt HOKK.out, errB_false] at HF
          have HF2 := Lib.hid HF
          clear HF
          go_wp2_with fail
          exact HF2.out _ HGW.out
      · have hk0 : (k : Int) > 0 := by omega
        obtain ⟨qt, qo, qd, qa, qb⟩ := q
        dsimp only at hpv
        obtain ⟨gb2, o2, e2, _, q0, _⟩ := edits_at (HX.out.grow HG.out) hq
        cases e2
        subst hpv
        have hkj2 : (k : Int) - 1 = (j : Int) := by omega
        have hjx : (j : Int) < (x.length : Int) := by omega
        have hwj : IntKind.i64.wrap (j : Int) = (j : Int) := IntWalk.i64_in _ (by omega)
        have hj0 : (0 : Int) ≤ (j : Int) := by omega
        have hjn : j < x.length := by omega
        clear hq hkj
        by_cases s0 : t < 0
        · skip
          have HOKK := Lib.hid (show edOK x k = false by rw [← Bool.not_eq_true, HIFF.out]; omega)
          have s0d0 : decide (t < 0) = true := by simp; omega
          try clear h0
          go_wp2_with fail
          generalize wr.alloc (.cells #[.int .i64 t, .int .i64 op, .int .i64 d, .int .i64 a', .int .i64 b'] 46) = W at BX GX ⊢
          obtain ⟨c0, c1, c2, c3, c4⟩ := box5 BX.out
          have hz := lt_of_block BX.out
          have p0 := GX.out.cell q0
          have hz2 : gb < W.heap.size := by have := GX.out.sz; omega
          clear y0 y1 y2 y3 y4 q0
          have HF := HR.out
          rw [edsOK_bad hlt HOKK.out, errB_false] at HF
          have HF2 := Lib.hid HF
          clear HF
          go_wp2_with (go_quiet (fail))
          exact HF2.out _ (HG.out.trans (GX.out.drewN _))
        by_cases s1 : 8 ≤ t
        · skip
          have HOKK := Lib.hid (show edOK x k = false by rw [← Bool.not_eq_true, HIFF.out]; omega)
          have s0d0 : decide (t < 0) = false := by simp; omega
          have s1d0 : decide (t ≥ 8) = true := by simp; omega
          have s1d1 : decide (8 ≤ t) = true := by simp; omega
          try clear h0
          go_wp2_with fail
          generalize wr.alloc (.cells #[.int .i64 t, .int .i64 op, .int .i64 d, .int .i64 a', .int .i64 b'] 46) = W at BX GX ⊢
          obtain ⟨c0, c1, c2, c3, c4⟩ := box5 BX.out
          have hz := lt_of_block BX.out
          have p0 := GX.out.cell q0
          have hz2 : gb < W.heap.size := by have := GX.out.sz; omega
          clear y0 y1 y2 y3 y4 q0
          have HF := HR.out
          rw [edsOK_bad hlt HOKK.out, errB_false] at HF
          have HF2 := Lib.hid HF
          clear HF
          go_wp2_with (go_quiet (fail))
          exact HF2.out _ (HG.out.trans (GX.out.drewN _))
        by_cases s2 : t ≤ pv
        · skip
          have HOKK := Lib.hid (show edOK x k = false by rw [← Bool.not_eq_true, HIFF.out]; omega)
          have s0d0 : decide (t < 0) = false := by simp; omega
          have s1d0 : decide (t ≥ 8) = false := by simp; omega
          have s1d1 : decide (8 ≤ t) = false := by simp; omega
          have kzd0 : decide ((k : Int) > 0) = true := by simp; omega
          have kzd1 : decide (0 < (k : Int)) = true := by simp; omega
          have kzd2 : decide (0 < k) = true := by simp; omega
          have s2d0 : decide (pv ≥ t) = true := by simp; omega
          have s2d1 : decide (t ≤ pv) = true := by simp; omega
          try clear h0
          go_wp2_with fail
          generalize wr.alloc (.cells #[.int .i64 t, .int .i64 op, .int .i64 d, .int .i64 a', .int .i64 b'] 46) = W at BX GX ⊢
          obtain ⟨c0, c1, c2, c3, c4⟩ := box5 BX.out
          have hz := lt_of_block BX.out
          have p0 := GX.out.cell q0
          have hz2 : gb < W.heap.size := by have := GX.out.sz; omega
          clear y0 y1 y2 y3 y4 q0
          have HF := HR.out
          rw [edsOK_bad hlt HOKK.out, errB_false] at HF
          have HF2 := Lib.hid HF
          clear HF
          go_wp2_with (go_quiet (fail))
          exact HF2.out _ (HG.out.trans (GX.out.drewN _))
        obtain ⟨q, hv⟩ : ∃ q, vL op d a' b' = q := ⟨_, rfl⟩
        have HOKK := Lib.hid (show edOK x k = q from by
          cases q with
          | true => exact HIFF.out.2 ⟨by omega, by omega, hv⟩
          | false => rw [← Bool.not_eq_true, HIFF.out]; rintro ⟨_, _, h⟩; unfold Ln.ok at h; rw [hv] at h; cases h)
        have HV := Lib.hid (show errB (vL op d a' b') = errB q by rw [hv])
        have hzq : (errB q != 0) = !q := by cases q <;> rfl
        clear hv
        have s0d0 : decide (t < 0) = false := by simp; omega
        have s1d0 : decide (t ≥ 8) = false := by simp; omega
        have s1d1 : decide (8 ≤ t) = false := by simp; omega
        have kzd0 : decide ((k : Int) > 0) = true := by simp; omega
        have kzd1 : decide (0 < (k : Int)) = true := by simp; omega
        have kzd2 : decide (0 < k) = true := by simp; omega
        have s2d0 : decide (pv ≥ t) = false := by simp; omega
        have s2d1 : decide (t ≤ pv) = false := by simp; omega
        try clear h0
        go_wp2_with fail
        generalize wr.alloc (.cells #[.int .i64 t, .int .i64 op, .int .i64 d, .int .i64 a', .int .i64 b'] 46) = W at BX GX ⊢
        obtain ⟨c0, c1, c2, c3, c4⟩ := box5 BX.out
        have hz := lt_of_block BX.out
        have p0 := GX.out.cell q0
        have hz2 : gb < W.heap.size := by have := GX.out.sz; omega
        clear y0 y1 y2 y3 y4 q0
        refine wp_region_held_drew (S := fun X => X.cell? ⟨wr.heap.size, 0, none⟩ = some (.int .i64 t) ∧ X.cell? ⟨wr.heap.size, 1, none⟩ = some (.int .i64 op) ∧ X.cell? ⟨wr.heap.size, 2, none⟩ = some (.int .i64 d) ∧ X.cell? ⟨wr.heap.size, 3, none⟩ = some (.int .i64 a') ∧ X.cell? ⟨wr.heap.size, 4, none⟩ = some (.int .i64 b') ∧ X.cell? ⟨gb, o + j * 5, none⟩ = some (.int .i64 pv) ∧ Grow W X) (by kernel_rfl) ⟨c0, c1, c2, c3, c4, p0, (Grow.refl W).drew⟩ (fun hH => ?_)
        refine wpAnyH_take (i := 0) (v := .pointer (some ⟨wr.heap.size, 0, none⟩)) rfl (by kernel_rfl) (by kernel_rfl) (by kernel_rfl) (fun _ _ _ h => h) (Or.inl ⟨by rfl, ?_⟩) hH ?_
        · intro w9 hw9
          obtain ⟨d0, d1, d2, d3, d4, dp, dg⟩ := hw9
          go_simp
        simp only [List.getElem_toArray, List.getElem_cons_zero, Act.put, List.setIfInBounds_toArray, List.set_cons_zero, List.set_cons_succ]
        refine wpAnyH_take (i := 1) (v := .int .i64 t) rfl (by kernel_rfl) (by kernel_rfl) (by kernel_rfl) (fun _ _ _ h => h) (Or.inl ⟨by rfl, ?_⟩) hH ?_
        · intro w9 hw9
          obtain ⟨d0, d1, d2, d3, d4, dp, dg⟩ := hw9
          go_simp
        simp only [List.getElem_toArray, List.getElem_cons_succ, List.getElem_cons_zero, Act.put, List.setIfInBounds_toArray, List.set_cons_zero, List.set_cons_succ]
        refine wpAnyH_take (i := 2) (v := .bool false) rfl (by kernel_rfl) (by kernel_rfl) (by kernel_rfl) (fun _ _ _ h => h) (Or.inl ⟨by rfl, ?_⟩) hH ?_
        · intro w9 hw9
          obtain ⟨d0, d1, d2, d3, d4, dp, dg⟩ := hw9
          go_simp
        simp only [List.getElem_toArray, List.getElem_cons_succ, List.getElem_cons_zero, Act.put, List.setIfInBounds_toArray, List.set_cons_zero, List.set_cons_succ]
        refine wpAnyH_take (i := 3) (v := .bool false) rfl (by kernel_rfl) (by kernel_rfl) (by kernel_rfl) (fun _ _ _ h => h) (Or.inl ⟨by rfl, ?_⟩) hH ?_
        · intro w9 hw9
          obtain ⟨d0, d1, d2, d3, d4, dp, dg⟩ := hw9
          go_simp
        simp only [List.getElem_toArray, List.getElem_cons_succ, List.getElem_cons_zero, Act.put, List.setIfInBounds_toArray, List.set_cons_zero, List.set_cons_succ]
        refine wpAnyH_take (i := 4) (v := .pointer (some ⟨wr.heap.size, 0, none⟩)) rfl (by kernel_rfl) (by kernel_rfl) (by kernel_rfl) (fun _ _ _ h => h) (Or.inl ⟨by rfl, ?_⟩) hH ?_
        · intro w9 hw9
          obtain ⟨d0, d1, d2, d3, d4, dp, dg⟩ := hw9
          go_simp
        simp only [List.getElem_toArray, List.getElem_cons_succ, List.getElem_cons_zero, Act.put, List.setIfInBounds_toArray, List.set_cons_zero, List.set_cons_succ]
        refine wpAnyH_take (i := 5) (v := .int .i64 t) rfl (by kernel_rfl) (by kernel_rfl) (by kernel_rfl) (fun _ _ _ h => h) (Or.inl ⟨by rfl, ?_⟩) hH ?_
        · intro w9 hw9
          obtain ⟨d0, d1, d2, d3, d4, dp, dg⟩ := hw9
          go_simp
        simp only [List.getElem_toArray, List.getElem_cons_succ, List.getElem_cons_zero, Act.put, List.setIfInBounds_toArray, List.set_cons_zero, List.set_cons_succ]
        refine wpAnyH_take (i := 6) (v := .bool false) rfl (by kernel_rfl) (by kernel_rfl) (by kernel_rfl) (fun _ _ _ h => h) (Or.inl ⟨by rfl, ?_⟩) hH ?_
        · intro w9 hw9
          obtain ⟨d0, d1, d2, d3, d4, dp, dg⟩ := hw9
          go_simp
        simp only [List.getElem_toArray, List.getElem_cons_succ, List.getElem_cons_zero, Act.put, List.setIfInBounds_toArray, List.set_cons_zero, List.set_cons_succ]
        refine wpAnyH_take (i := 7) (v := .bool false) rfl (by kernel_rfl) (by kernel_rfl) (by kernel_rfl) (fun _ _ _ h => h) (Or.inl ⟨by rfl, ?_⟩) hH ?_
        · intro w9 hw9
          obtain ⟨d0, d1, d2, d3, d4, dp, dg⟩ := hw9
          go_simp
        simp only [List.getElem_toArray, List.getElem_cons_succ, List.getElem_cons_zero, Act.put, List.setIfInBounds_toArray, List.set_cons_zero, List.set_cons_succ]
        refine wpAnyH_take (i := 8) (v := .bool false) rfl (by kernel_rfl) (by kernel_rfl) (by kernel_rfl) (fun _ _ _ h => h) (Or.inl ⟨by rfl, ?_⟩) hH ?_
        · intro w9 hw9
          obtain ⟨d0, d1, d2, d3, d4, dp, dg⟩ := hw9
          go_simp
        simp only [List.getElem_toArray, List.getElem_cons_succ, List.getElem_cons_zero, Act.put, List.setIfInBounds_toArray, List.set_cons_zero, List.set_cons_succ]
        refine wpAnyH_take (i := 9) (v := .int .i64 k) rfl (by kernel_rfl) (by kernel_rfl) (by kernel_rfl) (fun _ _ _ h => h) (Or.inl ⟨by rfl, ?_⟩) hH ?_
        · intro w9 hw9
          obtain ⟨d0, d1, d2, d3, d4, dp, dg⟩ := hw9
          go_simp
        simp only [List.getElem_toArray, List.getElem_cons_succ, List.getElem_cons_zero, Act.put, List.setIfInBounds_toArray, List.set_cons_zero, List.set_cons_succ]
        refine wpAnyH_take (i := 10) (v := .bool true) rfl (by kernel_rfl) (by kernel_rfl) (by kernel_rfl) (fun _ _ _ h => h) (Or.inl ⟨by rfl, ?_⟩) hH ?_
        · intro w9 hw9
          obtain ⟨d0, d1, d2, d3, d4, dp, dg⟩ := hw9
          go_simp
        simp only [List.getElem_toArray, List.getElem_cons_succ, List.getElem_cons_zero, Act.put, List.setIfInBounds_toArray, List.set_cons_zero, List.set_cons_succ]
        refine wpAnyH_take (i := 11) (v := .bool true) rfl (by kernel_rfl) (by kernel_rfl) (by kernel_rfl) (fun _ _ _ h => h) (Or.inl ⟨by rfl, ?_⟩) hH ?_
        · intro w9 hw9
          obtain ⟨d0, d1, d2, d3, d4, dp, dg⟩ := hw9
          go_simp
        simp only [List.getElem_toArray, List.getElem_cons_succ, List.getElem_cons_zero, Act.put, List.setIfInBounds_toArray, List.set_cons_zero, List.set_cons_succ]
        refine wpAnyH_take (i := 12) (v := .slice (some ⟨gb, o, none⟩) x.length c) rfl (by kernel_rfl) (by kernel_rfl) (by kernel_rfl) (fun _ _ _ h => h) (Or.inl ⟨by rfl, ?_⟩) hH ?_
        · intro w9 hw9
          obtain ⟨d0, d1, d2, d3, d4, dp, dg⟩ := hw9
          go_simp
        simp only [List.getElem_toArray, List.getElem_cons_succ, List.getElem_cons_zero, Act.put, List.setIfInBounds_toArray, List.set_cons_zero, List.set_cons_succ]
        refine wpAnyH_take (i := 13) (v := .int .i64 k) rfl (by kernel_rfl) (by kernel_rfl) (by kernel_rfl) (fun _ _ _ h => h) (Or.inl ⟨by rfl, ?_⟩) hH ?_
        · intro w9 hw9
          obtain ⟨d0, d1, d2, d3, d4, dp, dg⟩ := hw9
          go_simp
        simp only [List.getElem_toArray, List.getElem_cons_succ, List.getElem_cons_zero, Act.put, List.setIfInBounds_toArray, List.set_cons_zero, List.set_cons_succ]
        refine wpAnyH_take (i := 14) (v := .int .i64 j) rfl (by kernel_rfl) (by kernel_rfl) (by kernel_rfl) (fun _ _ _ h => h) (Or.inl ⟨by rfl, ?_⟩) hH ?_
        · intro w9 hw9
          obtain ⟨d0, d1, d2, d3, d4, dp, dg⟩ := hw9
          go_simp
        simp only [List.getElem_toArray, List.getElem_cons_succ, List.getElem_cons_zero, Act.put, List.setIfInBounds_toArray, List.set_cons_zero, List.set_cons_succ]
        refine wpAnyH_take (i := 15) (v := .pointer (some ⟨gb, o + j * 5, none⟩)) rfl (by kernel_rfl) (by kernel_rfl) (by kernel_rfl) (fun _ _ _ h => h) (Or.inl ⟨by rfl, ?_⟩) hH ?_
        · intro w9 hw9
          obtain ⟨d0, d1, d2, d3, d4, dp, dg⟩ := hw9
          go_simp
        simp only [List.getElem_toArray, List.getElem_cons_succ, List.getElem_cons_zero, Act.put, List.setIfInBounds_toArray, List.set_cons_zero, List.set_cons_succ]
        refine wpAnyH_take (i := 16) (v := .pointer (some ⟨gb, o + j * 5, none⟩)) rfl (by kernel_rfl) (by kernel_rfl) (by kernel_rfl) (fun _ _ _ h => h) (Or.inl ⟨by rfl, ?_⟩) hH ?_
        · intro w9 hw9
          obtain ⟨d0, d1, d2, d3, d4, dp, dg⟩ := hw9
          go_simp
        simp only [List.getElem_toArray, List.getElem_cons_succ, List.getElem_cons_zero, Act.put, List.setIfInBounds_toArray, List.set_cons_zero, List.set_cons_succ]
        refine wpAnyH_take (i := 17) (v := .int .i64 pv) rfl (by kernel_rfl) (by kernel_rfl) (by kernel_rfl) (fun _ _ _ h => h) (Or.inl ⟨by rfl, ?_⟩) hH ?_
        · intro w9 hw9
          obtain ⟨d0, d1, d2, d3, d4, dp, dg⟩ := hw9
          go_simp
        simp only [List.getElem_toArray, List.getElem_cons_succ, List.getElem_cons_zero, Act.put, List.setIfInBounds_toArray, List.set_cons_zero, List.set_cons_succ]
        refine wpAnyH_take (i := 18) (v := .pointer (some ⟨wr.heap.size, 0, none⟩)) rfl (by kernel_rfl) (by kernel_rfl) (by kernel_rfl) (fun _ _ _ h => h) (Or.inl ⟨by rfl, ?_⟩) hH ?_
        · intro w9 hw9
          obtain ⟨d0, d1, d2, d3, d4, dp, dg⟩ := hw9
          go_simp
        simp only [List.getElem_toArray, List.getElem_cons_succ, List.getElem_cons_zero, Act.put, List.setIfInBounds_toArray, List.set_cons_zero, List.set_cons_succ]
        refine wpAnyH_take (i := 19) (v := .int .i64 t) rfl (by kernel_rfl) (by kernel_rfl) (by kernel_rfl) (fun _ _ _ h => h) (Or.inl ⟨by rfl, ?_⟩) hH ?_
        · intro w9 hw9
          obtain ⟨d0, d1, d2, d3, d4, dp, dg⟩ := hw9
          go_simp
        simp only [List.getElem_toArray, List.getElem_cons_succ, List.getElem_cons_zero, Act.put, List.setIfInBounds_toArray, List.set_cons_zero, List.set_cons_succ]
        refine wpAnyH_take (i := 20) (v := .bool false) rfl (by kernel_rfl) (by kernel_rfl) (by kernel_rfl) (fun _ _ _ h => h) (Or.inl ⟨by rfl, ?_⟩) hH ?_
        · intro w9 hw9
          obtain ⟨d0, d1, d2, d3, d4, dp, dg⟩ := hw9
          go_simp
        simp only [List.getElem_toArray, List.getElem_cons_succ, List.getElem_cons_zero, Act.put, List.setIfInBounds_toArray, List.set_cons_zero, List.set_cons_succ]
        refine wpAnyH_take (i := 21) (v := .bool false) rfl (by kernel_rfl) (by kernel_rfl) (by kernel_rfl) (fun _ _ _ h => h) (Or.inl ⟨by rfl, ?_⟩) hH ?_
        · intro w9 hw9
          obtain ⟨d0, d1, d2, d3, d4, dp, dg⟩ := hw9
          go_simp
        simp only [List.getElem_toArray, List.getElem_cons_succ, List.getElem_cons_zero, Act.put, List.setIfInBounds_toArray, List.set_cons_zero, List.set_cons_succ]
        refine wpAnyH_take (i := 22) (v := .bool false) rfl (by kernel_rfl) (by kernel_rfl) (by kernel_rfl) (fun _ _ _ h => h) (Or.inl ⟨by rfl, ?_⟩) hH ?_
        · intro w9 hw9
          obtain ⟨d0, d1, d2, d3, d4, dp, dg⟩ := hw9
          go_simp
        simp only [List.getElem_toArray, List.getElem_cons_succ, List.getElem_cons_zero, Act.put, List.setIfInBounds_toArray, List.set_cons_zero, List.set_cons_succ]
        refine wpAnyH_take (i := 23) (v := .bool false) rfl (by kernel_rfl) (by kernel_rfl) (by kernel_rfl) (fun _ _ _ h => h) (Or.inl ⟨by rfl, ?_⟩) hH ?_
        · intro w9 hw9
          obtain ⟨d0, d1, d2, d3, d4, dp, dg⟩ := hw9
          go_simp
        simp only [List.getElem_toArray, List.getElem_cons_succ, List.getElem_cons_zero, Act.put, List.setIfInBounds_toArray, List.set_cons_zero, List.set_cons_succ]
        refine wpAnyH_take (i := 24) (v := .pointer (some ⟨wr.heap.size, 1, none⟩)) rfl (by kernel_rfl) (by kernel_rfl) (by kernel_rfl) (fun _ _ _ h => h) (Or.inl ⟨by rfl, ?_⟩) hH ?_
        · intro w9 hw9
          obtain ⟨d0, d1, d2, d3, d4, dp, dg⟩ := hw9
          go_simp
        simp only [List.getElem_toArray, List.getElem_cons_succ, List.getElem_cons_zero, Act.put, List.setIfInBounds_toArray, List.set_cons_zero, List.set_cons_succ]
        refine wpAnyH_take (i := 25) (v := .agg #[.int .i64 op, .int .i64 d, .int .i64 a', .int .i64 b']) rfl (by kernel_rfl) (by kernel_rfl) (by kernel_rfl) (fun _ _ _ h => h) (Or.inl ⟨by rfl, ?_⟩) hH ?_
        · intro w9 hw9
          obtain ⟨d0, d1, d2, d3, d4, dp, dg⟩ := hw9
          go_simp
        simp only [List.getElem_toArray, List.getElem_cons_succ, List.getElem_cons_zero, Act.put, List.setIfInBounds_toArray, List.set_cons_zero, List.set_cons_succ]
        refine wpAnyH_ready (rs := [26]) (by kernel_rfl) (by simp) ?_
        refine AllReadyH.cons rfl (fun K hK => ?_) AllReadyH.nil
        go_simp
        refine validateLine_any op d a' b' _ _ ?_
        intro w8 hg8
        rw [HV.out]
        go_wp2_with fail
        refine hK.out _ _ (keep6 hg8 hH) (fun hH2 => ?_)
        have hgW : Grow W w8 := hH2.2.2.2.2.2.2
        clear hK K hH
        have hH := hH2
        clear hH2
        refine wpAnyH_take (i := 27) (v := .bool (!q)) rfl (by kernel_rfl) (by kernel_rfl) (by kernel_rfl) (fun _ _ _ h => h) (Or.inl ⟨by rfl, ?_⟩) hH ?_
        · intro w9 hw9
          obtain ⟨d0, d1, d2, d3, d4, dp, dg⟩ := hw9
          go_simp
        simp only [List.getElem_toArray, List.getElem_cons_succ, List.getElem_cons_zero, Act.put, List.setIfInBounds_toArray, List.set_cons_zero, List.set_cons_succ]
        refine wpAnyH_take (i := 28) (v := .bool (!q)) rfl (by kernel_rfl) (by kernel_rfl) (by kernel_rfl) (fun _ _ _ h => h) (Or.inl ⟨by rfl, ?_⟩) hH ?_
        · intro w9 hw9
          obtain ⟨d0, d1, d2, d3, d4, dp, dg⟩ := hw9
          go_simp
        simp only [List.getElem_toArray, List.getElem_cons_succ, List.getElem_cons_zero, Act.put, List.setIfInBounds_toArray, List.set_cons_zero, List.set_cons_succ]
        refine wpAnyH_done (by kernel_rfl) ?_ _
        have HGW := Lib.hid (HG.out.trans (GX.out.trans hgW))
        clear hgW
        cases q with
        | true =>
          go_wp2_with fail
          go_roundw
          case rel => exact ⟨k + 1, by omega, by go_num, HGW.out, upto_succ HALL.out HOKK.out⟩
          case measure => simp [intOf]; omega
        | false =>
          have HF := HR.out
          rw [edsOK_bad hlt HOKK.out, errB_false] at HF
          have HF2 := Lib.hid HF
          clear HF
          go_wp2_with fail
          exact HF2.out _ HGW.out
end Go.Proofs.YtfbfkkaepgcggaaGreat
