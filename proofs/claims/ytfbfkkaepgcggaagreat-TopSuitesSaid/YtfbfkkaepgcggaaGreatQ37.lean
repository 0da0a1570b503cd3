/-
What the law asks besides: which lists are too long, which are the same; the law's own sort.
The walk of the law's own sort.
The walks of the library's MaxFunc, and of suite.Greedy.
-/
import Derived.Test.YtfbfkkaepgcggaaGreatQ15
import Derived.Test.YtfbfkkaepgcggaaGreatQ32
import Derived.RegionTactic
import Derived.BigRegion
import Derived.Test.YtfbfkkaepgcggaaGreatQ02
import Derived.Deep.QuietTactic
import Derived.BigQuiet
import Derived.Deep.RegionHeld3
import Derived.Test.YtfbfkkaepgcggaaGreatQ17
import Derived.Test.YtfbfkkaepgcggaaGreatQ34

namespace Go.Proofs.YtfbfkkaepgcggaaGreat
open Go.RowKit

theorem take_succ_eq8 {α : Type} {xs ys : List α} {k : Nat} {x : α} (h : xs.take k = ys.take k) (hx : xs[k]? = some x) (hy : ys[k]? = some x) : xs.take (k + 1) = ys.take (k + 1) := by
  rw [List.take_add_one, List.take_add_one, h, hx, hy]
theorem sameInts8_loop {xs ys : List Int} (k : Nat) (hl : xs.length = ys.length) (h : xs.take k = ys.take k) (hk : xs.length ≤ k) : decide (xs = ys) = true := by
  rw [List.take_of_length_le hk, List.take_of_length_le (by omega)] at h
  simp [h]
set_option maxHeartbeats 2000000 in
theorem sameInts8_any (xs ys : List Int) (v u : Value) (w : World) (hx : IntsAt w v xs) (hy : IntsAt w u ys) (R : Ending → World → Prop) (hR : ∀ w', Grow w w' → R (.returned (.bool (decide (xs = ys)))) w') :
    Calls Tryz.prog 5 #[v, u] w R := by
  have HR := Lib.hid hR
  clear hR
  obtain ⟨a, c, rfl, h1, h2, h3⟩ := hx
  obtain ⟨a', c', rfl, h1', h2', h3'⟩ := hy
  by_cases hl : xs.length = ys.length
  · rw [← hl] at h1' ⊢
    go_enter Tryz.func5, Tryz.ntmps5
    go_wp2_with fail
    go_loopw [5] (fun i wr => ∃ k : Nat, k ≤ xs.length ∧ i = .int .i64 k ∧ xs.take k = ys.take k ∧ Grow w wr) (fun i _ => xs.length - (intOf i).toNat)
    case atStart => exact ⟨0, Nat.zero_le _, rfl, rfl, Grow.refl _⟩
    case round =>
      obtain ⟨k, hk, rfl, hs, hg⟩ := hrel
      by_cases hlt : k < xs.length
      · replace h3 := h3.resolve_left (by intro h; simp [h.1] at hlt)
        replace h3' := h3'.resolve_left (by intro h; have h0 := h.1; rw [h0] at hl; rw [hl] at hlt; simp at hlt)
        obtain ⟨b, o, rfl, hb, hc⟩ := h3
        obtain ⟨b', o', rfl, hb', hc'⟩ := h3'
        obtain ⟨x, hx⟩ : ∃ l, xs[k]? = some l := ⟨_, List.getElem?_eq_getElem hlt⟩
        obtain ⟨y, hy⟩ : ∃ l, ys[k]? = some l := ⟨_, List.getElem?_eq_getElem (by omega)⟩
        have e0 := hg.cell (ints_cell hc k x hx)
        have e1 := hg.cell (ints_cell hc' k y hy)
        have HX := Lib.hid hx
        have HY := Lib.hid hy
        have HG := Lib.hid hg
        have HS := Lib.hid hs
        have HL := Lib.hid hl
        clear hc hc' hx hy hg hs hl
        by_cases hxy : x = y
        · subst hxy
          go_wp2_with (go_quiet (fail))
          go_roundw
          case rel => exact ⟨k + 1, by omega, by go_num, take_succ_eq8 HS.out HX.out HY.out, HG.out.drewN _⟩
          case measure => simp [intOf]; omega
        · have t1 : (x == y) = false := by simpa using hxy
          have t2 : (x != y) = true := by simpa using hxy
          have hne : decide (xs = ys) = false := by
            simp only [decide_eq_false_iff_not]; intro e; rw [e, HY.out] at HX; exact hxy (Option.some.inj HX.out).symm
          rw [hne] at HR
          go_wp2_with (go_quiet (fail))
          exact HR.out _ (HG.out.drewN _)
      · have ht := sameInts8_loop k hl hs (by omega)
        rw [ht] at HR
        go_wp2_with fail
        exact HR.out _ hg
  · have hne : decide (xs = ys) = false := by
      simp only [decide_eq_false_iff_not]; intro e; exact hl (by rw [e])
    rw [hne] at HR
    have hl2 : (xs.length : Int) ≠ ys.length := by omega
    have t1 : ((xs.length : Int) == ys.length) = false := beq_eq_false_iff_ne.2 hl2
    have t2 : ((xs.length : Int) != ys.length) = true := bne_iff_ne.2 hl2
    go_enter Tryz.func5, Tryz.ntmps5
    go_wp2_with fail
    exact HR.out _ (Grow.refl _)
theorem long4_any (p : List Ln) (v : Value) (w : World) (hp : LinesAt w v p) (R : Ending → World → Prop) (hR : R (.returned (.bool (decide (100 < p.length)))) w) :
    Calls Tryz.prog 7 #[v, .slice none 0 0] w R := by
  obtain ⟨a, c, rfl, h1, h2, _⟩ := hp
  by_cases h : 100 < p.length
  · rw [decide_eq_true h] at hR
    have t1 : (p.length : Int) > 100 := by omega
    go_enter Tryz.func7, Tryz.ntmps7
    go_wp2
    simpa using hR
  · rw [decide_eq_false h] at hR
    have t1 : ¬ (p.length : Int) > 100 := by omega
    go_enter Tryz.func7, Tryz.ntmps7
    go_wp2
    simpa using hR

set_option maxHeartbeats 4000000 in
theorem many_any (ts : List Tst) (v : Value) (w : World) (hx : TestsAt w v ts) (R : Ending → World → Prop) (hR : ∀ q, (q = false → ts.length ≤ 50) → R (.returned (.bool q)) w) :
    Calls Tryz.prog 8 #[v] w R := by
  have HX := Lib.hid hx
  have HR := Lib.hid hR
  obtain ⟨⟨a, c, rfl, h1, h2, _⟩, _⟩ := hx
  clear hR
  go_enter Tryz.func8, Tryz.ntmps8
  go_wp2_with fail
  go_loopw [3] (fun i wr => ∃ k : Nat, k ≤ ts.length ∧ i = .int .i64 k ∧ wr = w) (fun i _ => ts.length - (intOf i).toNat)
  case atStart => exact ⟨0, Nat.zero_le _, rfl, rfl⟩
  case round =>
    obtain ⟨k, hk, rfl, rfl⟩ := hrel
    by_cases hlt : k < ts.length
    · obtain ⟨⟨v, xs, o', wt⟩, ht⟩ : ∃ x, ts[k]? = some x := ⟨_, List.getElem?_eq_getElem hlt⟩
      obtain ⟨b, o, rfl, hb, e0, _, _⟩ := tests_at HX.out.at_ ht
      obtain ⟨sa, sc, hv, _⟩ := HX.out.ins _ (List.mem_of_getElem? ht)
      dsimp only at hv e0
      subst hv
      have hlt2 : (k : Int) < (ts.length : Int) := by omega
      generalize xs.length = m at *
      by_cases h50 : 50 < m
      · have t1 : (m : Int) > 50 := by omega
        have HF := Lib.hid (HR.out true (by simp))
        go_wp2_with fail
        exact HF.out
      · have t1 : ¬ (m : Int) > 50 := by omega
        go_wp2_with fail
        go_roundw
        case rel => exact ⟨k + 1, by omega, by go_num, trivial⟩
        case measure => simp [intOf]; omega
    · have hlt2 : ¬ (k : Int) < (ts.length : Int) := by omega
      have HF := Lib.hid (HR.out (decide ((50 : Int) < (ts.length : Int))) (fun h => by have := of_decide_eq_false h; omega))
      go_wp2_with fail
      exact HF.out
set_option maxHeartbeats 4000000 in
theorem long8_any (T : List (List Int)) (tv : Value) (w : World) (hx : FamAt w tv T) (R : Ending → World → Prop) (hR : ∀ q, R (.returned (.bool q)) w) :
    Calls Tryz.prog 6 #[tv] w R := by
  have HX := Lib.hid hx
  have HR := Lib.hid hR
  obtain ⟨a, c, rfl, h1, h2⟩ := hx.out
  obtain ⟨n, hn⟩ : ∃ n, T.length = n := ⟨_, rfl⟩
  have HN := Lib.hid hn
  rw [hn] at HX h1 ⊢
  clear hR hx hn
  go_enter Tryz.func6, Tryz.ntmps6
  go_wp2_with fail
  go_loopw [3] (fun i wr => ∃ k : Nat, k ≤ n ∧ i = .int .i64 k ∧ wr = w) (fun i _ => n - (intOf i).toNat)
  case atStart => exact ⟨0, Nat.zero_le _, rfl, rfl⟩
  case round =>
    obtain ⟨k, hk, rfl, rfl⟩ := hrel
    by_cases hlt : k < n
    · obtain ⟨t, ht⟩ : ∃ x, T[k]? = some x := ⟨_, List.getElem?_eq_getElem (by have := HN.out; omega)⟩
      obtain ⟨b, o, ta, tc, rfl, hb, e0, hi⟩ := fam_at HX.out ht
      have hlt2 : (k : Int) < (n : Int) := by omega
      generalize t.length = m at *
      clear hi ht
      by_cases h50 : 50 < m
      · have t1 : (m : Int) > 50 := by omega
        have HF := Lib.hid (HR.out true)
        go_wp2_with fail
        exact HF.out
      · have t1 : ¬ (m : Int) > 50 := by omega
        go_wp2_with fail
        go_roundw
        case rel => exact ⟨k + 1, by omega, by go_num, trivial⟩
        case measure => simp [intOf]; omega
    · have hlt2 : ¬ (k : Int) < (n : Int) := by omega
      have HF := Lib.hid (HR.out (decide ((50 : Int) < (n : Int))))
      go_wp2_with fail
      exact HF.out
end Go.Proofs.YtfbfkkaepgcggaaGreat

namespace Go.Proofs.YtfbfkkaepgcggaaGreat
open Go.RowKit

set_option maxRecDepth 100000 in
set_option maxHeartbeats 16000000 in
theorem sortInts_any (S : List Nat) (n g c B : Nat) (w : World) (hn : S.length = n) (hl : n ≤ 100) (hg : g < w.heap.size) (hB : B ≤ g) (hrow : RowI w g (natL S))
    (R : Ending → World → Prop) (hR : ∀ w' S', Below B w w' → g < w'.heap.size → RowI w' g (natL S') → S'.Perm S → S'.Pairwise (· ≤ ·) → R (.returned (.tuple #[])) w') :
    Calls Tryz.prog 16 #[.slice (some ⟨g, 0, none⟩) n c] w R := by
  have HR := Lib.hid hR
  have HROW := Lib.hid hrow
  have HSN := Lib.hid hn
  clear hR hrow hn
  go_enter Tryz.func16, Tryz.ntmps16
  go_wp2_with fail
  go_loopw [2, 3] (fun iv _ wr => ∃ (i : Nat) (ys : List Nat), 1 ≤ i ∧ iv = .int .i64 i ∧ Below B w wr ∧ g < wr.heap.size ∧ RowI wr g (natL ys) ∧ ys.length = n ∧ ys.Perm S ∧ Srt ys i) (fun iv _ _ => n + 1 - (intOf iv).toNat)
  case atStart => exact ⟨1, S, Nat.le_refl _, rfl, Below.refl _ _, hg, HROW.out, HSN.out, List.Perm.refl _, fun a b h1 h2 => by omega⟩
  case round =>
    obtain ⟨i, ys, hi1, rfl, hb, hgw, hrw, hyl, hpe, hsr⟩ := hrel
    have HB := Lib.hid hb
    have HRW := Lib.hid hrw
    have HYL := Lib.hid hyl
    have HPE := Lib.hid hpe
    have HSR := Lib.hid hsr
    clear hb hrw hyl hpe hsr
    obtain ⟨w4, rfl⟩ : ∃ w4 : World, w4 = wr := ⟨_, rfl⟩
    by_cases hin : i < n
    · have hin2 : (i : Int) < (n : Int) := by omega
      go_wp2_with fail
      go_loopw [3] (fun kv wr => ∃ (k : Nat) (zs : List Nat), k ≤ i ∧ kv = .int .i64 k ∧ Below B w wr ∧ g < wr.heap.size ∧ RowI wr g (natL zs) ∧ zs.length = n ∧ zs.Perm S ∧ Srk zs i k) (fun kv _ => (intOf kv).toNat)
      case atStart => exact ⟨i, ys, Nat.le_refl _, rfl, HB.out, hgw, HRW.out, HYL.out, HPE.out, srk_start HSR.out⟩
      case round =>
        obtain ⟨k, zs, hk, rfl, hb2, hgw2, hrw2, hzl, hpe2, hsk⟩ := hrel
        have HB2 := Lib.hid hb2
        have HRW2 := Lib.hid hrw2
        have HZL := Lib.hid hzl
        have HPE2 := Lib.hid hpe2
        have HSK := Lib.hid hsk
        clear hb2 hrw2 hzl hpe2 hsk
        by_cases hk0 : k = 0
        · subst hk0
          have HS1 := Lib.hid (srt_done0 HSK.out)
          have t0 : ¬ ((0 : Nat) : Int) > 0 := by omega
          clear hk
          go_wp2_with (go_quiet (fail))
          go_roundw
          case rel => exact ⟨i + 1, zs, by omega, by go_num, by first | exact HB2.out | exact below_drewN HB2.out _, by first | exact hgw2 | (show g < wr.heap.size; exact hgw2), by first | exact HRW2.out | exact HRW2.out.grow ((Grow.refl wr).drewN _) hgw2, HZL.out, HPE2.out, HS1.out⟩
          case measure => simp [intOf]; omega
        · obtain ⟨m, hm⟩ : ∃ m, k = m + 1 := ⟨k - 1, by omega⟩
          subst hm
          have hml : m + 1 < zs.length := by rw [HZL.out]; omega
          obtain ⟨x, hx⟩ : ∃ x, zs[m]? = some x := ⟨_, List.getElem?_eq_getElem (by omega)⟩
          obtain ⟨y, hy⟩ : ∃ y, zs[m + 1]? = some y := ⟨_, List.getElem?_eq_getElem hml⟩
          obtain ⟨cx, fx⟩ := HRW2.out m x (natL_at hx)
          obtain ⟨cy, fy⟩ := HRW2.out (m + 1) y (natL_at hy)
          have gx : zs.getD m 0 = x := by rw [List.getD_eq_getElem?_getD, hx]; rfl
          have gy : zs.getD (m + 1) 0 = y := by rw [List.getD_eq_getElem?_getD, hy]; rfl
          have GX := Lib.hid gx
          have GY := Lib.hid gy
          have HML := Lib.hid hml
          obtain ⟨k, hkm⟩ : ∃ k, m + 1 = k := ⟨_, rfl⟩
          rw [hkm] at cy fy hk ⊢
          have HKM := Lib.hid hkm
          have t0 : (k : Int) > 0 := by omega
          have t00 : 0 < k := by omega
          have q1 : IntKind.i64.wrap ((k : Int) - 1) = (m : Int) := by rw [show (k : Int) - 1 = (m : Int) by omega]; exact IntWalk.i64_in _ (by omega)
          have q2 : (m : Int) < (n : Int) := by omega
          have q3 : (k : Int) < (n : Int) := by omega
          have q4 : (0 : Int) ≤ (m : Int) := by omega
          have q7 : (0 : Int) ≤ (k : Int) := by omega
          have q8 : m < n := by omega
          have q9 : k < n := by omega
          have q5 : ¬ m = k := by omega
          have q6 : ¬ k = m := by omega
          clear hx hy gx gy hk0 hkm hml
          by_cases hxy : y < x
          · have t1 : decide ((y : Int) < (x : Int)) = true := decide_eq_true (by omega)
            have HSW := Lib.hid (srk_swp (by have := HSK.out; exact this) (by have := HKM.out; omega) (by rw [HZL.out]; exact hin) (by rw [GX.out, GY.out]; exact hxy))
            have HPW := Lib.hid ((swp_perm HML.out).trans HPE2.out)
            go_wp2_with fail
            go_quiet (fail)
            go_wp2_with fail
            have HI := Lib.hid (show Grow wr (wr.drewN nq).drew from ((Grow.refl wr).drewN nq).drew)
            have hrwd := HRW2.out.grow HI.out hgw2
            have hrow1 := (hrwd.set (k := m) (by rw [natL_len]; have := HML.out; omega) (y : Int))
            have hrow2 := hrow1.set (k := k) (by rw [List.length_set, natL_len]; have := HML.out; have := HKM.out; omega) (x : Int)
            have hnl : ((natL zs).set m (y : Int)).set k (x : Int) = natL (swp zs m) := by
              rw [natL_set, natL_set, ← HKM.out]
              unfold swp
              rw [GX.out, GY.out]
            rw [hnl] at hrow2
            have HROW2 := Lib.hid hrow2
            clear hrow1 hrow2 hnl hrwd
            have HBD := Lib.hid ((((HB2.out.trans (HI.out.below (by omega))).setCell hB (.int .i64 (y : Int)) (p := ⟨g, m, none⟩))).setCell (p := ⟨g, k, none⟩) hB (.int .i64 (x : Int)))
            refine wp_region_held_drew (S := (fun _ : World => True)) (by kernel_rfl) trivial (fun hH => ?_)
            refine wpAnyH_take (i := 0) (v := .slice (some ⟨g, 0, none⟩) n c) rfl (by kernel_rfl) (by kernel_rfl) (by kernel_rfl) (fun _ _ _ h => h) (Or.inl ⟨by rfl, ?_⟩) hH ?_
            · intro w9 hw9
              go_simp
            try simp only [List.getElem_toArray, List.getElem_cons_zero, Act.put, List.setIfInBounds_toArray, List.set_cons_zero, List.set_cons_succ]
            refine wpAnyH_take (i := 3) (v := .slice (some ⟨g, 0, none⟩) n c) rfl (by kernel_rfl) (by kernel_rfl) (by kernel_rfl) (fun _ _ _ h => h) (Or.inl ⟨by rfl, ?_⟩) hH ?_
            · intro w9 hw9
              go_simp
            try simp only [List.getElem_toArray, List.getElem_cons_succ, List.getElem_cons_zero, Act.put, List.setIfInBounds_toArray, List.set_cons_zero, List.set_cons_succ]
            refine wpAnyH_take (i := 5) (v := .slice (some ⟨g, 0, none⟩) n c) rfl (by kernel_rfl) (by kernel_rfl) (by kernel_rfl) (fun _ _ _ h => h) (Or.inl ⟨by rfl, ?_⟩) hH ?_
            · intro w9 hw9
              go_simp
            try simp only [List.getElem_toArray, List.getElem_cons_succ, List.getElem_cons_zero, Act.put, List.setIfInBounds_toArray, List.set_cons_zero, List.set_cons_succ]
            refine wpAnyH_take (i := 9) (v := .slice (some ⟨g, 0, none⟩) n c) rfl (by kernel_rfl) (by kernel_rfl) (by kernel_rfl) (fun _ _ _ h => h) (Or.inl ⟨by rfl, ?_⟩) hH ?_
            · intro w9 hw9
              go_simp
            try simp only [List.getElem_toArray, List.getElem_cons_succ, List.getElem_cons_zero, Act.put, List.setIfInBounds_toArray, List.set_cons_zero, List.set_cons_succ]
            refine wpAnyH_take (i := 1) (v := .int .i64 (k : Nat)) rfl (by kernel_rfl) (by kernel_rfl) (by kernel_rfl) (fun _ _ _ h => h) (Or.inl ⟨by rfl, ?_⟩) hH ?_
            · intro w9 hw9
              go_simp
            try simp only [List.getElem_toArray, List.getElem_cons_succ, List.getElem_cons_zero, Act.put, List.setIfInBounds_toArray, List.set_cons_zero, List.set_cons_succ]
            refine wpAnyH_take (i := 4) (v := .int .i64 (k : Nat)) rfl (by kernel_rfl) (by kernel_rfl) (by kernel_rfl) (fun _ _ _ h => h) (Or.inl ⟨by rfl, ?_⟩) hH ?_
            · intro w9 hw9
              go_simp
            try simp only [List.getElem_toArray, List.getElem_cons_succ, List.getElem_cons_zero, Act.put, List.setIfInBounds_toArray, List.set_cons_zero, List.set_cons_succ]
            refine wpAnyH_take (i := 6) (v := .int .i64 (k : Nat)) rfl (by kernel_rfl) (by kernel_rfl) (by kernel_rfl) (fun _ _ _ h => h) (Or.inl ⟨by rfl, ?_⟩) hH ?_
            · intro w9 hw9
              go_simp
            try simp only [List.getElem_toArray, List.getElem_cons_succ, List.getElem_cons_zero, Act.put, List.setIfInBounds_toArray, List.set_cons_zero, List.set_cons_succ]
            refine wpAnyH_take (i := 10) (v := .int .i64 (k : Nat)) rfl (by kernel_rfl) (by kernel_rfl) (by kernel_rfl) (fun _ _ _ h => h) (Or.inl ⟨by rfl, ?_⟩) hH ?_
            · intro w9 hw9
              go_simp
            try simp only [List.getElem_toArray, List.getElem_cons_succ, List.getElem_cons_zero, Act.put, List.setIfInBounds_toArray, List.set_cons_zero, List.set_cons_succ]
            refine wpAnyH_take (i := 2) (v := .int .i64 (m : Nat)) rfl (by kernel_rfl) (by kernel_rfl) (by kernel_rfl) (fun _ _ _ h => h) (Or.inl ⟨by rfl, ?_⟩) hH ?_
            · intro w9 hw9
              go_simp
            try simp only [List.getElem_toArray, List.getElem_cons_succ, List.getElem_cons_zero, Act.put, List.setIfInBounds_toArray, List.set_cons_zero, List.set_cons_succ]
            refine wpAnyH_take (i := 11) (v := .int .i64 (m : Nat)) rfl (by kernel_rfl) (by kernel_rfl) (by kernel_rfl) (fun _ _ _ h => h) (Or.inl ⟨by rfl, ?_⟩) hH ?_
            · intro w9 hw9
              go_simp
            try simp only [List.getElem_toArray, List.getElem_cons_succ, List.getElem_cons_zero, Act.put, List.setIfInBounds_toArray, List.set_cons_zero, List.set_cons_succ]
            refine wpAnyH_take (i := 7) (v := .pointer (some ⟨g, k, none⟩)) rfl (by kernel_rfl) (by kernel_rfl) (by kernel_rfl) (fun _ _ _ h => h) (Or.inl ⟨by rfl, ?_⟩) hH ?_
            · intro w9 hw9
              go_simp
            try simp only [List.getElem_toArray, List.getElem_cons_succ, List.getElem_cons_zero, Act.put, List.setIfInBounds_toArray, List.set_cons_zero, List.set_cons_succ]
            refine wpAnyH_take (i := 12) (v := .pointer (some ⟨g, m, none⟩)) rfl (by kernel_rfl) (by kernel_rfl) (by kernel_rfl) (fun _ _ _ h => h) (Or.inl ⟨by rfl, ?_⟩) hH ?_
            · intro w9 hw9
              go_simp
            try simp only [List.getElem_toArray, List.getElem_cons_succ, List.getElem_cons_zero, Act.put, List.setIfInBounds_toArray, List.set_cons_zero, List.set_cons_succ]
            refine wpAnyH_ready (rs := [8, 13]) (by kernel_rfl) (by simp) ?_
            refine AllReadyH.cons rfl (fun K hK => ?_) (AllReadyH.cons rfl (fun K hK => ?_) (AllReadyH.nil))
            · skip
              go_simp
              refine hK.out _ _ trivial (fun hH2 => ?_)
              clear hK K hH
              have hH := hH2
              clear hH2
              try simp only [List.getElem_toArray, List.getElem_cons_succ, List.getElem_cons_zero, Act.put, List.setIfInBounds_toArray, List.set_cons_zero, List.set_cons_succ]
              refine wpAnyH_ready (rs := [13]) (by kernel_rfl) (by simp) ?_
              refine AllReadyH.cons rfl (fun K hK => ?_) (AllReadyH.nil)
              go_simp
              refine hK.out _ _ trivial (fun hH2 => ?_)
              clear hK K hH
              have hH := hH2
              clear hH2
              try simp only [List.getElem_toArray, List.getElem_cons_succ, List.getElem_cons_zero, Act.put, List.setIfInBounds_toArray, List.set_cons_zero, List.set_cons_succ]
              refine wpAnyH_take (i := 14) (v := .pointer (some ⟨g, m, none⟩)) rfl (by kernel_rfl) (by kernel_rfl) (by kernel_rfl) (fun _ _ _ h => h) (Or.inl ⟨by rfl, ?_⟩) hH ?_
              · intro w9 hw9
                go_simp
              try simp only [List.getElem_toArray, List.getElem_cons_succ, List.getElem_cons_zero, Act.put, List.setIfInBounds_toArray, List.set_cons_zero, List.set_cons_succ]
              refine wpAnyH_ready (rs := [15]) (by kernel_rfl) (by simp) ?_
              refine AllReadyH.cons rfl (fun K hK => ?_) (AllReadyH.nil)
              go_simp
              refine hK.out _ _ trivial (fun hH2 => ?_)
              clear hK K hH
              have hH := hH2
              clear hH2
              try simp only [List.getElem_toArray, List.getElem_cons_succ, List.getElem_cons_zero, Act.put, List.setIfInBounds_toArray, List.set_cons_zero, List.set_cons_succ]
              refine wpAnyH_take (i := 16) (v := .pointer (some ⟨g, k, none⟩)) rfl (by kernel_rfl) (by kernel_rfl) (by kernel_rfl) (fun _ _ _ h => h) (Or.inl ⟨by rfl, ?_⟩) hH ?_
              · intro w9 hw9
                go_simp
              try simp only [List.getElem_toArray, List.getElem_cons_succ, List.getElem_cons_zero, Act.put, List.setIfInBounds_toArray, List.set_cons_zero, List.set_cons_succ]
              refine wpAnyH_ready (rs := [17]) (by kernel_rfl) (by simp) ?_
              refine AllReadyH.cons rfl (fun K hK => ?_) (AllReadyH.nil)
              go_simp
              refine hK.out _ _ trivial (fun hH2 => ?_)
              clear hK K hH
              have hH := hH2
              clear hH2
              try simp only [List.getElem_toArray, List.getElem_cons_succ, List.getElem_cons_zero, Act.put, List.setIfInBounds_toArray, List.set_cons_zero, List.set_cons_succ]
              refine wpAnyH_done (by kernel_rfl) ?_ _
              go_wp2_with fail
              go_roundw
              case rel => exact ⟨m, swp zs m, by have := HKM.out; omega, rfl, HBD.out, by simpa [World.setCell] using hgw2, HROW2.out, by rw [swp_len]; exact HZL.out, HPW.out, HSW.out⟩
              case measure => simp [intOf]; have := HKM.out; omega
            · skip
              go_simp
              refine hK.out _ _ trivial (fun hH2 => ?_)
              clear hK K hH
              have hH := hH2
              clear hH2
              try simp only [List.getElem_toArray, List.getElem_cons_succ, List.getElem_cons_zero, Act.put, List.setIfInBounds_toArray, List.set_cons_zero, List.set_cons_succ]
              refine wpAnyH_ready (rs := [8]) (by kernel_rfl) (by simp) ?_
              refine AllReadyH.cons rfl (fun K hK => ?_) (AllReadyH.nil)
              go_simp
              refine hK.out _ _ trivial (fun hH2 => ?_)
              clear hK K hH
              have hH := hH2
              clear hH2
              try simp only [List.getElem_toArray, List.getElem_cons_succ, List.getElem_cons_zero, Act.put, List.setIfInBounds_toArray, List.set_cons_zero, List.set_cons_succ]
              refine wpAnyH_take (i := 14) (v := .pointer (some ⟨g, m, none⟩)) rfl (by kernel_rfl) (by kernel_rfl) (by kernel_rfl) (fun _ _ _ h => h) (Or.inl ⟨by rfl, ?_⟩) hH ?_
              · intro w9 hw9
                go_simp
              try simp only [List.getElem_toArray, List.getElem_cons_succ, List.getElem_cons_zero, Act.put, List.setIfInBounds_toArray, List.set_cons_zero, List.set_cons_succ]
              refine wpAnyH_ready (rs := [15]) (by kernel_rfl) (by simp) ?_
              refine AllReadyH.cons rfl (fun K hK => ?_) (AllReadyH.nil)
              go_simp
              refine hK.out _ _ trivial (fun hH2 => ?_)
              clear hK K hH
              have hH := hH2
              clear hH2
              try simp only [List.getElem_toArray, List.getElem_cons_succ, List.getElem_cons_zero, Act.put, List.setIfInBounds_toArray, List.set_cons_zero, List.set_cons_succ]
              refine wpAnyH_take (i := 16) (v := .pointer (some ⟨g, k, none⟩)) rfl (by kernel_rfl) (by kernel_rfl) (by kernel_rfl) (fun _ _ _ h => h) (Or.inl ⟨by rfl, ?_⟩) hH ?_
              · intro w9 hw9
                go_simp
              try simp only [List.getElem_toArray, List.getElem_cons_succ, List.getElem_cons_zero, Act.put, List.setIfInBounds_toArray, List.set_cons_zero, List.set_cons_succ]
              refine wpAnyH_ready (rs := [17]) (by kernel_rfl) (by simp) ?_
              refine AllReadyH.cons rfl (fun K hK => ?_) (AllReadyH.nil)
              go_simp
              refine hK.out _ _ trivial (fun hH2 => ?_)
              clear hK K hH
              have hH := hH2
              clear hH2
              try simp only [List.getElem_toArray, List.getElem_cons_succ, List.getElem_cons_zero, Act.put, List.setIfInBounds_toArray, List.set_cons_zero, List.set_cons_succ]
              refine wpAnyH_done (by kernel_rfl) ?_ _
              go_wp2_with fail
              go_roundw
              case rel => exact ⟨m, swp zs m, by have := HKM.out; omega, rfl, HBD.out, by simpa [World.setCell] using hgw2, HROW2.out, by rw [swp_len]; exact HZL.out, HPW.out, HSW.out⟩
              case measure => simp [intOf]; have := HKM.out; omega
          · have t1 : decide ((y : Int) < (x : Int)) = false := decide_eq_false (by omega)
            have HS1 := Lib.hid (srt_done (show Srk zs i (m + 1) from HSK.out) (by have := HKM.out; omega) (by rw [GX.out, GY.out]; omega))
            go_wp2_with (go_quiet (fail))
            go_roundw
            case rel => exact ⟨i + 1, zs, by omega, by go_num, by first | exact HB2.out | exact below_drewN HB2.out _, by first | exact hgw2 | (show g < wr.heap.size; exact hgw2), by first | exact HRW2.out | exact HRW2.out.grow ((Grow.refl wr).drewN _) hgw2, HZL.out, HPE2.out, HS1.out⟩
            case measure => simp [intOf]; omega
    · have HF := Lib.hid (HR.out w4 ys HB.out hgw HRW.out HPE.out (srt_pw HSR.out (by rw [HYL.out]; omega)))
      have hin2 : ¬ (i : Int) < (n : Int) := by omega
      go_wp2_with fail
      first | exact HF.out | exact bodyPost_ret (by simp [results, Tryz.results16, go_sem]) rfl HF.out | exact bodyPost_end (by simp [results, Tryz.results16, go_sem]) rfl HF.out
set_option maxHeartbeats 2000000 in
theorem sortNil_any (w : World) (R : Ending → World → Prop) (hR : R (.returned (.tuple #[])) w) : Calls Tryz.prog 16 #[.slice none 0 0] w R := by
  have HR := Lib.hid hR
  clear hR
  go_enter Tryz.func16, Tryz.ntmps16
  go_wp2_with fail
  go_loopw [2] (fun iv wr => iv = .int .i64 1 ∧ wr = w) (fun _ _ => 0)
  case atStart => exact ⟨rfl, rfl⟩
  case round =>
    obtain ⟨rfl, rfl⟩ := hrel
    go_wp2_with fail
    first | exact HR.out | exact bodyPost_ret (by simp [results, Tryz.results16, go_sem]) rfl HR.out | exact bodyPost_end (by simp [results, Tryz.results16, go_sem]) rfl HR.out
/-- A list that the call has made is sorted in place. -/
theorem sortOwn_any (S : List Nat) (v : Value) (base : Nat) (e : TypeId) (w : World) (ho : w.ownsRow base e 1 v (natL S).length ((natL S).flatMap encI)) (hl : S.length ≤ 100)
    (R : Ending → World → Prop) (hR : ∀ w' S', Below base w w' → IntsAt w' v (natL S') → S'.Perm S → S'.Pairwise (· ≤ ·) → R (.returned (.tuple #[])) w') :
    Calls Tryz.prog 16 #[v] w R := by
  obtain ⟨a, c, hv, h1, h2, _⟩ := slc_of_owns encI_len ho
  rcases ho.2 with ⟨hv0, h0⟩ | ⟨g, cap, cur, hv1, hbg, hh, _⟩
  · rw [natL_len] at h0
    have e0 : S = [] := List.length_eq_zero_iff.1 h0
    subst e0
    subst hv0
    exact sortNil_any w R (hR w [] (Below.refl _ _) (SlcAt.nil _ _ _) (List.Perm.refl _) List.Pairwise.nil)
  · subst hv1
    injection hv with ha _ hcc
    subst hcc
    have hrow : RowI w g (natL S) := RowI.of_own ho
    rw [natL_len] at h1 hR ⊢
    refine sortInts_any S S.length g cap base w rfl hl (lt_of_block hh) hbg hrow R fun w' S' hb hg hr hp hs => hR w' S' hb ?_ hp hs
    have hle : S'.length = S.length := hp.length_eq
    have := hr.ints hg (show (natL S').length ≤ cap by rw [natL_len, hle]; exact h1) h2
    rw [natL_len, hle] at this
    exact this
end Go.Proofs.YtfbfkkaepgcggaaGreat

namespace Go.Proofs.YtfbfkkaepgcggaaGreat
open Go.RowKit

/-- A function value that compares the rows of a list by a measure. -/
def CmpU (g : Nat) (cb : Array Value) (w : World) (S : List Nat) (F : Nat → Nat) : Prop :=
  ∀ x ∈ S, ∀ y ∈ S, ∀ W, Grow w W → ∀ R : Ending → World → Prop, (∀ W', Grow W W' → R (.returned (.int .i64 ((F x : Nat) - (F y : Nat)))) W') → Calls Tryz.prog g (#[.int .i64 (x : Int), .int .i64 (y : Int)] ++ cb) W R
set_option maxRecDepth 100000 in
set_option maxHeartbeats 4000000 in
theorem maxFunc_any (g : Nat) (cb : Array Value) (eg : Enters Tryz.prog g) (F : Nat → Nat) (S : List Nat) (v : Value) (w : World) (hx : IntsAt w v (natL S)) (hne : 0 < S.length) (hp : CmpU g cb w S F)
    (R : Ending → World → Prop) (hR : ∀ w' m, Grow w w' → m ∈ S → (∀ x ∈ S, F x ≤ F m) → R (.returned (.int .i64 (m : Nat))) w') :
    Calls Tryz.prog 34 #[v, .func (.func g) #[] cb] w R := by
  have HX := Lib.hid hx
  have HP := Lib.hid hp
  have HR := Lib.hid hR
  obtain ⟨a, c, rfl, h1, h2, _⟩ := hx
  rw [natL_len] at HX h1 ⊢
  obtain ⟨m0, hm0⟩ : ∃ m, S[0]? = some m := ⟨_, List.getElem?_eq_getElem hne⟩
  obtain ⟨b, o, rfl, hb, e0⟩ := ints_at HX.out (natL_at hm0)
  simp only [Nat.add_zero] at e0
  have t1 : ¬ (S.length : Int) < 1 := by omega
  have t2 : (0 : Int) < (S.length : Int) := by omega
  have HM0 := Lib.hid hm0
  unfold Enters at eg
  clear hR hp hm0
  go_enter Tryz.func34, Tryz.ntmps34
  go_wp2_with fail
  go_loopw [5, 6] (fun mv i wr => ∃ k m : Nat, 1 ≤ k ∧ k ≤ S.length ∧ i = .int .i64 k ∧ mv = .int .i64 m ∧ Grow w wr ∧ m ∈ S ∧ ∀ x ∈ S.take k, F x ≤ F m) (fun _ i _ => S.length - (intOf i).toNat)
  case atStart => exact ⟨1, m0, Nat.le_refl _, hne, rfl, rfl, Grow.refl _, List.mem_of_getElem? HM0.out, fun x hx => by
    rw [List.take_add_one, HM0.out] at hx
    simp at hx
    rw [hx]; exact Nat.le_refl _⟩
  case round =>
    obtain ⟨k, m, hk1, hk, rfl, rfl, hg, hm, hall⟩ := hrel
    have HG := Lib.hid hg
    have HM := Lib.hid hm
    have HALL := Lib.hid hall
    clear hg hm hall
    by_cases hlt : k < S.length
    · obtain ⟨x, hx⟩ : ∃ x, S[k]? = some x := ⟨_, List.getElem?_eq_getElem hlt⟩
      obtain ⟨b', o', he, _, e1⟩ := ints_at (HX.out.grow HG.out) (natL_at hx)
      cases he
      have hlt2 : (k : Int) < (S.length : Int) := by omega
      have HXM := Lib.hid hx
      clear hx
      go_wp2_with fail
      refine HP.out x (List.mem_of_getElem? HXM.out) m HM.out _ HG.out _ ?_
      intro w1 hg1
      have HG1 := Lib.hid (HG.out.trans hg1)
      have e2 := hg1.cell e1
      obtain ⟨fx, hfx⟩ : ∃ z, F x = z := ⟨_, rfl⟩
      obtain ⟨fm, hfm⟩ : ∃ z, F m = z := ⟨_, rfl⟩
      have HFX := Lib.hid hfx
      have HFM := Lib.hid hfm
      rw [hfx, hfm]
      clear hg1 hfx hfm
      have htk : ∀ M, (∀ z ∈ S.take k, F z ≤ F M) → F x ≤ F M → ∀ z ∈ S.take (k + 1), F z ≤ F M := fun M h1 h2 z hz => by
        rw [List.take_add_one, HXM.out] at hz
        rcases List.mem_append.1 hz with hz | hz
        · exact h1 z hz
        · simp at hz; subst hz; exact h2
      have HTK := Lib.hid htk
      clear htk
      by_cases hc : fm < fx
      · have t3 : (fx : Int) - (fm : Int) > 0 := by omega
        have HLE := Lib.hid (show F m ≤ F x by rw [HFX.out, HFM.out]; omega)
        clear hc
        go_wp2_with fail
        go_roundw
        case rel => exact ⟨k + 1, x, by omega, by omega, by go_num, rfl, HG1.out, List.mem_of_getElem? HXM.out, HTK.out x (fun z hz => Nat.le_trans (HALL.out z hz) HLE.out) (Nat.le_refl _)⟩
        case measure => simp [intOf]; omega
      · have t3 : ¬ (fx : Int) - (fm : Int) > 0 := by omega
        have HLE := Lib.hid (show F x ≤ F m by rw [HFX.out, HFM.out]; omega)
        clear hc
        go_wp2_with fail
        go_roundw
        case rel => exact ⟨k + 1, m, by omega, by omega, by go_num, by first | rfl | trivial, HG1.out, HM.out, HTK.out m HALL.out HLE.out⟩
        case measure => simp [intOf]; omega
    · have HF := Lib.hid (HR.out wr m HG.out HM.out fun x hx => HALL.out x (by rw [List.take_of_length_le (by omega)]; exact hx))
      have hlt2 : ¬ (k : Int) < (S.length : Int) := by omega
      go_wp2_with fail
      exact HF.out
end Go.Proofs.YtfbfkkaepgcggaaGreat
