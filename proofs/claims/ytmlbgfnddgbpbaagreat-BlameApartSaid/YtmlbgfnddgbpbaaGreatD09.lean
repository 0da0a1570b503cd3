/- The walks of package code: what a line reads. -/
import Derived.Test.YtmlbgfnddgbpbaaGreatD07
import Derived.Test.YtmlbgfnddgbpbaaGreatD02
import Derived.Test.YtmlbgfnddgbpbaaGreatD00
import Derived.Test.YtmlbgfnddgbpbaaGreatD08
import Derived.Deep.RegionHeld3
import Derived.Deep.RegionWith
namespace Go.Proofs.YtmlbgfnddgbpbaaGreat
open Go.RowKit
open Go.Sort (Holds putRow grow heap_grow_old holds_putRow holds_grow holds_ahead)

theorem sortI_any (blk off cap : Nat) (zs : List Int) (w : World) (hH : Holds (Value.int .i64) w blk off zs.toArray) (hblk : blk < w.heap.size) (hsz : zs.length < 1000000000000) (B : Nat) (hB : B ≤ blk) (R : Ending → World → Prop)
    (hR : ∀ w', Below B w w' → Holds (Value.int .i64) w' blk off (zs.mergeSort fun x y => decide (x ≤ y)).toArray → blk < w'.heap.size → R (.returned (.tuple #[])) w') :
    Calls Tryz.prog 201 #[.slice (some ⟨blk, off, none⟩) zs.length cap] w R := by
  refine (Tryz.slices_Sort_int blk off cap zs w hH hblk (by omega)).mono ?_
  rintro e w' ⟨rfl, n, os, rfl⟩
  have h1 := below_putRow (Value.int .i64) w n blk off (zs.mergeSort fun x y => decide (x ≤ y)).toArray hB
  have hz : (putRow (Value.int .i64) (Sort.ahead w n) blk off (zs.mergeSort fun x y => decide (x ≤ y)).toArray).heap.size = w.heap.size := by simp
  have h2 := holds_putRow (Value.int .i64) (Sort.ahead w n) blk off zs.toArray (zs.mergeSort fun x y => decide (x ≤ y)).toArray (holds_ahead _ _ n _ _ _ hH) (by simp)
  refine hR _ (below_growS os h1 (by omega)) (holds_grow _ _ os _ _ _ (by omega) h2) ?_
  simp [grow]; omega

theorem compactI_any (blk off cap : Nat) (zs : List Int) (w : World) (hH : Holds (Value.int .i64) w blk off zs.toArray) (hblk : blk < w.heap.size) (hsz : zs.length < 1000000000000) (hcap : zs.length ≤ cap) (B : Nat) (hB : B ≤ blk) (R : Ending → World → Prop)
    (hR : ∀ w', Below B w w' → Holds (Value.int .i64) w' blk off (Lib.compact zs ++ List.replicate (zs.length - (Lib.compact zs).length) 0).toArray → blk < w'.heap.size → R (.returned (.slice (some ⟨blk, off, none⟩) (Lib.compact zs).length cap)) w') :
    Calls Tryz.prog 202 #[.slice (some ⟨blk, off, none⟩) zs.length cap] w R := by
  refine (Tryz.slices_Compact_int blk off cap zs w hH (by omega) hcap).mono ?_
  rintro e w' ⟨rfl, n, rfl⟩
  have hle : (Lib.compact zs).length ≤ zs.length := compact_le zs
  refine hR _ (below_putRow _ _ _ _ _ _ hB) (holds_putRow _ _ _ _ zs.toArray _ (holds_ahead _ _ n _ _ _ hH) (by simp; omega)) (by simpa using hblk)

set_option maxRecDepth 100000 in
set_option maxHeartbeats 2000000 in
theorem reads_any (op d a b : Int) (w : World) (h0 : 0 ≤ op) (h7 : op ≤ 7) (R : Ending → World → Prop) (hR : ∀ w' x, Grow w w' → IntsAt w' x (rdL op a b) → NewS w.heap.size x → R (.returned x) w') :
    Calls Tryz.prog 172 #[.agg #[.int .i64 op, .int .i64 d, .int .i64 a, .int .i64 b]] w R := by
  have HR := Lib.hid hR
  clear hR
  have h8 : op < 8 := by omega
  have hop : op = 0 ∨ op = 1 ∨ op = 2 ∨ op = 3 ∨ op = 4 ∨ op = 5 ∨ op = 6 ∨ op = 7 := by omega
  obtain ⟨n, fn, hn, hix⟩ : ∃ (n : Int) (fn : Value), (n = rdN op) ∧ ∀ W, (Instr.index 142 (.agg opsC.toArray) (.int .i64 op)).run Tryz.prog W = .ok (.agg #[.int .i64 n, fn]) W := by
    rcases hop with rfl | rfl | rfl | rfl | rfl | rfl | rfl | rfl
    · exact ⟨_, opsC.getD 1 .nilFunc, rfl, fun _ => by kernel_rfl⟩
    · exact ⟨_, opsC.getD 3 .nilFunc, rfl, fun _ => by kernel_rfl⟩
    · exact ⟨_, opsC.getD 5 .nilFunc, rfl, fun _ => by kernel_rfl⟩
    · exact ⟨_, opsC.getD 7 .nilFunc, rfl, fun _ => by kernel_rfl⟩
    · exact ⟨_, opsC.getD 9 .nilFunc, rfl, fun _ => by kernel_rfl⟩
    · exact ⟨_, opsC.getD 11 .nilFunc, rfl, fun _ => by kernel_rfl⟩
    · exact ⟨_, opsC.getD 13 .nilFunc, rfl, fun _ => by kernel_rfl⟩
    · exact ⟨_, opsC.getD 15 .nilFunc, rfl, fun _ => by kernel_rfl⟩
  clear hop
  have HN := Lib.hid hn
  clear hn
  unfold opsC at hix
  have hfd : ∀ (n : Int) (fn : Value) (W : World), (Instr.field 141 (.agg #[.int .i64 n, fn]) 0).run Tryz.prog W = .ok (.int .i64 n) W := fun _ _ _ => by kernel_rfl
  go_enter Tryz.func172, Tryz.ntmps172
  go_upto_region 1 with (fail)
  go_cut [3] from 5 to 9 (fun m wc => m = .int .i64 n ∧ Grow (w.alloc (.cells #[.int .i64 op, .int .i64 d, .int .i64 a, .int .i64 b] 67)) wc)
  case first =>
    go_region_with (go_at_call 162; refine operations_any _ _ ?_; intro w1 hg1; unfold opsC; have HG1 := Lib.hid hg1; have e0 := hg1.cell (a := ⟨w.heap.size, 0, none⟩) (v := .int .i64 op) (by simp); clear hg1)
    all_goals go_wp2_with fail
    all_goals go_meet
    all_goals exact ⟨rfl, ((Grow.refl _).drew).trans HG1.out⟩
  case rest =>
    obtain ⟨rfl, hgc⟩ := hcut
    have hbx := hgc.blk (heap_alloc_new w (.cells #[.int .i64 op, .int .i64 d, .int .i64 a, .int .i64 b] 67))
    obtain ⟨c0, c1, c2, c3⟩ := box_cells hbx
    have hgw := ((Grow.refl w).alloc _).trans hgc
    have hz := hgw.sz
    have HGW := Lib.hid hgw
    clear hbx hgc hgw hix hfd
    by_cases hop2 : op = 2
    · have hl : rdL op a b = [a] := by simp [rdL, hop2]
      have hn : n = 1 := by rw [HN.out]; simp [rdN, hop2]
      subst hn
      rw [hl] at HR
      clear hl HN
      go_wp2_with fail
      have hH : Holds (Value.int .i64) (wc.alloc (.cells #[.int .i64 a, .int .i64 b] 3)) wc.heap.size 0 ([a] : List Int).toArray := holds_new wc [a, b] 1 3
      have HH := Lib.hid hH
      clear hH
      refine sortI_any wc.heap.size 0 1 [a] _ HH.out (by simp) (by simp) wc.heap.size (Nat.le_refl _) _ ?_
      intro w2 hb2 hH2 hk2
      have hcm : Lib.compact (([a] : List Int).mergeSort fun x y => decide (x ≤ y)) = [a] := by simpa using compact_one a
      have hln : (([a] : List Int).mergeSort fun x y => decide (x ≤ y)).length = 1 := by simp
      generalize (([a] : List Int).mergeSort fun x y => decide (x ≤ y)) = zs at hH2 hcm hln
      have HB2 := Lib.hid (Below.trans ((Grow.refl wc).alloc _) hb2)
      have HH2 := Lib.hid hH2
      have HCM := Lib.hid hcm
      have HLN := Lib.hid hln
      clear hb2 hH2 hcm HH hln
      go_wp2_with fail
      have hca := compactI_any wc.heap.size 0 1 zs w2 HH2.out hk2 (by rw [HLN.out]; omega) (by rw [HLN.out]; omega) wc.heap.size (Nat.le_refl _)
      rw [HLN.out] at hca
      refine hca _ ?_
      clear hca
      intro w3 hb3 hH3 hk3
      rw [HCM.out] at hH3 ⊢
      have hfin : IntsAt w3 (.slice (some ⟨wc.heap.size, 0, none⟩) ([a]).length 1) ([a]) := by
        refine ints_of_holds (holds_prefix hH3) hk3 ?_ (by omega)
        have := compact_le zs; rw [HCM.out, HLN.out] at this; exact this
      have HF := Lib.hid (HR.out w3 _ (Below.trans HGW.out ((Below.trans HB2.out hb3).mono hz)) hfin (by intro a' n' c' e; cases e; exact hz))
      clear hb3 hH3 hfin HR HB2 HH2
      go_wp2_with fail
      exact HF.out
    · by_cases hop3 : 3 ≤ op
      · have hl : rdL op a b = two a b := by simp [rdL, hop2, hop3]
        have hn : n = 2 := by rw [HN.out]; simp [rdN, hop2, hop3]
        subst hn
        rw [hl] at HR
        clear hl HN
        go_wp2_with fail
        have hH : Holds (Value.int .i64) (wc.alloc (.cells #[.int .i64 a, .int .i64 b] 3)) wc.heap.size 0 ([a, b] : List Int).toArray := holds_new wc [a, b] 2 3
        have HH := Lib.hid hH
        clear hH
        refine sortI_any wc.heap.size 0 2 [a, b] _ HH.out (by simp) (by simp) wc.heap.size (Nat.le_refl _) _ ?_
        intro w2 hb2 hH2 hk2
        have hcm : Lib.compact (([a, b] : List Int).mergeSort fun x y => decide (x ≤ y)) = two a b := sort_two a b
        have hln : (([a, b] : List Int).mergeSort fun x y => decide (x ≤ y)).length = 2 := by simp
        generalize (([a, b] : List Int).mergeSort fun x y => decide (x ≤ y)) = zs at hH2 hcm hln
        have HB2 := Lib.hid (Below.trans ((Grow.refl wc).alloc _) hb2)
        have HH2 := Lib.hid hH2
        have HCM := Lib.hid hcm
        have HLN := Lib.hid hln
        clear hb2 hH2 hcm HH hln
        go_wp2_with fail
        have hca := compactI_any wc.heap.size 0 2 zs w2 HH2.out hk2 (by rw [HLN.out]; omega) (by rw [HLN.out]; omega) wc.heap.size (Nat.le_refl _)
        rw [HLN.out] at hca
        refine hca _ ?_
        clear hca
        intro w3 hb3 hH3 hk3
        rw [HCM.out] at hH3 ⊢
        have hfin : IntsAt w3 (.slice (some ⟨wc.heap.size, 0, none⟩) (two a b).length 2) (two a b) := by
          refine ints_of_holds (holds_prefix hH3) hk3 ?_ (by omega)
          have := compact_le zs; rw [HCM.out, HLN.out] at this; exact this
        have HF := Lib.hid (HR.out w3 _ (Below.trans HGW.out ((Below.trans HB2.out hb3).mono hz)) hfin (by intro a' n' c' e; cases e; exact hz))
        clear hb3 hH3 hfin HR HB2 HH2
        go_wp2_with fail
        exact HF.out
      · have hl : rdL op a b = [] := by simp [rdL, hop2, hop3]
        have hn : n = 0 := by rw [HN.out]; simp [rdN, hop2, hop3]
        subst hn
        rw [hl] at HR
        clear hl HN
        go_wp2_with fail
        have hH : Holds (Value.int .i64) (wc.alloc (.cells #[.int .i64 a, .int .i64 b] 3)) wc.heap.size 0 ([] : List Int).toArray := holds_new wc [a, b] 0 3
        have HH := Lib.hid hH
        clear hH
        refine sortI_any wc.heap.size 0 0 [] _ HH.out (by simp) (by simp) wc.heap.size (Nat.le_refl _) _ ?_
        intro w2 hb2 hH2 hk2
        have hcm : Lib.compact (([] : List Int).mergeSort fun x y => decide (x ≤ y)) = [] := by simp [Lib.compact, Lib.compactUpTo]
        have hln : (([] : List Int).mergeSort fun x y => decide (x ≤ y)).length = 0 := by simp
        generalize (([] : List Int).mergeSort fun x y => decide (x ≤ y)) = zs at hH2 hcm hln
        have HB2 := Lib.hid (Below.trans ((Grow.refl wc).alloc _) hb2)
        have HH2 := Lib.hid hH2
        have HCM := Lib.hid hcm
        have HLN := Lib.hid hln
        clear hb2 hH2 hcm HH hln
        go_wp2_with fail
        have hca := compactI_any wc.heap.size 0 0 zs w2 HH2.out hk2 (by rw [HLN.out]; omega) (by rw [HLN.out]; omega) wc.heap.size (Nat.le_refl _)
        rw [HLN.out] at hca
        refine hca _ ?_
        clear hca
        intro w3 hb3 hH3 hk3
        rw [HCM.out] at hH3 ⊢
        have hfin : IntsAt w3 (.slice (some ⟨wc.heap.size, 0, none⟩) ([] : List Int).length 0) ([] : List Int) := by
          refine ints_of_holds (holds_prefix hH3) hk3 ?_ (by omega)
          have := compact_le zs; rw [HCM.out, HLN.out] at this; exact this
        have HF := Lib.hid (HR.out w3 _ (Below.trans HGW.out ((Below.trans HB2.out hb3).mono hz)) hfin (by intro a' n' c' e; cases e; exact hz))
        clear hb3 hH3 hfin HR HB2 HH2
        go_wp2_with fail
        exact HF.out
end Go.Proofs.YtmlbgfnddgbpbaaGreat
