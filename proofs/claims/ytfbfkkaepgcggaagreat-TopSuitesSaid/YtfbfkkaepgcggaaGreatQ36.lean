/- The walk of suite.Best. -/
import Derived.Test.YtfbfkkaepgcggaaGreatQ35
import Derived.Deep.RegionHeld3
import Derived.Deep.QuietTactic
import Derived.BigQuiet
namespace Go.Proofs.YtfbfkkaepgcggaaGreat
open Go.RowKit

theorem cut_two {G C : Prop} (pf : G) (use : Hid G → C) : C := use pf
def Off1 (b : Nat) (v : Value) : Prop := ∀ a n c, v = .slice (some a) n c → a.block ≠ b
def Lt1 (W : World) (v : Value) : Prop := ∀ a n c, v = .slice (some a) n c → a.block < W.heap.size
theorem Lt1.grow {A B : World} {v : Value} (h : Lt1 A v) (g : Grow A B) : Lt1 B v := fun a n c e => Nat.lt_of_lt_of_le (h a n c e) g.sz
theorem Lt1.of_own {base : Nat} {W : World} {a : Option Addr} {n c : Nat} {xs : List Int} (h : OwnI base W (.slice a n c) xs) : Lt1 W (.slice a n c) := fun a' n' c' e => by
  cases e
  exact (own_blk2 h _ _ _ rfl).2
/-- A box that has been made: its block lies behind the start. -/
structure BxAt (w0 : World) (b : Nat) (v : Value) (t : TypeId) (W : World) : Prop where
  h : W.heap[b]? = some (.cells #[v] t (0, 0))
  l : w0.heap.size ≤ b
theorem BxAt.grow {w0 : World} {b : Nat} {v : Value} {t : TypeId} {A B : World} (h : BxAt w0 b v t A) (g : Grow A B) : BxAt w0 b v t B := ⟨g.blk h.h, h.l⟩
theorem BxAt.lt {w0 : World} {b : Nat} {v : Value} {t : TypeId} {A : World} (h : BxAt w0 b v t A) : b < A.heap.size := lt_of_block h.h
set_option maxRecDepth 100000 in
set_option maxHeartbeats 32000000 in
theorem Best_any (T : List (List Int)) (tv : Value) (w : World) (hx : FamAt w tv T) (hv : ValS T)
    (R : Ending → World → Prop) (hR : ∀ w' v S, Grow w w' → IntsAt w' v (natL S) → (∃ a c, v = .slice a S.length c) → S.Perm (List.range T.length) → (∀ o : List Nat, o.Perm (List.range T.length) → waitH (hitS T) (openH (hitS T) (goalsS T) T.length) S ≤ waitH (hitS T) (openH (hitS T) (goalsS T) T.length) o) →
      R (.returned (.tuple #[v, .int .i64 (waitH (hitS T) (openH (hitS T) (goalsS T) T.length) S : Nat), .int .i64 0])) w') :
    Calls Tryz.prog 15 #[tv] w R := by
  have HX := Lib.hid hx
  have HV := Lib.hid hv
  have HR := Lib.hid hR
  have hn8 := hv.rows
  obtain ⟨a, c, rfl, k1, k2⟩ := hx.out
  obtain ⟨n, hn⟩ : ∃ n, T.length = n := ⟨_, rfl⟩
  have HN := Lib.hid hn
  obtain ⟨hit, hH⟩ : ∃ z, hitS T = z := ⟨_, rfl⟩
  obtain ⟨G, hG⟩ : ∃ z, goalsS T = z := ⟨_, rfl⟩
  rw [hn, hH, hG] at HR
  have HH := Lib.hid hH
  have HGG := Lib.hid hG
  rw [hn] at HX k1 hn8 ⊢
  clear hR hx hv hn hH hG
  go_enter Tryz.func15, Tryz.ntmps15
  go_wp2_with fail
  have hb := heap_alloc_new w (.cells #[.slice a n c] 22)
  have hg := (Grow.refl w).alloc (.cells #[.slice a n c] 22)
  have hz : (w.alloc (.cells #[.slice a n c] 22)).heap.size = w.heap.size + 1 := by simp
  generalize w.alloc (.cells #[.slice a n c] 22) = W1 at hb hg hz ⊢
  have HB := Lib.hid hb
  have HGW := Lib.hid hg
  clear hb hg
  refine uValidate_any T _ _ (HX.out.grow HGW.out) _ ?_
  intro w1 e hg1 he
  obtain rfl := errS_ok he HV.out
  have HG1 := Lib.hid (HGW.out.trans (hg1.trans (Grow.refl w1).drew))
  have HB1 := Lib.hid (((hg1.trans (Grow.refl w1).drew)).blk HB.out)
  have hzb := lt_of_block HB1.out
  obtain ⟨w0, hw0⟩ : ∃ z, w1.drew = z := ⟨_, rfl⟩
  rw [hw0] at HG1 HB1 hzb
  have HW0 := Lib.hid hw0
  have HX0 := Lib.hid (HX.out.grow HG1.out)
  obtain ⟨wt, hwt⟩ : ∃ z, waitH hit (openH hit G n) (List.range n) = z := ⟨_, rfl⟩
  have HWT := Lib.hid hwt
  have HRL := Lib.hid (show (List.range n).length ≤ 8 by rw [List.length_range]; exact hn8)
  have HRM := Lib.hid (show ∀ r, r ∈ List.range n ↔ r < T.length from fun r => by rw [HN.out, List.mem_range])
  clear hg1 he hw0 hwt
  go_wp2_with fail
  refine wp_region_held_drew (S := (fun X : World => X.heap[w.heap.size]? = some (.cells #[.slice a n c] 22 (0, 0)))) (by kernel_rfl) (by rw [HW0.out]; exact HB1.out) (fun hH => ?_)
  rw [HW0.out] at hH ⊢
  refine wpAnyH_take (i := 0) (v := .slice a n c) rfl (by kernel_rfl) (by kernel_rfl) (by kernel_rfl) (fun _ _ _ h => h) (Or.inl ⟨by rfl, ?_⟩) hH ?_
  · intro w9 hw9
    have c9 := box1 hw9
    go_simp
  try simp only [List.getElem_toArray, List.getElem_cons_zero, Act.put, List.setIfInBounds_toArray, List.set_cons_zero, List.set_cons_succ]
  refine wpAnyH_take (i := 1) (v := .int .i64 (n : Nat)) rfl (by kernel_rfl) (by kernel_rfl) (by kernel_rfl) (fun _ _ _ h => h) (Or.inl ⟨by rfl, ?_⟩) hH ?_
  · intro w9 hw9
    go_simp
  try simp only [List.getElem_toArray, List.getElem_cons_succ, List.getElem_cons_zero, Act.put, List.setIfInBounds_toArray, List.set_cons_zero, List.set_cons_succ]
  refine wpAnyH_take (i := 3) (v := .slice a n c) rfl (by kernel_rfl) (by kernel_rfl) (by kernel_rfl) (fun _ _ _ h => h) (Or.inl ⟨by rfl, ?_⟩) hH ?_
  · intro w9 hw9
    have c9 := box1 hw9
    go_simp
  try simp only [List.getElem_toArray, List.getElem_cons_succ, List.getElem_cons_zero, Act.put, List.setIfInBounds_toArray, List.set_cons_zero, List.set_cons_succ]
  refine wpAnyH_take (i := 4) (v := .slice a n c) rfl (by kernel_rfl) (by kernel_rfl) (by kernel_rfl) (fun _ _ _ h => h) (Or.inl ⟨by rfl, ?_⟩) hH ?_
  · intro w9 hw9
    have c9 := box1 hw9
    go_simp
  try simp only [List.getElem_toArray, List.getElem_cons_succ, List.getElem_cons_zero, Act.put, List.setIfInBounds_toArray, List.set_cons_zero, List.set_cons_succ]
  refine wpAnyH_take (i := 5) (v := .int .i64 (n : Nat)) rfl (by kernel_rfl) (by kernel_rfl) (by kernel_rfl) (fun _ _ _ h => h) (Or.inl ⟨by rfl, ?_⟩) hH ?_
  · intro w9 hw9
    go_simp
  try simp only [List.getElem_toArray, List.getElem_cons_succ, List.getElem_cons_zero, Act.put, List.setIfInBounds_toArray, List.set_cons_zero, List.set_cons_succ]
  have HV0 := HV
  clear HV
  have HG := Lib.hid (Grow.refl w0)
  obtain ⟨W, hW⟩ : ∃ z, w0 = z := ⟨_, rfl⟩
  have HG := Lib.hid (show Grow w0 W from hW ▸ HG.out)
  rw [hW] at hH ⊢
  clear hW
  have HHW := Lib.hid hH
  clear hH
  apply cut_two
  rotate_left
  · intro key311
    apply cut_two
    rotate_left
    · intro key211
      apply cut_two
      rotate_left
      · intro key301
        apply cut_two
        rotate_left
        · intro key310
          apply cut_two
          rotate_left
          · intro key111
            apply cut_two
            rotate_left
            · intro key201
              apply cut_two
              rotate_left
              · intro key210
                apply cut_two
                rotate_left
                · intro key011
                  apply cut_two
                  rotate_left
                  · intro key101
                    apply cut_two
                    rotate_left
                    · intro key110
                      have hH := HHW.out
                      refine wpAnyH_ready (rs := [2, 8, 9]) (by kernel_rfl) (by simp) ?_
                      refine AllReadyH.cons rfl (fun K hK => ?_) (AllReadyH.cons rfl (fun K hK => ?_) (AllReadyH.cons rfl (fun K hK => ?_) (AllReadyH.nil)))
                      · skip
                        go_simp
                        refine uall_any n (by omega) _ _ ?_
                        intro W2 v2 hg2 ho2
                        have hs2 := ho2.slc encI_len
                        have hs3 := hs2
                        obtain ⟨a9, c9, rfl, jk⟩ := hs3
                        rw [natL_len, List.length_range] at hs2 ho2 ⊢
                        clear jk
                        go_wp2_with fail
                        refine hK.out _ _ (hg2.blk hH) (fun hH2 => ?_)
                        clear hK K hH
                        have hH := hH2
                        clear hH2
                        try simp only [List.getElem_toArray, List.getElem_cons_succ, List.getElem_cons_zero, Act.put, List.setIfInBounds_toArray, List.set_cons_zero, List.set_cons_succ]
                        have HV := Lib.hid hs2
                        have HT := Lib.hid (Lt1.of_own ho2)
                        replace HG := Lib.hid (HG.out.trans hg2)
                        clear hg2 ho2 hs2
                        obtain ⟨a17, rfl⟩ : ∃ z, z = a9 := ⟨_, rfl⟩
                        obtain ⟨c17, rfl⟩ : ∃ z, z = c9 := ⟨_, rfl⟩
                        obtain ⟨W, rfl⟩ : ∃ z, z = W2 := ⟨_, rfl⟩
                        refine wpAnyH_ready (rs := [6, 8, 9]) (by kernel_rfl) (by simp) ?_
                        refine AllReadyH.cons rfl (fun K hK => ?_) (AllReadyH.cons rfl (fun K hK => ?_) (AllReadyH.cons rfl (fun K hK => ?_) (AllReadyH.nil)))
                        · skip
                          go_simp
                          refine uall_any n (by omega) _ _ ?_
                          intro W2 v2 hg2 ho2
                          have hs2 := ho2.slc encI_len
                          have hs3 := hs2
                          obtain ⟨a9, c9, rfl, jk⟩ := hs3
                          rw [natL_len, List.length_range] at hs2 ho2 ⊢
                          clear jk
                          go_wp2_with fail
                          refine hK.out _ _ (hg2.blk hH) (fun hH2 => ?_)
                          clear hK K hH
                          have hH := hH2
                          clear hH2
                          try simp only [List.getElem_toArray, List.getElem_cons_succ, List.getElem_cons_zero, Act.put, List.setIfInBounds_toArray, List.set_cons_zero, List.set_cons_succ]
                          replace HV := Lib.hid (HV.out.grow hg2)
                          replace HT := Lib.hid (HT.out.grow hg2)
                          have HV2 := Lib.hid hs2
                          replace HG := Lib.hid (HG.out.trans hg2)
                          clear hg2 ho2 hs2
                          obtain ⟨a21, rfl⟩ : ∃ z, z = a9 := ⟨_, rfl⟩
                          obtain ⟨c21, rfl⟩ : ∃ z, z = c9 := ⟨_, rfl⟩
                          obtain ⟨W, rfl⟩ : ∃ z, z = W2 := ⟨_, rfl⟩
                          refine wpAnyH_ready (rs := [7, 8, 9]) (by kernel_rfl) (by simp) ?_
                          refine AllReadyH.cons rfl (fun K hK => ?_) (AllReadyH.cons rfl (fun K hK => ?_) (AllReadyH.cons rfl (fun K hK => ?_) (AllReadyH.nil)))
                          · skip
                            go_simp
                            refine wait_any T (List.range n) _ _ _ (HX0.out.grow HG.out) HV2.out HV0.out HRM.out HRL.out _ ?_
                            intro W2 hg2
                            rw [HH.out, HGG.out, HN.out, HWT.out]
                            go_wp2_with fail
                            refine hK.out _ _ (hg2.blk hH) (fun hH2 => ?_)
                            clear hK K hH
                            have hH := hH2
                            clear hH2
                            try simp only [List.getElem_toArray, List.getElem_cons_succ, List.getElem_cons_zero, Act.put, List.setIfInBounds_toArray, List.set_cons_zero, List.set_cons_succ]
                            clear HV2
                            replace HV := Lib.hid (HV.out.grow hg2)
                            replace HT := Lib.hid (HT.out.grow hg2)
                            replace HG := Lib.hid (HG.out.trans hg2)
                            clear hg2
                            obtain ⟨W, rfl⟩ : ∃ z, z = W2 := ⟨_, rfl⟩
                            refine wpAnyH_ready (rs := [8, 9]) (by kernel_rfl) (by simp) ?_
                            refine AllReadyH.cons rfl (fun K hK => ?_) (AllReadyH.cons rfl (fun K hK => ?_) (AllReadyH.nil))
                            · skip
                              have hgA := (Grow.refl W).alloc (.cells #[.slice none 0 0] 25)
                              have hbA := heap_alloc_new W (.cells #[.slice none 0 0] 25)
                              have HO8 := Lib.hid (show Off1 W.heap.size (.slice a17 n c17) from fun x1 x2 x3 x4 => Nat.ne_of_lt (HT.out x1 x2 x3 x4))
                              go_simp
                              refine hK.out _ _ (hgA.blk hH) (fun hH2 => ?_)
                              clear hK K hH
                              have hH := hH2
                              clear hH2
                              try simp only [List.getElem_toArray, List.getElem_cons_succ, List.getElem_cons_zero, Act.put, List.setIfInBounds_toArray, List.set_cons_zero, List.set_cons_succ]
                              generalize W.alloc (.cells #[.slice none 0 0] 25) = W2 at hgA hbA hH ⊢
                              have hz9 := HG.out.sz
                              obtain ⟨bB, hbe⟩ : ∃ z, W.heap.size = z := ⟨_, rfl⟩
                              rw [hbe] at hbA hz9 ⊢
                              rw [hbe] at HO8
                              replace HV := Lib.hid (HV.out.grow hgA)
                              replace HT := Lib.hid (HT.out.grow hgA)
                              have HB8 := Lib.hid (BxAt.mk (w0 := w0) hbA hz9)
                              replace HG := Lib.hid (HG.out.trans hgA)
                              clear hgA hbA hz9 hbe
                              obtain ⟨W, rfl⟩ : ∃ z, z = W2 := ⟨_, rfl⟩
                              revert hH
                              revert HO8
                              revert HB8
                              revert bB
                              revert c21
                              revert a21
                              revert HT
                              revert HV
                              revert c17
                              revert a17
                              revert HG
                              revert W
                              exact key310.out
                            · skip
                              have hgA := (Grow.refl W).alloc (.cells #[.int .i64 0] 3)
                              have hbA := heap_alloc_new W (.cells #[.int .i64 0] 3)
                              have HO9 := Lib.hid (show Off1 W.heap.size (.slice a17 n c17) from fun x1 x2 x3 x4 => Nat.ne_of_lt (HT.out x1 x2 x3 x4))
                              go_simp
                              refine hK.out _ _ (hgA.blk hH) (fun hH2 => ?_)
                              clear hK K hH
                              have hH := hH2
                              clear hH2
                              try simp only [List.getElem_toArray, List.getElem_cons_succ, List.getElem_cons_zero, Act.put, List.setIfInBounds_toArray, List.set_cons_zero, List.set_cons_succ]
                              generalize W.alloc (.cells #[.int .i64 0] 3) = W2 at hgA hbA hH ⊢
                              have hz9 := HG.out.sz
                              obtain ⟨bL, hbe⟩ : ∃ z, W.heap.size = z := ⟨_, rfl⟩
                              rw [hbe] at hbA hz9 ⊢
                              rw [hbe] at HO9
                              replace HV := Lib.hid (HV.out.grow hgA)
                              replace HT := Lib.hid (HT.out.grow hgA)
                              have HB9 := Lib.hid (BxAt.mk (w0 := w0) hbA hz9)
                              replace HG := Lib.hid (HG.out.trans hgA)
                              clear hgA hbA hz9 hbe
                              obtain ⟨W, rfl⟩ : ∃ z, z = W2 := ⟨_, rfl⟩
                              revert hH
                              revert HO9
                              revert HB9
                              revert bL
                              revert c21
                              revert a21
                              revert HT
                              revert HV
                              revert c17
                              revert a17
                              revert HG
                              revert W
                              exact key301.out
                          · skip
                            have hgA := (Grow.refl W).alloc (.cells #[.slice none 0 0] 25)
                            have hbA := heap_alloc_new W (.cells #[.slice none 0 0] 25)
                            have HO8 := Lib.hid (show Off1 W.heap.size (.slice a17 n c17) from fun x1 x2 x3 x4 => Nat.ne_of_lt (HT.out x1 x2 x3 x4))
                            go_simp
                            refine hK.out _ _ (hgA.blk hH) (fun hH2 => ?_)
                            clear hK K hH
                            have hH := hH2
                            clear hH2
                            try simp only [List.getElem_toArray, List.getElem_cons_succ, List.getElem_cons_zero, Act.put, List.setIfInBounds_toArray, List.set_cons_zero, List.set_cons_succ]
                            generalize W.alloc (.cells #[.slice none 0 0] 25) = W2 at hgA hbA hH ⊢
                            have hz9 := HG.out.sz
                            obtain ⟨bB, hbe⟩ : ∃ z, W.heap.size = z := ⟨_, rfl⟩
                            rw [hbe] at hbA hz9 ⊢
                            rw [hbe] at HO8
                            replace HV := Lib.hid (HV.out.grow hgA)
                            replace HT := Lib.hid (HT.out.grow hgA)
                            replace HV2 := Lib.hid (HV2.out.grow hgA)
                            have HB8 := Lib.hid (BxAt.mk (w0 := w0) hbA hz9)
                            replace HG := Lib.hid (HG.out.trans hgA)
                            clear hgA hbA hz9 hbe
                            obtain ⟨W, rfl⟩ : ∃ z, z = W2 := ⟨_, rfl⟩
                            revert hH
                            revert HO8
                            revert HB8
                            revert bB
                            revert HV2
                            revert c21
                            revert a21
                            revert HT
                            revert HV
                            revert c17
                            revert a17
                            revert HG
                            revert W
                            exact key210.out
                          · skip
                            have hgA := (Grow.refl W).alloc (.cells #[.int .i64 0] 3)
                            have hbA := heap_alloc_new W (.cells #[.int .i64 0] 3)
                            have HO9 := Lib.hid (show Off1 W.heap.size (.slice a17 n c17) from fun x1 x2 x3 x4 => Nat.ne_of_lt (HT.out x1 x2 x3 x4))
                            go_simp
                            refine hK.out _ _ (hgA.blk hH) (fun hH2 => ?_)
                            clear hK K hH
                            have hH := hH2
                            clear hH2
                            try simp only [List.getElem_toArray, List.getElem_cons_succ, List.getElem_cons_zero, Act.put, List.setIfInBounds_toArray, List.set_cons_zero, List.set_cons_succ]
                            generalize W.alloc (.cells #[.int .i64 0] 3) = W2 at hgA hbA hH ⊢
                            have hz9 := HG.out.sz
                            obtain ⟨bL, hbe⟩ : ∃ z, W.heap.size = z := ⟨_, rfl⟩
                            rw [hbe] at hbA hz9 ⊢
                            rw [hbe] at HO9
                            replace HV := Lib.hid (HV.out.grow hgA)
                            replace HT := Lib.hid (HT.out.grow hgA)
                            replace HV2 := Lib.hid (HV2.out.grow hgA)
                            have HB9 := Lib.hid (BxAt.mk (w0 := w0) hbA hz9)
                            replace HG := Lib.hid (HG.out.trans hgA)
                            clear hgA hbA hz9 hbe
                            obtain ⟨W, rfl⟩ : ∃ z, z = W2 := ⟨_, rfl⟩
                            revert hH
                            revert HO9
                            revert HB9
                            revert bL
                            revert HV2
                            revert c21
                            revert a21
                            revert HT
                            revert HV
                            revert c17
                            revert a17
                            revert HG
                            revert W
                            exact key201.out
                        · skip
                          have hgA := (Grow.refl W).alloc (.cells #[.slice none 0 0] 25)
                          have hbA := heap_alloc_new W (.cells #[.slice none 0 0] 25)
                          have HO8 := Lib.hid (show Off1 W.heap.size (.slice a17 n c17) from fun x1 x2 x3 x4 => Nat.ne_of_lt (HT.out x1 x2 x3 x4))
                          go_simp
                          refine hK.out _ _ (hgA.blk hH) (fun hH2 => ?_)
                          clear hK K hH
                          have hH := hH2
                          clear hH2
                          try simp only [List.getElem_toArray, List.getElem_cons_succ, List.getElem_cons_zero, Act.put, List.setIfInBounds_toArray, List.set_cons_zero, List.set_cons_succ]
                          generalize W.alloc (.cells #[.slice none 0 0] 25) = W2 at hgA hbA hH ⊢
                          have hz9 := HG.out.sz
                          obtain ⟨bB, hbe⟩ : ∃ z, W.heap.size = z := ⟨_, rfl⟩
                          rw [hbe] at hbA hz9 ⊢
                          rw [hbe] at HO8
                          replace HV := Lib.hid (HV.out.grow hgA)
                          replace HT := Lib.hid (HT.out.grow hgA)
                          have HB8 := Lib.hid (BxAt.mk (w0 := w0) hbA hz9)
                          replace HG := Lib.hid (HG.out.trans hgA)
                          clear hgA hbA hz9 hbe
                          obtain ⟨W, rfl⟩ : ∃ z, z = W2 := ⟨_, rfl⟩
                          revert hH
                          revert HO8
                          revert HB8
                          revert bB
                          revert HT
                          revert HV
                          revert c17
                          revert a17
                          revert HG
                          revert W
                          exact key110.out
                        · skip
                          have hgA := (Grow.refl W).alloc (.cells #[.int .i64 0] 3)
                          have hbA := heap_alloc_new W (.cells #[.int .i64 0] 3)
                          have HO9 := Lib.hid (show Off1 W.heap.size (.slice a17 n c17) from fun x1 x2 x3 x4 => Nat.ne_of_lt (HT.out x1 x2 x3 x4))
                          go_simp
                          refine hK.out _ _ (hgA.blk hH) (fun hH2 => ?_)
                          clear hK K hH
                          have hH := hH2
                          clear hH2
                          try simp only [List.getElem_toArray, List.getElem_cons_succ, List.getElem_cons_zero, Act.put, List.setIfInBounds_toArray, List.set_cons_zero, List.set_cons_succ]
                          generalize W.alloc (.cells #[.int .i64 0] 3) = W2 at hgA hbA hH ⊢
                          have hz9 := HG.out.sz
                          obtain ⟨bL, hbe⟩ : ∃ z, W.heap.size = z := ⟨_, rfl⟩
                          rw [hbe] at hbA hz9 ⊢
                          rw [hbe] at HO9
                          replace HV := Lib.hid (HV.out.grow hgA)
                          replace HT := Lib.hid (HT.out.grow hgA)
                          have HB9 := Lib.hid (BxAt.mk (w0 := w0) hbA hz9)
                          replace HG := Lib.hid (HG.out.trans hgA)
                          clear hgA hbA hz9 hbe
                          obtain ⟨W, rfl⟩ : ∃ z, z = W2 := ⟨_, rfl⟩
                          revert hH
                          revert HO9
                          revert HB9
                          revert bL
                          revert HT
                          revert HV
                          revert c17
                          revert a17
                          revert HG
                          revert W
                          exact key101.out
                      · skip
                        have hgA := (Grow.refl W).alloc (.cells #[.slice none 0 0] 25)
                        have hbA := heap_alloc_new W (.cells #[.slice none 0 0] 25)
                        go_simp
                        refine hK.out _ _ (hgA.blk hH) (fun hH2 => ?_)
                        clear hK K hH
                        have hH := hH2
                        clear hH2
                        try simp only [List.getElem_toArray, List.getElem_cons_succ, List.getElem_cons_zero, Act.put, List.setIfInBounds_toArray, List.set_cons_zero, List.set_cons_succ]
                        generalize W.alloc (.cells #[.slice none 0 0] 25) = W2 at hgA hbA hH ⊢
                        have hz9 := HG.out.sz
                        obtain ⟨bB, hbe⟩ : ∃ z, W.heap.size = z := ⟨_, rfl⟩
                        rw [hbe] at hbA hz9 ⊢
                        have HB8 := Lib.hid (BxAt.mk (w0 := w0) hbA hz9)
                        replace HG := Lib.hid (HG.out.trans hgA)
                        clear hgA hbA hz9 hbe
                        obtain ⟨W, rfl⟩ : ∃ z, z = W2 := ⟨_, rfl⟩
                        refine wpAnyH_ready (rs := [2, 9]) (by kernel_rfl) (by simp) ?_
                        refine AllReadyH.cons rfl (fun K hK => ?_) (AllReadyH.cons rfl (fun K hK => ?_) (AllReadyH.nil))
                        · skip
                          go_simp
                          refine uall_any n (by omega) _ _ ?_
                          intro W2 v2 hg2 ho2
                          have hs2 := ho2.slc encI_len
                          have hs3 := hs2
                          obtain ⟨a9, c9, rfl, jk⟩ := hs3
                          rw [natL_len, List.length_range] at hs2 ho2 ⊢
                          clear jk
                          go_wp2_with fail
                          refine hK.out _ _ (hg2.blk hH) (fun hH2 => ?_)
                          clear hK K hH
                          have hH := hH2
                          clear hH2
                          try simp only [List.getElem_toArray, List.getElem_cons_succ, List.getElem_cons_zero, Act.put, List.setIfInBounds_toArray, List.set_cons_zero, List.set_cons_succ]
                          have HO8 := Lib.hid (show Off1 bB (.slice a9 n c9) from fun x1 x2 x3 x4 => by have h1 := NewS.of_own ho2 x1 x2 x3 x4; have h2 := HB8.out.lt; omega)
                          replace HB8 := Lib.hid (HB8.out.grow hg2)
                          have HV := Lib.hid hs2
                          have HT := Lib.hid (Lt1.of_own ho2)
                          replace HG := Lib.hid (HG.out.trans hg2)
                          clear hg2 ho2 hs2
                          obtain ⟨a17, rfl⟩ : ∃ z, z = a9 := ⟨_, rfl⟩
                          obtain ⟨c17, rfl⟩ : ∃ z, z = c9 := ⟨_, rfl⟩
                          obtain ⟨W, rfl⟩ : ∃ z, z = W2 := ⟨_, rfl⟩
                          revert hH
                          revert HO8
                          revert HB8
                          revert bB
                          revert HT
                          revert HV
                          revert c17
                          revert a17
                          revert HG
                          revert W
                          exact key110.out
                        · skip
                          have hgA := (Grow.refl W).alloc (.cells #[.int .i64 0] 3)
                          have hbA := heap_alloc_new W (.cells #[.int .i64 0] 3)
                          have HNE := Lib.hid (show W.heap.size ≠ bB from fun e => Nat.ne_of_lt HB8.out.lt e.symm)
                          go_simp
                          refine hK.out _ _ (hgA.blk hH) (fun hH2 => ?_)
                          clear hK K hH
                          have hH := hH2
                          clear hH2
                          try simp only [List.getElem_toArray, List.getElem_cons_succ, List.getElem_cons_zero, Act.put, List.setIfInBounds_toArray, List.set_cons_zero, List.set_cons_succ]
                          generalize W.alloc (.cells #[.int .i64 0] 3) = W2 at hgA hbA hH ⊢
                          have hz9 := HG.out.sz
                          obtain ⟨bL, hbe⟩ : ∃ z, W.heap.size = z := ⟨_, rfl⟩
                          rw [hbe] at hbA hz9 ⊢
                          rw [hbe] at HNE
                          replace HB8 := Lib.hid (HB8.out.grow hgA)
                          have HB9 := Lib.hid (BxAt.mk (w0 := w0) hbA hz9)
                          replace HG := Lib.hid (HG.out.trans hgA)
                          clear hgA hbA hz9 hbe
                          obtain ⟨W, rfl⟩ : ∃ z, z = W2 := ⟨_, rfl⟩
                          revert hH
                          revert HNE
                          revert HB9
                          revert bL
                          revert HB8
                          revert bB
                          revert HG
                          revert W
                          exact key011.out
                      · skip
                        have hgA := (Grow.refl W).alloc (.cells #[.int .i64 0] 3)
                        have hbA := heap_alloc_new W (.cells #[.int .i64 0] 3)
                        go_simp
                        refine hK.out _ _ (hgA.blk hH) (fun hH2 => ?_)
                        clear hK K hH
                        have hH := hH2
                        clear hH2
                        try simp only [List.getElem_toArray, List.getElem_cons_succ, List.getElem_cons_zero, Act.put, List.setIfInBounds_toArray, List.set_cons_zero, List.set_cons_succ]
                        generalize W.alloc (.cells #[.int .i64 0] 3) = W2 at hgA hbA hH ⊢
                        have hz9 := HG.out.sz
                        obtain ⟨bL, hbe⟩ : ∃ z, W.heap.size = z := ⟨_, rfl⟩
                        rw [hbe] at hbA hz9 ⊢
                        have HB9 := Lib.hid (BxAt.mk (w0 := w0) hbA hz9)
                        replace HG := Lib.hid (HG.out.trans hgA)
                        clear hgA hbA hz9 hbe
                        obtain ⟨W, rfl⟩ : ∃ z, z = W2 := ⟨_, rfl⟩
                        refine wpAnyH_ready (rs := [2, 8]) (by kernel_rfl) (by simp) ?_
                        refine AllReadyH.cons rfl (fun K hK => ?_) (AllReadyH.cons rfl (fun K hK => ?_) (AllReadyH.nil))
                        · skip
                          go_simp
                          refine uall_any n (by omega) _ _ ?_
                          intro W2 v2 hg2 ho2
                          have hs2 := ho2.slc encI_len
                          have hs3 := hs2
                          obtain ⟨a9, c9, rfl, jk⟩ := hs3
                          rw [natL_len, List.length_range] at hs2 ho2 ⊢
                          clear jk
                          go_wp2_with fail
                          refine hK.out _ _ (hg2.blk hH) (fun hH2 => ?_)
                          clear hK K hH
                          have hH := hH2
                          clear hH2
                          try simp only [List.getElem_toArray, List.getElem_cons_succ, List.getElem_cons_zero, Act.put, List.setIfInBounds_toArray, List.set_cons_zero, List.set_cons_succ]
                          have HO9 := Lib.hid (show Off1 bL (.slice a9 n c9) from fun x1 x2 x3 x4 => by have h1 := NewS.of_own ho2 x1 x2 x3 x4; have h2 := HB9.out.lt; omega)
                          replace HB9 := Lib.hid (HB9.out.grow hg2)
                          have HV := Lib.hid hs2
                          have HT := Lib.hid (Lt1.of_own ho2)
                          replace HG := Lib.hid (HG.out.trans hg2)
                          clear hg2 ho2 hs2
                          obtain ⟨a17, rfl⟩ : ∃ z, z = a9 := ⟨_, rfl⟩
                          obtain ⟨c17, rfl⟩ : ∃ z, z = c9 := ⟨_, rfl⟩
                          obtain ⟨W, rfl⟩ : ∃ z, z = W2 := ⟨_, rfl⟩
                          revert hH
                          revert HO9
                          revert HB9
                          revert bL
                          revert HT
                          revert HV
                          revert c17
                          revert a17
                          revert HG
                          revert W
                          exact key101.out
                        · skip
                          have hgA := (Grow.refl W).alloc (.cells #[.slice none 0 0] 25)
                          have hbA := heap_alloc_new W (.cells #[.slice none 0 0] 25)
                          have HNE := Lib.hid (show bL ≠ W.heap.size from Nat.ne_of_lt HB9.out.lt)
                          go_simp
                          refine hK.out _ _ (hgA.blk hH) (fun hH2 => ?_)
                          clear hK K hH
                          have hH := hH2
                          clear hH2
                          try simp only [List.getElem_toArray, List.getElem_cons_succ, List.getElem_cons_zero, Act.put, List.setIfInBounds_toArray, List.set_cons_zero, List.set_cons_succ]
                          generalize W.alloc (.cells #[.slice none 0 0] 25) = W2 at hgA hbA hH ⊢
                          have hz9 := HG.out.sz
                          obtain ⟨bB, hbe⟩ : ∃ z, W.heap.size = z := ⟨_, rfl⟩
                          rw [hbe] at hbA hz9 ⊢
                          rw [hbe] at HNE
                          replace HB9 := Lib.hid (HB9.out.grow hgA)
                          have HB8 := Lib.hid (BxAt.mk (w0 := w0) hbA hz9)
                          replace HG := Lib.hid (HG.out.trans hgA)
                          clear hgA hbA hz9 hbe
                          obtain ⟨W, rfl⟩ : ∃ z, z = W2 := ⟨_, rfl⟩
                          revert hH
                          revert HNE
                          revert HB9
                          revert bL
                          revert HB8
                          revert bB
                          revert HG
                          revert W
                          exact key011.out
                    · intro W HG a17 c17 HV HT bB HB8 HO8 hH
                      refine wpAnyH_ready (rs := [6, 9]) (by kernel_rfl) (by simp) ?_
                      refine AllReadyH.cons rfl (fun K hK => ?_) (AllReadyH.cons rfl (fun K hK => ?_) (AllReadyH.nil))
                      · skip
                        go_simp
                        refine uall_any n (by omega) _ _ ?_
                        intro W2 v2 hg2 ho2
                        have hs2 := ho2.slc encI_len
                        have hs3 := hs2
                        obtain ⟨a9, c9, rfl, jk⟩ := hs3
                        rw [natL_len, List.length_range] at hs2 ho2 ⊢
                        clear jk
                        go_wp2_with fail
                        refine hK.out _ _ (hg2.blk hH) (fun hH2 => ?_)
                        clear hK K hH
                        have hH := hH2
                        clear hH2
                        try simp only [List.getElem_toArray, List.getElem_cons_succ, List.getElem_cons_zero, Act.put, List.setIfInBounds_toArray, List.set_cons_zero, List.set_cons_succ]
                        replace HV := Lib.hid (HV.out.grow hg2)
                        replace HT := Lib.hid (HT.out.grow hg2)
                        replace HB8 := Lib.hid (HB8.out.grow hg2)
                        have HV2 := Lib.hid hs2
                        replace HG := Lib.hid (HG.out.trans hg2)
                        clear hg2 ho2 hs2
                        obtain ⟨a21, rfl⟩ : ∃ z, z = a9 := ⟨_, rfl⟩
                        obtain ⟨c21, rfl⟩ : ∃ z, z = c9 := ⟨_, rfl⟩
                        obtain ⟨W, rfl⟩ : ∃ z, z = W2 := ⟨_, rfl⟩
                        revert hH
                        revert HO8
                        revert HB8
                        revert bB
                        revert HV2
                        revert c21
                        revert a21
                        revert HT
                        revert HV
                        revert c17
                        revert a17
                        revert HG
                        revert W
                        exact key210.out
                      · skip
                        have hgA := (Grow.refl W).alloc (.cells #[.int .i64 0] 3)
                        have hbA := heap_alloc_new W (.cells #[.int .i64 0] 3)
                        have HO9 := Lib.hid (show Off1 W.heap.size (.slice a17 n c17) from fun x1 x2 x3 x4 => Nat.ne_of_lt (HT.out x1 x2 x3 x4))
                        have HNE := Lib.hid (show W.heap.size ≠ bB from fun e => Nat.ne_of_lt HB8.out.lt e.symm)
                        go_simp
                        refine hK.out _ _ (hgA.blk hH) (fun hH2 => ?_)
                        clear hK K hH
                        have hH := hH2
                        clear hH2
                        try simp only [List.getElem_toArray, List.getElem_cons_succ, List.getElem_cons_zero, Act.put, List.setIfInBounds_toArray, List.set_cons_zero, List.set_cons_succ]
                        generalize W.alloc (.cells #[.int .i64 0] 3) = W2 at hgA hbA hH ⊢
                        have hz9 := HG.out.sz
                        obtain ⟨bL, hbe⟩ : ∃ z, W.heap.size = z := ⟨_, rfl⟩
                        rw [hbe] at hbA hz9 ⊢
                        rw [hbe] at HO9
                        rw [hbe] at HNE
                        replace HV := Lib.hid (HV.out.grow hgA)
                        replace HT := Lib.hid (HT.out.grow hgA)
                        replace HB8 := Lib.hid (HB8.out.grow hgA)
                        have HB9 := Lib.hid (BxAt.mk (w0 := w0) hbA hz9)
                        replace HG := Lib.hid (HG.out.trans hgA)
                        clear hgA hbA hz9 hbe
                        obtain ⟨W, rfl⟩ : ∃ z, z = W2 := ⟨_, rfl⟩
                        revert hH
                        revert HNE
                        revert HO9
                        revert HO8
                        revert HB9
                        revert bL
                        revert HB8
                        revert bB
                        revert HT
                        revert HV
                        revert c17
                        revert a17
                        revert HG
                        revert W
                        exact key111.out
                  · intro W HG a17 c17 HV HT bL HB9 HO9 hH
                    refine wpAnyH_ready (rs := [6, 8]) (by kernel_rfl) (by simp) ?_
                    refine AllReadyH.cons rfl (fun K hK => ?_) (AllReadyH.cons rfl (fun K hK => ?_) (AllReadyH.nil))
                    · skip
                      go_simp
                      refine uall_any n (by omega) _ _ ?_
                      intro W2 v2 hg2 ho2
                      have hs2 := ho2.slc encI_len
                      have hs3 := hs2
                      obtain ⟨a9, c9, rfl, jk⟩ := hs3
                      rw [natL_len, List.length_range] at hs2 ho2 ⊢
                      clear jk
                      go_wp2_with fail
                      refine hK.out _ _ (hg2.blk hH) (fun hH2 => ?_)
                      clear hK K hH
                      have hH := hH2
                      clear hH2
                      try simp only [List.getElem_toArray, List.getElem_cons_succ, List.getElem_cons_zero, Act.put, List.setIfInBounds_toArray, List.set_cons_zero, List.set_cons_succ]
                      replace HV := Lib.hid (HV.out.grow hg2)
                      replace HT := Lib.hid (HT.out.grow hg2)
                      replace HB9 := Lib.hid (HB9.out.grow hg2)
                      have HV2 := Lib.hid hs2
                      replace HG := Lib.hid (HG.out.trans hg2)
                      clear hg2 ho2 hs2
                      obtain ⟨a21, rfl⟩ : ∃ z, z = a9 := ⟨_, rfl⟩
                      obtain ⟨c21, rfl⟩ : ∃ z, z = c9 := ⟨_, rfl⟩
                      obtain ⟨W, rfl⟩ : ∃ z, z = W2 := ⟨_, rfl⟩
                      revert hH
                      revert HO9
                      revert HB9
                      revert bL
                      revert HV2
                      revert c21
                      revert a21
                      revert HT
                      revert HV
                      revert c17
                      revert a17
                      revert HG
                      revert W
                      exact key201.out
                    · skip
                      have hgA := (Grow.refl W).alloc (.cells #[.slice none 0 0] 25)
                      have hbA := heap_alloc_new W (.cells #[.slice none 0 0] 25)
                      have HO8 := Lib.hid (show Off1 W.heap.size (.slice a17 n c17) from fun x1 x2 x3 x4 => Nat.ne_of_lt (HT.out x1 x2 x3 x4))
                      have HNE := Lib.hid (show bL ≠ W.heap.size from Nat.ne_of_lt HB9.out.lt)
                      go_simp
                      refine hK.out _ _ (hgA.blk hH) (fun hH2 => ?_)
                      clear hK K hH
                      have hH := hH2
                      clear hH2
                      try simp only [List.getElem_toArray, List.getElem_cons_succ, List.getElem_cons_zero, Act.put, List.setIfInBounds_toArray, List.set_cons_zero, List.set_cons_succ]
                      generalize W.alloc (.cells #[.slice none 0 0] 25) = W2 at hgA hbA hH ⊢
                      have hz9 := HG.out.sz
                      obtain ⟨bB, hbe⟩ : ∃ z, W.heap.size = z := ⟨_, rfl⟩
                      rw [hbe] at hbA hz9 ⊢
                      rw [hbe] at HO8
                      rw [hbe] at HNE
                      replace HV := Lib.hid (HV.out.grow hgA)
                      replace HT := Lib.hid (HT.out.grow hgA)
                      replace HB9 := Lib.hid (HB9.out.grow hgA)
                      have HB8 := Lib.hid (BxAt.mk (w0 := w0) hbA hz9)
                      replace HG := Lib.hid (HG.out.trans hgA)
                      clear hgA hbA hz9 hbe
                      obtain ⟨W, rfl⟩ : ∃ z, z = W2 := ⟨_, rfl⟩
                      revert hH
                      revert HNE
                      revert HO9
                      revert HO8
                      revert HB9
                      revert bL
                      revert HB8
                      revert bB
                      revert HT
                      revert HV
                      revert c17
                      revert a17
                      revert HG
                      revert W
                      exact key111.out
                · intro W HG bB HB8 bL HB9 HNE hH
                  refine wpAnyH_ready (rs := [2]) (by kernel_rfl) (by simp) ?_
                  refine AllReadyH.cons rfl (fun K hK => ?_) (AllReadyH.nil)
                  go_simp
                  refine uall_any n (by omega) _ _ ?_
                  intro W2 v2 hg2 ho2
                  have hs2 := ho2.slc encI_len
                  have hs3 := hs2
                  obtain ⟨a9, c9, rfl, jk⟩ := hs3
                  rw [natL_len, List.length_range] at hs2 ho2 ⊢
                  clear jk
                  go_wp2_with fail
                  refine hK.out _ _ (hg2.blk hH) (fun hH2 => ?_)
                  clear hK K hH
                  have hH := hH2
                  clear hH2
                  try simp only [List.getElem_toArray, List.getElem_cons_succ, List.getElem_cons_zero, Act.put, List.setIfInBounds_toArray, List.set_cons_zero, List.set_cons_succ]
                  have HO8 := Lib.hid (show Off1 bB (.slice a9 n c9) from fun x1 x2 x3 x4 => by have h1 := NewS.of_own ho2 x1 x2 x3 x4; have h2 := HB8.out.lt; omega)
                  have HO9 := Lib.hid (show Off1 bL (.slice a9 n c9) from fun x1 x2 x3 x4 => by have h1 := NewS.of_own ho2 x1 x2 x3 x4; have h2 := HB9.out.lt; omega)
                  replace HB8 := Lib.hid (HB8.out.grow hg2)
                  replace HB9 := Lib.hid (HB9.out.grow hg2)
                  have HV := Lib.hid hs2
                  have HT := Lib.hid (Lt1.of_own ho2)
                  replace HG := Lib.hid (HG.out.trans hg2)
                  clear hg2 ho2 hs2
                  obtain ⟨a17, rfl⟩ : ∃ z, z = a9 := ⟨_, rfl⟩
                  obtain ⟨c17, rfl⟩ : ∃ z, z = c9 := ⟨_, rfl⟩
                  obtain ⟨W, rfl⟩ : ∃ z, z = W2 := ⟨_, rfl⟩
                  revert hH
                  revert HNE
                  revert HO9
                  revert HO8
                  revert HB9
                  revert bL
                  revert HB8
                  revert bB
                  revert HT
                  revert HV
                  revert c17
                  revert a17
                  revert HG
                  revert W
                  exact key111.out
              · intro W HG a17 c17 HV HT a21 c21 HV2 bB HB8 HO8 hH
                refine wpAnyH_ready (rs := [7, 9]) (by kernel_rfl) (by simp) ?_
                refine AllReadyH.cons rfl (fun K hK => ?_) (AllReadyH.cons rfl (fun K hK => ?_) (AllReadyH.nil))
                · skip
                  go_simp
                  refine wait_any T (List.range n) _ _ _ (HX0.out.grow HG.out) HV2.out HV0.out HRM.out HRL.out _ ?_
                  intro W2 hg2
                  rw [HH.out, HGG.out, HN.out, HWT.out]
                  go_wp2_with fail
                  refine hK.out _ _ (hg2.blk hH) (fun hH2 => ?_)
                  clear hK K hH
                  have hH := hH2
                  clear hH2
                  try simp only [List.getElem_toArray, List.getElem_cons_succ, List.getElem_cons_zero, Act.put, List.setIfInBounds_toArray, List.set_cons_zero, List.set_cons_succ]
                  clear HV2
                  replace HV := Lib.hid (HV.out.grow hg2)
                  replace HT := Lib.hid (HT.out.grow hg2)
                  replace HB8 := Lib.hid (HB8.out.grow hg2)
                  replace HG := Lib.hid (HG.out.trans hg2)
                  clear hg2
                  obtain ⟨W, rfl⟩ : ∃ z, z = W2 := ⟨_, rfl⟩
                  revert hH
                  revert HO8
                  revert HB8
                  revert bB
                  revert c21
                  revert a21
                  revert HT
                  revert HV
                  revert c17
                  revert a17
                  revert HG
                  revert W
                  exact key310.out
                · skip
                  have hgA := (Grow.refl W).alloc (.cells #[.int .i64 0] 3)
                  have hbA := heap_alloc_new W (.cells #[.int .i64 0] 3)
                  have HO9 := Lib.hid (show Off1 W.heap.size (.slice a17 n c17) from fun x1 x2 x3 x4 => Nat.ne_of_lt (HT.out x1 x2 x3 x4))
                  have HNE := Lib.hid (show W.heap.size ≠ bB from fun e => Nat.ne_of_lt HB8.out.lt e.symm)
                  go_simp
                  refine hK.out _ _ (hgA.blk hH) (fun hH2 => ?_)
                  clear hK K hH
                  have hH := hH2
                  clear hH2
                  try simp only [List.getElem_toArray, List.getElem_cons_succ, List.getElem_cons_zero, Act.put, List.setIfInBounds_toArray, List.set_cons_zero, List.set_cons_succ]
                  generalize W.alloc (.cells #[.int .i64 0] 3) = W2 at hgA hbA hH ⊢
                  have hz9 := HG.out.sz
                  obtain ⟨bL, hbe⟩ : ∃ z, W.heap.size = z := ⟨_, rfl⟩
                  rw [hbe] at hbA hz9 ⊢
                  rw [hbe] at HO9
                  rw [hbe] at HNE
                  replace HV := Lib.hid (HV.out.grow hgA)
                  replace HT := Lib.hid (HT.out.grow hgA)
                  replace HV2 := Lib.hid (HV2.out.grow hgA)
                  replace HB8 := Lib.hid (HB8.out.grow hgA)
                  have HB9 := Lib.hid (BxAt.mk (w0 := w0) hbA hz9)
                  replace HG := Lib.hid (HG.out.trans hgA)
                  clear hgA hbA hz9 hbe
                  obtain ⟨W, rfl⟩ : ∃ z, z = W2 := ⟨_, rfl⟩
                  revert hH
                  revert HNE
                  revert HO9
                  revert HO8
                  revert HB9
                  revert bL
                  revert HB8
                  revert bB
                  revert HV2
                  revert c21
                  revert a21
                  revert HT
                  revert HV
                  revert c17
                  revert a17
                  revert HG
                  revert W
                  exact key211.out
            · intro W HG a17 c17 HV HT a21 c21 HV2 bL HB9 HO9 hH
              refine wpAnyH_ready (rs := [7, 8]) (by kernel_rfl) (by simp) ?_
              refine AllReadyH.cons rfl (fun K hK => ?_) (AllReadyH.cons rfl (fun K hK => ?_) (AllReadyH.nil))
              · skip
                go_simp
                refine wait_any T (List.range n) _ _ _ (HX0.out.grow HG.out) HV2.out HV0.out HRM.out HRL.out _ ?_
                intro W2 hg2
                rw [HH.out, HGG.out, HN.out, HWT.out]
                go_wp2_with fail
                refine hK.out _ _ (hg2.blk hH) (fun hH2 => ?_)
                clear hK K hH
                have hH := hH2
                clear hH2
                try simp only [List.getElem_toArray, List.getElem_cons_succ, List.getElem_cons_zero, Act.put, List.setIfInBounds_toArray, List.set_cons_zero, List.set_cons_succ]
                clear HV2
                replace HV := Lib.hid (HV.out.grow hg2)
                replace HT := Lib.hid (HT.out.grow hg2)
                replace HB9 := Lib.hid (HB9.out.grow hg2)
                replace HG := Lib.hid (HG.out.trans hg2)
                clear hg2
                obtain ⟨W, rfl⟩ : ∃ z, z = W2 := ⟨_, rfl⟩
                revert hH
                revert HO9
                revert HB9
                revert bL
                revert c21
                revert a21
                revert HT
                revert HV
                revert c17
                revert a17
                revert HG
                revert W
                exact key301.out
              · skip
                have hgA := (Grow.refl W).alloc (.cells #[.slice none 0 0] 25)
                have hbA := heap_alloc_new W (.cells #[.slice none 0 0] 25)
                have HO8 := Lib.hid (show Off1 W.heap.size (.slice a17 n c17) from fun x1 x2 x3 x4 => Nat.ne_of_lt (HT.out x1 x2 x3 x4))
                have HNE := Lib.hid (show bL ≠ W.heap.size from Nat.ne_of_lt HB9.out.lt)
                go_simp
                refine hK.out _ _ (hgA.blk hH) (fun hH2 => ?_)
                clear hK K hH
                have hH := hH2
                clear hH2
                try simp only [List.getElem_toArray, List.getElem_cons_succ, List.getElem_cons_zero, Act.put, List.setIfInBounds_toArray, List.set_cons_zero, List.set_cons_succ]
                generalize W.alloc (.cells #[.slice none 0 0] 25) = W2 at hgA hbA hH ⊢
                have hz9 := HG.out.sz
                obtain ⟨bB, hbe⟩ : ∃ z, W.heap.size = z := ⟨_, rfl⟩
                rw [hbe] at hbA hz9 ⊢
                rw [hbe] at HO8
                rw [hbe] at HNE
                replace HV := Lib.hid (HV.out.grow hgA)
                replace HT := Lib.hid (HT.out.grow hgA)
                replace HV2 := Lib.hid (HV2.out.grow hgA)
                replace HB9 := Lib.hid (HB9.out.grow hgA)
                have HB8 := Lib.hid (BxAt.mk (w0 := w0) hbA hz9)
                replace HG := Lib.hid (HG.out.trans hgA)
                clear hgA hbA hz9 hbe
                obtain ⟨W, rfl⟩ : ∃ z, z = W2 := ⟨_, rfl⟩
                revert hH
                revert HNE
                revert HO9
                revert HO8
                revert HB9
                revert bL
                revert HB8
                revert bB
                revert HV2
                revert c21
                revert a21
                revert HT
                revert HV
                revert c17
                revert a17
                revert HG
                revert W
                exact key211.out
          · intro W HG a17 c17 HV HT bB HB8 bL HB9 HO8 HO9 HNE hH
            refine wpAnyH_ready (rs := [6]) (by kernel_rfl) (by simp) ?_
            refine AllReadyH.cons rfl (fun K hK => ?_) (AllReadyH.nil)
            go_simp
            refine uall_any n (by omega) _ _ ?_
            intro W2 v2 hg2 ho2
            have hs2 := ho2.slc encI_len
            have hs3 := hs2
            obtain ⟨a9, c9, rfl, jk⟩ := hs3
            rw [natL_len, List.length_range] at hs2 ho2 ⊢
            clear jk
            go_wp2_with fail
            refine hK.out _ _ (hg2.blk hH) (fun hH2 => ?_)
            clear hK K hH
            have hH := hH2
            clear hH2
            try simp only [List.getElem_toArray, List.getElem_cons_succ, List.getElem_cons_zero, Act.put, List.setIfInBounds_toArray, List.set_cons_zero, List.set_cons_succ]
            replace HV := Lib.hid (HV.out.grow hg2)
            replace HT := Lib.hid (HT.out.grow hg2)
            replace HB8 := Lib.hid (HB8.out.grow hg2)
            replace HB9 := Lib.hid (HB9.out.grow hg2)
            have HV2 := Lib.hid hs2
            replace HG := Lib.hid (HG.out.trans hg2)
            clear hg2 ho2 hs2
            obtain ⟨a21, rfl⟩ : ∃ z, z = a9 := ⟨_, rfl⟩
            obtain ⟨c21, rfl⟩ : ∃ z, z = c9 := ⟨_, rfl⟩
            obtain ⟨W, rfl⟩ : ∃ z, z = W2 := ⟨_, rfl⟩
            revert hH
            revert HNE
            revert HO9
            revert HO8
            revert HB9
            revert bL
            revert HB8
            revert bB
            revert HV2
            revert c21
            revert a21
            revert HT
            revert HV
            revert c17
            revert a17
            revert HG
            revert W
            exact key211.out
        · intro W HG a17 c17 HV HT a21 c21 bB HB8 HO8 hH
          refine wpAnyH_ready (rs := [9]) (by kernel_rfl) (by simp) ?_
          refine AllReadyH.cons rfl (fun K hK => ?_) (AllReadyH.nil)
          have hgA := (Grow.refl W).alloc (.cells #[.int .i64 0] 3)
          have hbA := heap_alloc_new W (.cells #[.int .i64 0] 3)
          have HO9 := Lib.hid (show Off1 W.heap.size (.slice a17 n c17) from fun x1 x2 x3 x4 => Nat.ne_of_lt (HT.out x1 x2 x3 x4))
          have HNE := Lib.hid (show W.heap.size ≠ bB from fun e => Nat.ne_of_lt HB8.out.lt e.symm)
          go_simp
          refine hK.out _ _ (hgA.blk hH) (fun hH2 => ?_)
          clear hK K hH
          have hH := hH2
          clear hH2
          try simp only [List.getElem_toArray, List.getElem_cons_succ, List.getElem_cons_zero, Act.put, List.setIfInBounds_toArray, List.set_cons_zero, List.set_cons_succ]
          generalize W.alloc (.cells #[.int .i64 0] 3) = W2 at hgA hbA hH ⊢
          have hz9 := HG.out.sz
          obtain ⟨bL, hbe⟩ : ∃ z, W.heap.size = z := ⟨_, rfl⟩
          rw [hbe] at hbA hz9 ⊢
          rw [hbe] at HO9
          rw [hbe] at HNE
          replace HV := Lib.hid (HV.out.grow hgA)
          replace HT := Lib.hid (HT.out.grow hgA)
          replace HB8 := Lib.hid (HB8.out.grow hgA)
          have HB9 := Lib.hid (BxAt.mk (w0 := w0) hbA hz9)
          replace HG := Lib.hid (HG.out.trans hgA)
          clear hgA hbA hz9 hbe
          obtain ⟨W, rfl⟩ : ∃ z, z = W2 := ⟨_, rfl⟩
          revert hH
          revert HNE
          revert HO9
          revert HO8
          revert HB9
          revert bL
          revert HB8
          revert bB
          revert c21
          revert a21
          revert HT
          revert HV
          revert c17
          revert a17
          revert HG
          revert W
          exact key311.out
      · intro W HG a17 c17 HV HT a21 c21 bL HB9 HO9 hH
        refine wpAnyH_ready (rs := [8]) (by kernel_rfl) (by simp) ?_
        refine AllReadyH.cons rfl (fun K hK => ?_) (AllReadyH.nil)
        have hgA := (Grow.refl W).alloc (.cells #[.slice none 0 0] 25)
        have hbA := heap_alloc_new W (.cells #[.slice none 0 0] 25)
        have HO8 := Lib.hid (show Off1 W.heap.size (.slice a17 n c17) from fun x1 x2 x3 x4 => Nat.ne_of_lt (HT.out x1 x2 x3 x4))
        have HNE := Lib.hid (show bL ≠ W.heap.size from Nat.ne_of_lt HB9.out.lt)
        go_simp
        refine hK.out _ _ (hgA.blk hH) (fun hH2 => ?_)
        clear hK K hH
        have hH := hH2
        clear hH2
        try simp only [List.getElem_toArray, List.getElem_cons_succ, List.getElem_cons_zero, Act.put, List.setIfInBounds_toArray, List.set_cons_zero, List.set_cons_succ]
        generalize W.alloc (.cells #[.slice none 0 0] 25) = W2 at hgA hbA hH ⊢
        have hz9 := HG.out.sz
        obtain ⟨bB, hbe⟩ : ∃ z, W.heap.size = z := ⟨_, rfl⟩
        rw [hbe] at hbA hz9 ⊢
        rw [hbe] at HO8
        rw [hbe] at HNE
        replace HV := Lib.hid (HV.out.grow hgA)
        replace HT := Lib.hid (HT.out.grow hgA)
        replace HB9 := Lib.hid (HB9.out.grow hgA)
        have HB8 := Lib.hid (BxAt.mk (w0 := w0) hbA hz9)
        replace HG := Lib.hid (HG.out.trans hgA)
        clear hgA hbA hz9 hbe
        obtain ⟨W, rfl⟩ : ∃ z, z = W2 := ⟨_, rfl⟩
        revert hH
        revert HNE
        revert HO9
        revert HO8
        revert HB9
        revert bL
        revert HB8
        revert bB
        revert c21
        revert a21
        revert HT
        revert HV
        revert c17
        revert a17
        revert HG
        revert W
        exact key311.out
    · intro W HG a17 c17 HV HT a21 c21 HV2 bB HB8 bL HB9 HO8 HO9 HNE hH
      refine wpAnyH_ready (rs := [7]) (by kernel_rfl) (by simp) ?_
      refine AllReadyH.cons rfl (fun K hK => ?_) (AllReadyH.nil)
      go_simp
      refine wait_any T (List.range n) _ _ _ (HX0.out.grow HG.out) HV2.out HV0.out HRM.out HRL.out _ ?_
      intro W2 hg2
      rw [HH.out, HGG.out, HN.out, HWT.out]
      go_wp2_with fail
      refine hK.out _ _ (hg2.blk hH) (fun hH2 => ?_)
      clear hK K hH
      have hH := hH2
      clear hH2
      try simp only [List.getElem_toArray, List.getElem_cons_succ, List.getElem_cons_zero, Act.put, List.setIfInBounds_toArray, List.set_cons_zero, List.set_cons_succ]
      clear HV2
      replace HV := Lib.hid (HV.out.grow hg2)
      replace HT := Lib.hid (HT.out.grow hg2)
      replace HB8 := Lib.hid (HB8.out.grow hg2)
      replace HB9 := Lib.hid (HB9.out.grow hg2)
      replace HG := Lib.hid (HG.out.trans hg2)
      clear hg2
      obtain ⟨W, rfl⟩ : ∃ z, z = W2 := ⟨_, rfl⟩
      revert hH
      revert HNE
      revert HO9
      revert HO8
      revert HB9
      revert bL
      revert HB8
      revert bB
      revert c21
      revert a21
      revert HT
      revert HV
      revert c17
      revert a17
      revert HG
      revert W
      exact key311.out
  · intro W HG a17 c17 HV HT a21 c21 bB HB8 bL HB9 HO8 HO9 HNE hH
    have hbB := HB8.out.h
    have hbL := HB9.out.h
    have cB := box1 hbB
    have fB : W.frozen? ⟨bB, 0, none⟩ = false := by simp [World.frozen?, hbB]
    have hlB := HB8.out.l
    have hlL := HB9.out.l
    have hne := HNE.out
    have hTB : w.heap.size ≠ bB := by omega
    have hTL : w.heap.size ≠ bL := by omega
    have hbL2 : (W.setCell ⟨bB, 0, none⟩ (.slice a17 n c17)).heap[bL]? = some (.cells #[.int .i64 0] 3 (0, 0)) := by rw [Below.heap_setCell _ _ _ _ hne]; exact hbL
    have cL := box1 hbL2
    have fL : (W.setCell ⟨bB, 0, none⟩ (.slice a17 n c17)).frozen? ⟨bL, 0, none⟩ = false := by simp [World.frozen?, hbL2]
    refine wpAnyH_ready (rs := [10]) (by kernel_rfl) (by simp) ?_
    refine AllReadyH.cons rfl (fun K hK => ?_) (AllReadyH.nil)
    go_simp
    refine hK.out _ _ (by rw [Below.heap_setCell _ _ _ _ hTB]; exact hH) (fun hH2 => ?_)
    clear hK K hH
    have hH := hH2
    clear hH2
    try simp only [List.getElem_toArray, List.getElem_cons_succ, List.getElem_cons_zero, Act.put, List.setIfInBounds_toArray, List.set_cons_zero, List.set_cons_succ]
    refine wpAnyH_ready (rs := [11]) (by kernel_rfl) (by simp) ?_
    refine AllReadyH.cons rfl (fun K hK => ?_) (AllReadyH.nil)
    go_simp
    refine hK.out _ _ (by rw [Below.heap_setCell _ _ _ _ hTL]; exact hH) (fun hH2 => ?_)
    clear hK K hH
    have hH := hH2
    clear hH2
    try simp only [List.getElem_toArray, List.getElem_cons_succ, List.getElem_cons_zero, Act.put, List.setIfInBounds_toArray, List.set_cons_zero, List.set_cons_succ]
    refine wpAnyH_done (by kernel_rfl) ?_ _
    have hk3 : KeepB bL bB W ((W.setCell ⟨bB, 0, none⟩ (.slice a17 n c17)).setCell ⟨bL, 0, none⟩ (.int .i64 (wt : Nat))) := (KeepB.set2 W _).trans (KeepB.set1 _ _)
    have hO3 : OffB bL bB (.slice a17 n c17) := fun x1 x2 x3 x4 => ⟨HO9.out x1 x2 x3 x4, HO8.out x1 x2 x3 x4⟩
    have hV3 := ints_keepB HV.out hO3 hk3
    have hg3 : Grow w ((W.setCell ⟨bB, 0, none⟩ (.slice a17 n c17)).setCell ⟨bL, 0, none⟩ (.int .i64 (wt : Nat))) := Below.setCell (Below.setCell (HG1.out.trans HG.out) (show w.heap.size ≤ bB by omega) _) (show w.heap.size ≤ bL by omega) _
    have hb3 : ((W.setCell ⟨bB, 0, none⟩ (.slice a17 n c17)).setCell ⟨bL, 0, none⟩ (.int .i64 (wt : Nat))).heap[bB]? = some (.cells #[.slice a17 n c17] 25 (0, 0)) := by rw [Below.heap_setCell _ _ _ _ (Ne.symm hne), heap_setCell_same W bB _ _ _ _ hbB]; rfl
    have hl3 : ((W.setCell ⟨bB, 0, none⟩ (.slice a17 n c17)).setCell ⟨bL, 0, none⟩ (.int .i64 (wt : Nat))).heap[bL]? = some (.cells #[.int .i64 (wt : Nat)] 3 (0, 0)) := by rw [heap_setCell_same _ bL _ _ _ _ hbL2]; rfl
    have ht3 := hH
    clear hH hbB hbL cB fB hbL2 cL fL hk3
    generalize (W.setCell ⟨bB, 0, none⟩ (.slice a17 n c17)).setCell ⟨bL, 0, none⟩ (.int .i64 (wt : Nat)) = W3 at hV3 hg3 hb3 hl3 ht3 ⊢
    have HG3 := Lib.hid hg3
    have HV3 := Lib.hid hV3
    have HB3 := Lib.hid hb3
    have HL3 := Lib.hid hl3
    have HT3 := Lib.hid ht3
    have cT := box1 ht3
    clear hg3 hV3 hb3 hl3 ht3
    go_wp2_with fail
    refine open_any T _ _ (HX.out.grow HG3.out) HV0.out _ ?_
    intro w4 v4 hg4 ho4
    rw [HH.out, HGG.out, HN.out] at ho4
    obtain ⟨a4, c4, rfl, jk⟩ := ho4.slc encI_len
    rw [natL_len]
    obtain ⟨many, hmany⟩ : ∃ z, (openH hit G n).length = z := ⟨_, rfl⟩
    rw [hmany]
    have HMA := Lib.hid hmany
    have HG4 := Lib.hid (HG3.out.trans hg4)
    have HV4 := Lib.hid (HV3.out.grow hg4)
    have HB4 := Lib.hid (hg4.blk HB3.out)
    have HL4 := Lib.hid (hg4.blk HL3.out)
    have HT4 := Lib.hid (hg4.blk HT3.out)
    have hb4 := lt_of_block HB4.out
    have hl4 := lt_of_block HL4.out
    clear hg4 ho4 jk hmany cT
    go_wp2_with fail
    have hb0 := heap_two0 w4 (.cells #[.int .i64 (many : Nat)] 3) (.cells #[.func (.func 40) #[] #[.pointer (some ⟨w4.heap.size, 0, none⟩), .pointer (some ⟨w.heap.size, 0, none⟩), .pointer (some ⟨bL, 0, none⟩), .pointer (some ⟨bB, 0, none⟩), .pointer (some ⟨w4.heap.size + 1, 0, none⟩)]] 73)
    have hb1 := heap_two1 w4 (.cells #[.int .i64 (many : Nat)] 3) (.cells #[.func (.func 40) #[] #[.pointer (some ⟨w4.heap.size, 0, none⟩), .pointer (some ⟨w.heap.size, 0, none⟩), .pointer (some ⟨bL, 0, none⟩), .pointer (some ⟨bB, 0, none⟩), .pointer (some ⟨w4.heap.size + 1, 0, none⟩)]] 73)
    have hg0 : Grow w4 ((w4.alloc (.cells #[.int .i64 (many : Nat)] 3)).alloc (.cells #[.func (.func 40) #[] #[.pointer (some ⟨w4.heap.size, 0, none⟩), .pointer (some ⟨w.heap.size, 0, none⟩), .pointer (some ⟨bL, 0, none⟩), .pointer (some ⟨bB, 0, none⟩), .pointer (some ⟨w4.heap.size + 1, 0, none⟩)]] 73)) := ((Grow.refl w4).alloc _).alloc _
    generalize (w4.alloc (.cells #[.int .i64 (many : Nat)] 3)).alloc (.cells #[.func (.func 40) #[] #[.pointer (some ⟨w4.heap.size, 0, none⟩), .pointer (some ⟨w.heap.size, 0, none⟩), .pointer (some ⟨bL, 0, none⟩), .pointer (some ⟨bB, 0, none⟩), .pointer (some ⟨w4.heap.size + 1, 0, none⟩)]] 73) = W5 at hb0 hb1 hg0 ⊢
    rw [← HMA.out] at hb0
    have hI0 : BsI w hit G n (.slice a n c) w4.heap.size w.heap.size bL bB (w4.heap.size + 1) (List.range n) W5 := ⟨HG4.out.trans hg0, hb0, hg0.blk HT4.out, hb1, by rw [HWT.out]; exact hg0.blk HL4.out, ⟨_, hg0.blk HB4.out, HV4.out.grow hg0, hO3, a17, c17, by rw [List.length_range]⟩, List.Perm.refl _⟩
    have hN0 : BsN w w4.heap.size w.heap.size bL bB (w4.heap.size + 1) := ⟨by omega, by omega, hne, by omega, by omega, hTL, hTB, by omega, by omega⟩
    have HI0 := Lib.hid hI0
    have HN0 := Lib.hid hN0
    clear hb0 hb1 hg0 hI0 hN0
    refine grow_any T HV0.out w a n c HN.out HX.out hit G HH.out HGG.out w4.heap.size w.heap.size bL bB (w4.heap.size + 1) HN0.out n [] (List.range n) (List.range n) (.slice none 0 0) W5 (by simp) HI0.out (SlcAt.nil _ _ _) (OffB.nil _ _ _ _) (List.Perm.refl _) _ ?_
    intro X5 be hi5 hk5 hw5 hall5
    obtain ⟨bv, hbv, hbi, hbo, ab, cb, rfl⟩ := hi5.bb
    have cB := box1 hbv
    have hbl := hi5.bl
    obtain ⟨wb, hwb⟩ : ∃ z, waitH hit (openH hit G n) be = z := ⟨_, rfl⟩
    have hfin := fun (X : World) (h : Grow X5 X) => HR.out X _ be (hi5.grow.trans h) (hbi.grow h) ⟨ab, cb, rfl⟩ hi5.perm (fun o ho => hall5 o ho (List.nil_prefix))
    rw [hwb] at hbl hfin
    have cL := box1 hbl
    have HF := Lib.hid (hfin X5 (Grow.refl _))
    have HFN := Lib.hid (fun k => hfin _ ((Grow.refl X5).drewN k))
    clear hi5 hk5 hw5 hall5 hbv hbi hbo hbl hfin hwb
    go_wp2_with (go_quiet (fail))
    first | exact HF.out | exact HFN.out _ | exact bodyPost_ret (by simp [results, Tryz.results15, go_sem]) rfl HF.out | exact bodyPost_ret (by simp [results, Tryz.results15, go_sem]) rfl (HFN.out _)
end Go.Proofs.YtfbfkkaepgcggaaGreat
