/- The walk of the function value that compares two rows for the greedy order. -/
import Derived.Test.YtfbfkkaepgcggaaGreatQ15
import Derived.Test.YtfbfkkaepgcggaaGreatQ06
import Derived.Deep.RegionHeld3
namespace Go.Proofs.YtfbfkkaepgcggaaGreat
open Go.RowKit

theorem cut_one {G C : Prop} (pf : G) (use : Hid G → C) : C := use pf
/-- What a literal holds. -/
def LitAt (W : World) (b : Nat) (y : Nat) : Prop := ∀ j u, (encI (y : Int))[j]? = some u → W.cell? ((⟨b, 0, none⟩ : Addr).add j) = some u
theorem LitAt.grow {A B : World} {b : Nat} {y : Nat} (h : LitAt A b y) (g : Grow A B) : LitAt B b y := fun j u hj => g.cell (h j u hj)
theorem LitAt.lt {W : World} {b : Nat} {y : Nat} (h : LitAt W b y) : b < W.heap.size := by
  have := World.block_lt_of_cell? _ _ (h 0 _ rfl)
  rwa [Addr.add_lit] at this
theorem LitAt.grown {A B : World} {b : Nat} {y : Nat} {row : Option Nat} (h : LitAt A b y) (g : A.grownBy B row) (hn : row ≠ some b) : LitAt B b y := fun j u hj => by
  have h1 := h j u hj
  have hb := g.block b h.lt (fun e => hn e.symm)
  rw [← h1, Addr.add_lit]
  unfold World.cell?
  rw [hb]
theorem own_ne {W : World} {base e k n : Nat} {v : Value} {xs : List Value} {b : Nat} (h : W.ownsRow base e k v n xs) (hb : b < base ∨ W.heap.size ≤ b) : v.ownBlock ≠ some b := fun he => by
  have := h.lt b he
  omega
set_option maxRecDepth 100000 in
set_option maxHeartbeats 16000000 in
theorem greedy1_any (T : List (List Int)) (S : List Nat) (x y bT bO : Nat) (a oa : Option Addr) (n c oc : Nat) (w : World) (hT : w.heap[bT]? = some (.cells #[.slice a n c] 22 (0, 0))) (hO : w.heap[bO]? = some (.cells #[.slice oa S.length oc] 25 (0, 0)))
    (hx : FamAt w (.slice a n c) T) (hs : IntsAt w (.slice oa S.length oc) (natL S)) (hv : ValS T) (hS : ∀ r ∈ S, r < T.length) (hxr : x < T.length) (hyr : y < T.length) (hl : S.length ≤ 100)
    (R : Ending → World → Prop) (hR : ∀ w', Grow w w' → R (.returned (.int .i64 (((metH (hitS T) (goalsS T) (S ++ [x])).length : Nat) - ((metH (hitS T) (goalsS T) (S ++ [y])).length : Nat)))) w') :
    Calls Tryz.prog 35 #[.int .i64 (x : Int), .int .i64 (y : Int), .pointer (some ⟨bT, 0, none⟩), .pointer (some ⟨bO, 0, none⟩)] w R := by
  have HV := Lib.hid hv
  have HSX := Lib.hid (show ∀ r ∈ S ++ [x], r < T.length from fun r hr => by
    rcases List.mem_append.1 hr with h | h
    · exact hS r h
    · simp at h; omega)
  have HSY := Lib.hid (show ∀ r ∈ S ++ [y], r < T.length from fun r hr => by
    rcases List.mem_append.1 hr with h | h
    · exact hS r h
    · simp at h; omega)
  have hLX : (metH (hitS T) (goalsS T) (S ++ [x])).length ≤ 10 := Nat.le_trans (met_len _ _ _) hv.goals
  have hLY : (metH (hitS T) (goalsS T) (S ++ [y])).length ≤ 10 := Nat.le_trans (met_len _ _ _) hv.goals
  have HLS := Lib.hid (show (natL S).length < 10000000000 by rw [natL_len]; omega)
  have HLS2 := Lib.hid (show (natL S).length < 100000000000 by rw [natL_len]; omega)
  have HAPX := Lib.hid (natL_snoc S x)
  have HAPY := Lib.hid (natL_snoc S y)
  obtain ⟨LX, hLXe⟩ : ∃ z, (metH (hitS T) (goalsS T) (S ++ [x])).length = z := ⟨_, rfl⟩
  obtain ⟨LY, hLYe⟩ : ∃ z, (metH (hitS T) (goalsS T) (S ++ [y])).length = z := ⟨_, rfl⟩
  rw [hLXe, hLYe] at hR
  rw [hLXe] at hLX
  rw [hLYe] at hLY
  have HLX := Lib.hid hLXe
  have HLY := Lib.hid hLYe
  have HR := Lib.hid hR
  have hg0 := (Grow.refl w).drew
  obtain ⟨w0, hw0⟩ : ∃ z, w.drew = z := ⟨_, rfl⟩
  rw [hw0] at hg0
  have HW0 := Lib.hid hw0
  have HX := Lib.hid (hx.grow hg0)
  have HS := Lib.hid (hs.grow hg0)
  have HBT := Lib.hid (hg0.blk hT)
  have HBO := Lib.hid (hg0.blk hO)
  have HG00 := Lib.hid hg0
  have hzT := lt_of_block (hg0.blk hT)
  have hzO := lt_of_block (hg0.blk hO)
  clear hR hLXe hLYe hx hs hv hS hw0 hg0 hT hO hxr hyr
  go_enter Tryz.func35, Tryz.ntmps35
  go_wp2_with fail
  refine wp_region_held_drew (S := (fun X : World => X.heap[bT]? = some (.cells #[.slice a n c] 22 (0, 0)) ∧ X.heap[bO]? = some (.cells #[.slice oa S.length oc] 25 (0, 0)))) (by kernel_rfl) (by rw [HW0.out]; exact ⟨HBT.out, HBO.out⟩) (fun hH => ?_)
  rw [HW0.out] at hH ⊢
  refine wpAnyH_take (i := 0) (v := .slice a n c) rfl (by kernel_rfl) (by kernel_rfl) (by kernel_rfl) (fun _ _ _ h => h) (Or.inl ⟨by rfl, ?_⟩) hH ?_
  · intro w9 hw9
    have c9 := box1 hw9.1
    go_simp
  try simp only [List.getElem_toArray, List.getElem_cons_zero, Act.put, List.setIfInBounds_toArray, List.set_cons_zero, List.set_cons_succ]
  refine wpAnyH_take (i := 1) (v := .slice oa S.length oc) rfl (by kernel_rfl) (by kernel_rfl) (by kernel_rfl) (fun _ _ _ h => h) (Or.inl ⟨by rfl, ?_⟩) hH ?_
  · intro w9 hw9
    have c9 := box1 hw9.2
    go_simp
  try simp only [List.getElem_toArray, List.getElem_cons_succ, List.getElem_cons_zero, Act.put, List.setIfInBounds_toArray, List.set_cons_zero, List.set_cons_succ]
  refine wpAnyH_take (i := 3) (v := .int .i64 (x : Int)) rfl (by kernel_rfl) (by kernel_rfl) (by kernel_rfl) (fun _ _ _ h => h) (Or.inl ⟨by rfl, ?_⟩) hH ?_
  · intro w9 hw9
    go_simp
  try simp only [List.getElem_toArray, List.getElem_cons_succ, List.getElem_cons_zero, Act.put, List.setIfInBounds_toArray, List.set_cons_zero, List.set_cons_succ]
  refine wpAnyH_take (i := 8) (v := .slice a n c) rfl (by kernel_rfl) (by kernel_rfl) (by kernel_rfl) (fun _ _ _ h => h) (Or.inl ⟨by rfl, ?_⟩) hH ?_
  · intro w9 hw9
    have c9 := box1 hw9.1
    go_simp
  try simp only [List.getElem_toArray, List.getElem_cons_succ, List.getElem_cons_zero, Act.put, List.setIfInBounds_toArray, List.set_cons_zero, List.set_cons_succ]
  refine wpAnyH_take (i := 9) (v := .slice oa S.length oc) rfl (by kernel_rfl) (by kernel_rfl) (by kernel_rfl) (fun _ _ _ h => h) (Or.inl ⟨by rfl, ?_⟩) hH ?_
  · intro w9 hw9
    have c9 := box1 hw9.2
    go_simp
  try simp only [List.getElem_toArray, List.getElem_cons_succ, List.getElem_cons_zero, Act.put, List.setIfInBounds_toArray, List.set_cons_zero, List.set_cons_succ]
  refine wpAnyH_take (i := 11) (v := .int .i64 (y : Int)) rfl (by kernel_rfl) (by kernel_rfl) (by kernel_rfl) (fun _ _ _ h => h) (Or.inl ⟨by rfl, ?_⟩) hH ?_
  · intro w9 hw9
    go_simp
  try simp only [List.getElem_toArray, List.getElem_cons_succ, List.getElem_cons_zero, Act.put, List.setIfInBounds_toArray, List.set_cons_zero, List.set_cons_succ]
  have HG := Lib.hid (Grow.refl w0)
  obtain ⟨W, hW⟩ : ∃ z, w0 = z := ⟨_, rfl⟩
  have HG := Lib.hid (show Grow w0 W from hW ▸ HG.out)
  rw [hW] at hH ⊢
  clear hW
  have HHW := Lib.hid hH
  clear hH
  apply cut_one
  rotate_left
  · intro key411
    apply cut_one
    rotate_left
    · intro key311
      apply cut_one
      rotate_left
      · intro key211
        apply cut_one
        rotate_left
        · intro key111
          apply cut_one
          rotate_left
          · intro key110
            have hH := HHW.out
            refine wpAnyH_ready (rs := [2, 4, 12]) (by kernel_rfl) (by simp) ?_
            refine AllReadyH.cons rfl (fun K hK => ?_) (AllReadyH.cons rfl (fun K hK => ?_) (AllReadyH.cons rfl (fun K hK => ?_) (AllReadyH.nil)))
            · skip
              go_simp
              refine cloneR_any (natL S) _ _ (HS.out.grow HG.out) HLS.out _ ?_
              intro W2 v9 hg2 hv2
              go_wp2_with fail
              refine hK.out _ _ ⟨hg2.blk hH.1, hg2.blk hH.2⟩ (fun hH2 => ?_)
              clear hK K hH
              have hH := hH2
              clear hH2
              try simp only [List.getElem_toArray, List.getElem_cons_succ, List.getElem_cons_zero, Act.put, List.setIfInBounds_toArray, List.set_cons_zero, List.set_cons_succ]
              have HC := Lib.hid (ownsRow_mono hv2 HG.out.sz)
              replace HG := Lib.hid (HG.out.trans hg2)
              clear hg2 hv2
              obtain ⟨W, rfl⟩ : ∃ z, z = W2 := ⟨_, rfl⟩
              refine wpAnyH_ready (rs := [4, 12]) (by kernel_rfl) (by simp) ?_
              refine AllReadyH.cons rfl (fun K hK => ?_) (AllReadyH.cons rfl (fun K hK => ?_) (AllReadyH.nil))
              · skip
                have hgA := (Grow.refl W).alloc (.cells #[.int .i64 (x : Int)] 3)
                have hLn : LitAt (W.alloc (.cells #[.int .i64 (x : Int)] 3)) W.heap.size x := newsG W _ rfl (encI (x : Int)) 3
                go_simp
                refine hK.out _ _ ⟨hgA.blk hH.1, hgA.blk hH.2⟩ (fun hH2 => ?_)
                clear hK K hH
                have hH := hH2
                clear hH2
                try simp only [List.getElem_toArray, List.getElem_cons_succ, List.getElem_cons_zero, Act.put, List.setIfInBounds_toArray, List.set_cons_zero, List.set_cons_succ]
                generalize W.alloc (.cells #[.int .i64 (x : Int)] 3) = W2 at hgA hLn hH ⊢
                obtain ⟨b1, had⟩ : ∃ z, W.heap.size = z := ⟨_, rfl⟩
                rw [had] at hLn ⊢
                have HL1 := Lib.hid hLn
                replace HC := Lib.hid (hgA.owns HC.out)
                replace HG := Lib.hid (HG.out.trans hgA)
                clear hLn had hgA
                obtain ⟨W, rfl⟩ : ∃ z, z = W2 := ⟨_, rfl⟩
                revert hH
                revert HL1
                revert b1
                revert HC
                revert v9
                revert HG
                revert W
                exact key110.out
              · skip
                have hgA := (Grow.refl W).alloc (.cells #[.int .i64 (y : Int)] 3)
                have hLn : LitAt (W.alloc (.cells #[.int .i64 (y : Int)] 3)) W.heap.size y := newsG W _ rfl (encI (y : Int)) 3
                have HD2 := Lib.hid (own_ne HC.out (.inr (Nat.le_refl _)))
                go_simp
                refine hK.out _ _ ⟨hgA.blk hH.1, hgA.blk hH.2⟩ (fun hH2 => ?_)
                clear hK K hH
                have hH := hH2
                clear hH2
                try simp only [List.getElem_toArray, List.getElem_cons_succ, List.getElem_cons_zero, Act.put, List.setIfInBounds_toArray, List.set_cons_zero, List.set_cons_succ]
                generalize W.alloc (.cells #[.int .i64 (y : Int)] 3) = W2 at hgA hLn hH ⊢
                obtain ⟨b2, had⟩ : ∃ z, W.heap.size = z := ⟨_, rfl⟩
                replace HD2 := Lib.hid (show v9.ownBlock ≠ some b2 by rw [← had]; exact HD2.out)
                rw [had] at hLn ⊢
                have HL2 := Lib.hid hLn
                replace HC := Lib.hid (hgA.owns HC.out)
                replace HG := Lib.hid (HG.out.trans hgA)
                clear hLn had hgA
                obtain ⟨W, rfl⟩ : ∃ z, z = W2 := ⟨_, rfl⟩
                refine wpAnyH_ready (rs := [4]) (by kernel_rfl) (by simp) ?_
                refine AllReadyH.cons rfl (fun K hK => ?_) (AllReadyH.nil)
                have hgA := (Grow.refl W).alloc (.cells #[.int .i64 (x : Int)] 3)
                have hLn : LitAt (W.alloc (.cells #[.int .i64 (x : Int)] 3)) W.heap.size x := newsG W _ rfl (encI (x : Int)) 3
                go_simp
                refine hK.out _ _ ⟨hgA.blk hH.1, hgA.blk hH.2⟩ (fun hH2 => ?_)
                clear hK K hH
                have hH := hH2
                clear hH2
                try simp only [List.getElem_toArray, List.getElem_cons_succ, List.getElem_cons_zero, Act.put, List.setIfInBounds_toArray, List.set_cons_zero, List.set_cons_succ]
                generalize W.alloc (.cells #[.int .i64 (x : Int)] 3) = W2 at hgA hLn hH ⊢
                obtain ⟨b1, had⟩ : ∃ z, W.heap.size = z := ⟨_, rfl⟩
                rw [had] at hLn ⊢
                have HL1 := Lib.hid hLn
                replace HC := Lib.hid (hgA.owns HC.out)
                replace HL2 := Lib.hid (HL2.out.grow hgA)
                replace HG := Lib.hid (HG.out.trans hgA)
                clear hLn had hgA
                obtain ⟨W, rfl⟩ : ∃ z, z = W2 := ⟨_, rfl⟩
                revert hH
                revert HD2
                revert HL2
                revert b2
                revert HL1
                revert b1
                revert HC
                revert v9
                revert HG
                revert W
                exact key111.out
            · skip
              have hgA := (Grow.refl W).alloc (.cells #[.int .i64 (x : Int)] 3)
              have hLn : LitAt (W.alloc (.cells #[.int .i64 (x : Int)] 3)) W.heap.size x := newsG W _ rfl (encI (x : Int)) 3
              go_simp
              refine hK.out _ _ ⟨hgA.blk hH.1, hgA.blk hH.2⟩ (fun hH2 => ?_)
              clear hK K hH
              have hH := hH2
              clear hH2
              try simp only [List.getElem_toArray, List.getElem_cons_succ, List.getElem_cons_zero, Act.put, List.setIfInBounds_toArray, List.set_cons_zero, List.set_cons_succ]
              generalize W.alloc (.cells #[.int .i64 (x : Int)] 3) = W2 at hgA hLn hH ⊢
              obtain ⟨b1, had⟩ : ∃ z, W.heap.size = z := ⟨_, rfl⟩
              rw [had] at hLn ⊢
              have HL1 := Lib.hid hLn
              replace HG := Lib.hid (HG.out.trans hgA)
              clear hLn had hgA
              obtain ⟨W, rfl⟩ : ∃ z, z = W2 := ⟨_, rfl⟩
              refine wpAnyH_ready (rs := [2, 12]) (by kernel_rfl) (by simp) ?_
              refine AllReadyH.cons rfl (fun K hK => ?_) (AllReadyH.cons rfl (fun K hK => ?_) (AllReadyH.nil))
              · skip
                go_simp
                refine cloneR_any (natL S) _ _ (HS.out.grow HG.out) HLS.out _ ?_
                intro W2 v9 hg2 hv2
                go_wp2_with fail
                refine hK.out _ _ ⟨hg2.blk hH.1, hg2.blk hH.2⟩ (fun hH2 => ?_)
                clear hK K hH
                have hH := hH2
                clear hH2
                try simp only [List.getElem_toArray, List.getElem_cons_succ, List.getElem_cons_zero, Act.put, List.setIfInBounds_toArray, List.set_cons_zero, List.set_cons_succ]
                replace HL1 := Lib.hid (HL1.out.grow hg2)
                have HC := Lib.hid (ownsRow_mono hv2 HG.out.sz)
                replace HG := Lib.hid (HG.out.trans hg2)
                clear hg2 hv2
                obtain ⟨W, rfl⟩ : ∃ z, z = W2 := ⟨_, rfl⟩
                revert hH
                revert HL1
                revert b1
                revert HC
                revert v9
                revert HG
                revert W
                exact key110.out
              · skip
                have hgA := (Grow.refl W).alloc (.cells #[.int .i64 (y : Int)] 3)
                have hLn : LitAt (W.alloc (.cells #[.int .i64 (y : Int)] 3)) W.heap.size y := newsG W _ rfl (encI (y : Int)) 3
                go_simp
                refine hK.out _ _ ⟨hgA.blk hH.1, hgA.blk hH.2⟩ (fun hH2 => ?_)
                clear hK K hH
                have hH := hH2
                clear hH2
                try simp only [List.getElem_toArray, List.getElem_cons_succ, List.getElem_cons_zero, Act.put, List.setIfInBounds_toArray, List.set_cons_zero, List.set_cons_succ]
                generalize W.alloc (.cells #[.int .i64 (y : Int)] 3) = W2 at hgA hLn hH ⊢
                obtain ⟨b2, had⟩ : ∃ z, W.heap.size = z := ⟨_, rfl⟩
                rw [had] at hLn ⊢
                have HL2 := Lib.hid hLn
                replace HL1 := Lib.hid (HL1.out.grow hgA)
                replace HG := Lib.hid (HG.out.trans hgA)
                clear hLn had hgA
                obtain ⟨W, rfl⟩ : ∃ z, z = W2 := ⟨_, rfl⟩
                refine wpAnyH_ready (rs := [2]) (by kernel_rfl) (by simp) ?_
                refine AllReadyH.cons rfl (fun K hK => ?_) (AllReadyH.nil)
                go_simp
                refine cloneR_any (natL S) _ _ (HS.out.grow HG.out) HLS.out _ ?_
                intro W2 v9 hg2 hv2
                go_wp2_with fail
                refine hK.out _ _ ⟨hg2.blk hH.1, hg2.blk hH.2⟩ (fun hH2 => ?_)
                clear hK K hH
                have hH := hH2
                clear hH2
                try simp only [List.getElem_toArray, List.getElem_cons_succ, List.getElem_cons_zero, Act.put, List.setIfInBounds_toArray, List.set_cons_zero, List.set_cons_succ]
                have HD2 := Lib.hid (own_ne hv2 (.inl HL2.out.lt))
                replace HL1 := Lib.hid (HL1.out.grow hg2)
                replace HL2 := Lib.hid (HL2.out.grow hg2)
                have HC := Lib.hid (ownsRow_mono hv2 HG.out.sz)
                replace HG := Lib.hid (HG.out.trans hg2)
                clear hg2 hv2
                obtain ⟨W, rfl⟩ : ∃ z, z = W2 := ⟨_, rfl⟩
                revert hH
                revert HD2
                revert HL2
                revert b2
                revert HL1
                revert b1
                revert HC
                revert v9
                revert HG
                revert W
                exact key111.out
            · skip
              have hgA := (Grow.refl W).alloc (.cells #[.int .i64 (y : Int)] 3)
              have hLn : LitAt (W.alloc (.cells #[.int .i64 (y : Int)] 3)) W.heap.size y := newsG W _ rfl (encI (y : Int)) 3
              go_simp
              refine hK.out _ _ ⟨hgA.blk hH.1, hgA.blk hH.2⟩ (fun hH2 => ?_)
              clear hK K hH
              have hH := hH2
              clear hH2
              try simp only [List.getElem_toArray, List.getElem_cons_succ, List.getElem_cons_zero, Act.put, List.setIfInBounds_toArray, List.set_cons_zero, List.set_cons_succ]
              generalize W.alloc (.cells #[.int .i64 (y : Int)] 3) = W2 at hgA hLn hH ⊢
              obtain ⟨b2, had⟩ : ∃ z, W.heap.size = z := ⟨_, rfl⟩
              rw [had] at hLn ⊢
              have HL2 := Lib.hid hLn
              replace HG := Lib.hid (HG.out.trans hgA)
              clear hLn had hgA
              obtain ⟨W, rfl⟩ : ∃ z, z = W2 := ⟨_, rfl⟩
              refine wpAnyH_ready (rs := [2, 4]) (by kernel_rfl) (by simp) ?_
              refine AllReadyH.cons rfl (fun K hK => ?_) (AllReadyH.cons rfl (fun K hK => ?_) (AllReadyH.nil))
              · skip
                go_simp
                refine cloneR_any (natL S) _ _ (HS.out.grow HG.out) HLS.out _ ?_
                intro W2 v9 hg2 hv2
                go_wp2_with fail
                refine hK.out _ _ ⟨hg2.blk hH.1, hg2.blk hH.2⟩ (fun hH2 => ?_)
                clear hK K hH
                have hH := hH2
                clear hH2
                try simp only [List.getElem_toArray, List.getElem_cons_succ, List.getElem_cons_zero, Act.put, List.setIfInBounds_toArray, List.set_cons_zero, List.set_cons_succ]
                have HD2 := Lib.hid (own_ne hv2 (.inl HL2.out.lt))
                replace HL2 := Lib.hid (HL2.out.grow hg2)
                have HC := Lib.hid (ownsRow_mono hv2 HG.out.sz)
                replace HG := Lib.hid (HG.out.trans hg2)
                clear hg2 hv2
                obtain ⟨W, rfl⟩ : ∃ z, z = W2 := ⟨_, rfl⟩
                refine wpAnyH_ready (rs := [4]) (by kernel_rfl) (by simp) ?_
                refine AllReadyH.cons rfl (fun K hK => ?_) (AllReadyH.nil)
                have hgA := (Grow.refl W).alloc (.cells #[.int .i64 (x : Int)] 3)
                have hLn : LitAt (W.alloc (.cells #[.int .i64 (x : Int)] 3)) W.heap.size x := newsG W _ rfl (encI (x : Int)) 3
                go_simp
                refine hK.out _ _ ⟨hgA.blk hH.1, hgA.blk hH.2⟩ (fun hH2 => ?_)
                clear hK K hH
                have hH := hH2
                clear hH2
                try simp only [List.getElem_toArray, List.getElem_cons_succ, List.getElem_cons_zero, Act.put, List.setIfInBounds_toArray, List.set_cons_zero, List.set_cons_succ]
                generalize W.alloc (.cells #[.int .i64 (x : Int)] 3) = W2 at hgA hLn hH ⊢
                obtain ⟨b1, had⟩ : ∃ z, W.heap.size = z := ⟨_, rfl⟩
                rw [had] at hLn ⊢
                have HL1 := Lib.hid hLn
                replace HC := Lib.hid (hgA.owns HC.out)
                replace HL2 := Lib.hid (HL2.out.grow hgA)
                replace HG := Lib.hid (HG.out.trans hgA)
                clear hLn had hgA
                obtain ⟨W, rfl⟩ : ∃ z, z = W2 := ⟨_, rfl⟩
                revert hH
                revert HD2
                revert HL2
                revert b2
                revert HL1
                revert b1
                revert HC
                revert v9
                revert HG
                revert W
                exact key111.out
              · skip
                have hgA := (Grow.refl W).alloc (.cells #[.int .i64 (x : Int)] 3)
                have hLn : LitAt (W.alloc (.cells #[.int .i64 (x : Int)] 3)) W.heap.size x := newsG W _ rfl (encI (x : Int)) 3
                go_simp
                refine hK.out _ _ ⟨hgA.blk hH.1, hgA.blk hH.2⟩ (fun hH2 => ?_)
                clear hK K hH
                have hH := hH2
                clear hH2
                try simp only [List.getElem_toArray, List.getElem_cons_succ, List.getElem_cons_zero, Act.put, List.setIfInBounds_toArray, List.set_cons_zero, List.set_cons_succ]
                generalize W.alloc (.cells #[.int .i64 (x : Int)] 3) = W2 at hgA hLn hH ⊢
                obtain ⟨b1, had⟩ : ∃ z, W.heap.size = z := ⟨_, rfl⟩
                rw [had] at hLn ⊢
                have HL1 := Lib.hid hLn
                replace HL2 := Lib.hid (HL2.out.grow hgA)
                replace HG := Lib.hid (HG.out.trans hgA)
                clear hLn had hgA
                obtain ⟨W, rfl⟩ : ∃ z, z = W2 := ⟨_, rfl⟩
                refine wpAnyH_ready (rs := [2]) (by kernel_rfl) (by simp) ?_
                refine AllReadyH.cons rfl (fun K hK => ?_) (AllReadyH.nil)
                go_simp
                refine cloneR_any (natL S) _ _ (HS.out.grow HG.out) HLS.out _ ?_
                intro W2 v9 hg2 hv2
                go_wp2_with fail
                refine hK.out _ _ ⟨hg2.blk hH.1, hg2.blk hH.2⟩ (fun hH2 => ?_)
                clear hK K hH
                have hH := hH2
                clear hH2
                try simp only [List.getElem_toArray, List.getElem_cons_succ, List.getElem_cons_zero, Act.put, List.setIfInBounds_toArray, List.set_cons_zero, List.set_cons_succ]
                have HD2 := Lib.hid (own_ne hv2 (.inl HL2.out.lt))
                replace HL1 := Lib.hid (HL1.out.grow hg2)
                replace HL2 := Lib.hid (HL2.out.grow hg2)
                have HC := Lib.hid (ownsRow_mono hv2 HG.out.sz)
                replace HG := Lib.hid (HG.out.trans hg2)
                clear hg2 hv2
                obtain ⟨W, rfl⟩ : ∃ z, z = W2 := ⟨_, rfl⟩
                revert hH
                revert HD2
                revert HL2
                revert b2
                revert HL1
                revert b1
                revert HC
                revert v9
                revert HG
                revert W
                exact key111.out
          · intro W HG v9 HC b1 HL1 hH
            refine wpAnyH_ready (rs := [5, 12]) (by kernel_rfl) (by simp) ?_
            refine AllReadyH.cons rfl (fun K hK => ?_) (AllReadyH.cons rfl (fun K hK => ?_) (AllReadyH.nil))
            · skip
              refine step_appAt rfl (.tmp 9) (.tmp 11) 25 rfl w0.heap.size 3 Tryz.underlying25 info_int rfl (by decide) (by decide) encI encI_len encI_one v9 (natL S) (by simp [Act.eval]) HC.out ⟨b1, 0, none⟩ (x : Int) 1 (by simp [Act.eval]) HL1.out HLS2.out HG.out.sz ?_
              intro v12 W2 hown9 hgr9 hat9
              have hg9 : Grow w0 W2 := grown_below HC.out hgr9 (Nat.le_refl _) HG.out.sz HG.out
              have hHa := grown_keep HC.out hgr9 hzT hH.1
              have hHb := grown_keep HC.out hgr9 hzO hH.2
              have HX2 := Lib.hid (show IntsAt W2 v12 (natL (S ++ [x])) from by rw [HAPX.out]; exact slc_of_owns encI_len hown9)
              refine hK.out _ _ ⟨hHa, hHb⟩ (fun hH2 => ?_)
              clear hK K hH
              have hH := hH2
              clear hH2
              try simp only [List.getElem_toArray, List.getElem_cons_succ, List.getElem_cons_zero, Act.put, List.setIfInBounds_toArray, List.set_cons_zero, List.set_cons_succ]
              replace HG := Lib.hid hg9
              clear hown9 hgr9 hat9 hHa hHb hg9 HC HL1
              obtain ⟨W, rfl⟩ : ∃ z, z = W2 := ⟨_, rfl⟩
              refine wpAnyH_ready (rs := [6, 12]) (by kernel_rfl) (by simp) ?_
              refine AllReadyH.cons rfl (fun K hK => ?_) (AllReadyH.cons rfl (fun K hK => ?_) (AllReadyH.nil))
              · skip
                go_simp
                refine met_any T (S ++ [x]) _ _ _ (HX.out.grow HG.out) HX2.out HV.out HSX.out _ ?_
                intro W2 vm hg2 ho2
                obtain ⟨am, cm, rfl, jk⟩ := ho2.slc encI_len
                clear jk
                rw [natL_len, HLX.out]
                go_wp2_with fail
                refine hK.out _ _ ⟨hg2.blk hH.1, hg2.blk hH.2⟩ (fun hH2 => ?_)
                clear hK K hH
                have hH := hH2
                clear hH2
                try simp only [List.getElem_toArray, List.getElem_cons_succ, List.getElem_cons_zero, Act.put, List.setIfInBounds_toArray, List.set_cons_zero, List.set_cons_succ]
                clear HX2
                replace HG := Lib.hid (HG.out.trans hg2)
                clear hg2 ho2
                obtain ⟨W, rfl⟩ : ∃ z, z = W2 := ⟨_, rfl⟩
                refine wpAnyH_take (i := 7) (v := .int .i64 (LX : Nat)) rfl (by kernel_rfl) (by kernel_rfl) (by kernel_rfl) (fun _ _ _ h => h) (Or.inl ⟨by rfl, ?_⟩) hH ?_
                · intro w9 hw9
                  go_simp
                try simp only [List.getElem_toArray, List.getElem_cons_succ, List.getElem_cons_zero, Act.put, List.setIfInBounds_toArray, List.set_cons_zero, List.set_cons_succ]
                obtain ⟨a13, rfl⟩ : ∃ z, z = am := ⟨_, rfl⟩
                obtain ⟨c13, rfl⟩ : ∃ z, z = cm := ⟨_, rfl⟩
                refine wpAnyH_ready (rs := [10, 12]) (by kernel_rfl) (by simp) ?_
                refine AllReadyH.cons rfl (fun K hK => ?_) (AllReadyH.cons rfl (fun K hK => ?_) (AllReadyH.nil))
                · skip
                  go_simp
                  refine cloneR_any (natL S) _ _ (HS.out.grow HG.out) HLS.out _ ?_
                  intro W2 v17 hg2 hv2
                  go_wp2_with fail
                  refine hK.out _ _ ⟨hg2.blk hH.1, hg2.blk hH.2⟩ (fun hH2 => ?_)
                  clear hK K hH
                  have hH := hH2
                  clear hH2
                  try simp only [List.getElem_toArray, List.getElem_cons_succ, List.getElem_cons_zero, Act.put, List.setIfInBounds_toArray, List.set_cons_zero, List.set_cons_succ]
                  have HC := Lib.hid (ownsRow_mono hv2 HG.out.sz)
                  replace HG := Lib.hid (HG.out.trans hg2)
                  clear hg2 hv2
                  obtain ⟨W, rfl⟩ : ∃ z, z = W2 := ⟨_, rfl⟩
                  refine wpAnyH_ready (rs := [12]) (by kernel_rfl) (by simp) ?_
                  refine AllReadyH.cons rfl (fun K hK => ?_) (AllReadyH.nil)
                  have hgA := (Grow.refl W).alloc (.cells #[.int .i64 (y : Int)] 3)
                  have hLn : LitAt (W.alloc (.cells #[.int .i64 (y : Int)] 3)) W.heap.size y := newsG W _ rfl (encI (y : Int)) 3
                  have HD2 := Lib.hid (own_ne HC.out (.inr (Nat.le_refl _)))
                  go_simp
                  refine hK.out _ _ ⟨hgA.blk hH.1, hgA.blk hH.2⟩ (fun hH2 => ?_)
                  clear hK K hH
                  have hH := hH2
                  clear hH2
                  try simp only [List.getElem_toArray, List.getElem_cons_succ, List.getElem_cons_zero, Act.put, List.setIfInBounds_toArray, List.set_cons_zero, List.set_cons_succ]
                  generalize W.alloc (.cells #[.int .i64 (y : Int)] 3) = W2 at hgA hLn hH ⊢
                  obtain ⟨b2, had⟩ : ∃ z, W.heap.size = z := ⟨_, rfl⟩
                  replace HD2 := Lib.hid (show v17.ownBlock ≠ some b2 by rw [← had]; exact HD2.out)
                  rw [had] at hLn ⊢
                  have HL2 := Lib.hid hLn
                  replace HC := Lib.hid (hgA.owns HC.out)
                  replace HG := Lib.hid (HG.out.trans hgA)
                  clear hLn had hgA
                  obtain ⟨W, rfl⟩ : ∃ z, z = W2 := ⟨_, rfl⟩
                  revert hH
                  revert HD2
                  revert HL2
                  revert b2
                  revert HC
                  revert v17
                  revert c13
                  revert a13
                  revert v12
                  revert b1
                  revert v9
                  revert HG
                  revert W
                  exact key411.out
                · skip
                  have hgA := (Grow.refl W).alloc (.cells #[.int .i64 (y : Int)] 3)
                  have hLn : LitAt (W.alloc (.cells #[.int .i64 (y : Int)] 3)) W.heap.size y := newsG W _ rfl (encI (y : Int)) 3
                  go_simp
                  refine hK.out _ _ ⟨hgA.blk hH.1, hgA.blk hH.2⟩ (fun hH2 => ?_)
                  clear hK K hH
                  have hH := hH2
                  clear hH2
                  try simp only [List.getElem_toArray, List.getElem_cons_succ, List.getElem_cons_zero, Act.put, List.setIfInBounds_toArray, List.set_cons_zero, List.set_cons_succ]
                  generalize W.alloc (.cells #[.int .i64 (y : Int)] 3) = W2 at hgA hLn hH ⊢
                  obtain ⟨b2, had⟩ : ∃ z, W.heap.size = z := ⟨_, rfl⟩
                  rw [had] at hLn ⊢
                  have HL2 := Lib.hid hLn
                  replace HG := Lib.hid (HG.out.trans hgA)
                  clear hLn had hgA
                  obtain ⟨W, rfl⟩ : ∃ z, z = W2 := ⟨_, rfl⟩
                  revert hH
                  revert HL2
                  revert b2
                  revert c13
                  revert a13
                  revert v12
                  revert b1
                  revert v9
                  revert HG
                  revert W
                  exact key311.out
              · skip
                have hgA := (Grow.refl W).alloc (.cells #[.int .i64 (y : Int)] 3)
                have hLn : LitAt (W.alloc (.cells #[.int .i64 (y : Int)] 3)) W.heap.size y := newsG W _ rfl (encI (y : Int)) 3
                go_simp
                refine hK.out _ _ ⟨hgA.blk hH.1, hgA.blk hH.2⟩ (fun hH2 => ?_)
                clear hK K hH
                have hH := hH2
                clear hH2
                try simp only [List.getElem_toArray, List.getElem_cons_succ, List.getElem_cons_zero, Act.put, List.setIfInBounds_toArray, List.set_cons_zero, List.set_cons_succ]
                generalize W.alloc (.cells #[.int .i64 (y : Int)] 3) = W2 at hgA hLn hH ⊢
                obtain ⟨b2, had⟩ : ∃ z, W.heap.size = z := ⟨_, rfl⟩
                rw [had] at hLn ⊢
                have HL2 := Lib.hid hLn
                replace HX2 := Lib.hid (HX2.out.grow hgA)
                replace HG := Lib.hid (HG.out.trans hgA)
                clear hLn had hgA
                obtain ⟨W, rfl⟩ : ∃ z, z = W2 := ⟨_, rfl⟩
                revert hH
                revert HL2
                revert b2
                revert HX2
                revert v12
                revert b1
                revert v9
                revert HG
                revert W
                exact key211.out
            · skip
              have hgA := (Grow.refl W).alloc (.cells #[.int .i64 (y : Int)] 3)
              have hLn : LitAt (W.alloc (.cells #[.int .i64 (y : Int)] 3)) W.heap.size y := newsG W _ rfl (encI (y : Int)) 3
              have HD2 := Lib.hid (own_ne HC.out (.inr (Nat.le_refl _)))
              go_simp
              refine hK.out _ _ ⟨hgA.blk hH.1, hgA.blk hH.2⟩ (fun hH2 => ?_)
              clear hK K hH
              have hH := hH2
              clear hH2
              try simp only [List.getElem_toArray, List.getElem_cons_succ, List.getElem_cons_zero, Act.put, List.setIfInBounds_toArray, List.set_cons_zero, List.set_cons_succ]
              generalize W.alloc (.cells #[.int .i64 (y : Int)] 3) = W2 at hgA hLn hH ⊢
              obtain ⟨b2, had⟩ : ∃ z, W.heap.size = z := ⟨_, rfl⟩
              replace HD2 := Lib.hid (show v9.ownBlock ≠ some b2 by rw [← had]; exact HD2.out)
              rw [had] at hLn ⊢
              have HL2 := Lib.hid hLn
              replace HC := Lib.hid (hgA.owns HC.out)
              replace HL1 := Lib.hid (HL1.out.grow hgA)
              replace HG := Lib.hid (HG.out.trans hgA)
              clear hLn had hgA
              obtain ⟨W, rfl⟩ : ∃ z, z = W2 := ⟨_, rfl⟩
              revert hH
              revert HD2
              revert HL2
              revert b2
              revert HL1
              revert b1
              revert HC
              revert v9
              revert HG
              revert W
              exact key111.out
        · intro W HG v9 HC b1 HL1 b2 HL2 HD2 hH
          refine wpAnyH_ready (rs := [5]) (by kernel_rfl) (by simp) ?_
          refine AllReadyH.cons rfl (fun K hK => ?_) (AllReadyH.nil)
          refine step_appAt rfl (.tmp 9) (.tmp 11) 25 rfl w0.heap.size 3 Tryz.underlying25 info_int rfl (by decide) (by decide) encI encI_len encI_one v9 (natL S) (by simp [Act.eval]) HC.out ⟨b1, 0, none⟩ (x : Int) 1 (by simp [Act.eval]) HL1.out HLS2.out HG.out.sz ?_
          intro v12 W2 hown9 hgr9 hat9
          have hg9 : Grow w0 W2 := grown_below HC.out hgr9 (Nat.le_refl _) HG.out.sz HG.out
          have hHa := grown_keep HC.out hgr9 hzT hH.1
          have hHb := grown_keep HC.out hgr9 hzO hH.2
          have HX2 := Lib.hid (show IntsAt W2 v12 (natL (S ++ [x])) from by rw [HAPX.out]; exact slc_of_owns encI_len hown9)
          replace HL2 := Lib.hid (HL2.out.grown hgr9 HD2.out)
          refine hK.out _ _ ⟨hHa, hHb⟩ (fun hH2 => ?_)
          clear hK K hH
          have hH := hH2
          clear hH2
          try simp only [List.getElem_toArray, List.getElem_cons_succ, List.getElem_cons_zero, Act.put, List.setIfInBounds_toArray, List.set_cons_zero, List.set_cons_succ]
          replace HG := Lib.hid hg9
          clear hown9 hgr9 hat9 hHa hHb hg9 HC HL1 HD2
          obtain ⟨W, rfl⟩ : ∃ z, z = W2 := ⟨_, rfl⟩
          revert hH
          revert HL2
          revert b2
          revert HX2
          revert v12
          revert b1
          revert v9
          revert HG
          revert W
          exact key211.out
      · intro W HG v9 b1 v12 HX2 b2 HL2 hH
        refine wpAnyH_ready (rs := [6]) (by kernel_rfl) (by simp) ?_
        refine AllReadyH.cons rfl (fun K hK => ?_) (AllReadyH.nil)
        go_simp
        refine met_any T (S ++ [x]) _ _ _ (HX.out.grow HG.out) HX2.out HV.out HSX.out _ ?_
        intro W2 vm hg2 ho2
        obtain ⟨am, cm, rfl, jk⟩ := ho2.slc encI_len
        clear jk
        rw [natL_len, HLX.out]
        go_wp2_with fail
        refine hK.out _ _ ⟨hg2.blk hH.1, hg2.blk hH.2⟩ (fun hH2 => ?_)
        clear hK K hH
        have hH := hH2
        clear hH2
        try simp only [List.getElem_toArray, List.getElem_cons_succ, List.getElem_cons_zero, Act.put, List.setIfInBounds_toArray, List.set_cons_zero, List.set_cons_succ]
        clear HX2
        replace HL2 := Lib.hid (HL2.out.grow hg2)
        replace HG := Lib.hid (HG.out.trans hg2)
        clear hg2 ho2
        obtain ⟨W, rfl⟩ : ∃ z, z = W2 := ⟨_, rfl⟩
        refine wpAnyH_take (i := 7) (v := .int .i64 (LX : Nat)) rfl (by kernel_rfl) (by kernel_rfl) (by kernel_rfl) (fun _ _ _ h => h) (Or.inl ⟨by rfl, ?_⟩) hH ?_
        · intro w9 hw9
          go_simp
        try simp only [List.getElem_toArray, List.getElem_cons_succ, List.getElem_cons_zero, Act.put, List.setIfInBounds_toArray, List.set_cons_zero, List.set_cons_succ]
        obtain ⟨a13, rfl⟩ : ∃ z, z = am := ⟨_, rfl⟩
        obtain ⟨c13, rfl⟩ : ∃ z, z = cm := ⟨_, rfl⟩
        revert hH
        revert HL2
        revert b2
        revert c13
        revert a13
        revert v12
        revert b1
        revert v9
        revert HG
        revert W
        exact key311.out
    · intro W HG v9 b1 v12 a13 c13 b2 HL2 hH
      refine wpAnyH_ready (rs := [10]) (by kernel_rfl) (by simp) ?_
      refine AllReadyH.cons rfl (fun K hK => ?_) (AllReadyH.nil)
      go_simp
      refine cloneR_any (natL S) _ _ (HS.out.grow HG.out) HLS.out _ ?_
      intro W2 v17 hg2 hv2
      go_wp2_with fail
      refine hK.out _ _ ⟨hg2.blk hH.1, hg2.blk hH.2⟩ (fun hH2 => ?_)
      clear hK K hH
      have hH := hH2
      clear hH2
      try simp only [List.getElem_toArray, List.getElem_cons_succ, List.getElem_cons_zero, Act.put, List.setIfInBounds_toArray, List.set_cons_zero, List.set_cons_succ]
      have HD2 := Lib.hid (own_ne hv2 (.inl HL2.out.lt))
      replace HL2 := Lib.hid (HL2.out.grow hg2)
      have HC := Lib.hid (ownsRow_mono hv2 HG.out.sz)
      replace HG := Lib.hid (HG.out.trans hg2)
      clear hg2 hv2
      obtain ⟨W, rfl⟩ : ∃ z, z = W2 := ⟨_, rfl⟩
      revert hH
      revert HD2
      revert HL2
      revert b2
      revert HC
      revert v17
      revert c13
      revert a13
      revert v12
      revert b1
      revert v9
      revert HG
      revert W
      exact key411.out
  · intro W HG v9 b1 v12 a13 c13 v17 HC b2 HL2 HD2 hH
    refine wpAnyH_ready (rs := [13]) (by kernel_rfl) (by simp) ?_
    refine AllReadyH.cons rfl (fun K hK => ?_) (AllReadyH.nil)
    refine step_appAt rfl (.tmp 17) (.tmp 19) 25 rfl w0.heap.size 3 Tryz.underlying25 info_int rfl (by decide) (by decide) encI encI_len encI_one v17 (natL S) (by simp [Act.eval]) HC.out ⟨b2, 0, none⟩ (y : Int) 1 (by simp [Act.eval]) HL2.out HLS2.out HG.out.sz ?_
    intro v20 W2 hown9 hgr9 hat9
    have hg9 : Grow w0 W2 := grown_below HC.out hgr9 (Nat.le_refl _) HG.out.sz HG.out
    have hHa := grown_keep HC.out hgr9 hzT hH.1
    have hHb := grown_keep HC.out hgr9 hzO hH.2
    have HX2 := Lib.hid (show IntsAt W2 v20 (natL (S ++ [y])) from by rw [HAPY.out]; exact slc_of_owns encI_len hown9)
    refine hK.out _ _ ⟨hHa, hHb⟩ (fun hH2 => ?_)
    clear hK K hH
    have hH := hH2
    clear hH2
    try simp only [List.getElem_toArray, List.getElem_cons_succ, List.getElem_cons_zero, Act.put, List.setIfInBounds_toArray, List.set_cons_zero, List.set_cons_succ]
    replace HG := Lib.hid hg9
    clear hown9 hgr9 hat9 hHa hHb hg9 HC HL2 HD2
    obtain ⟨W, rfl⟩ : ∃ z, z = W2 := ⟨_, rfl⟩
    refine wpAnyH_ready (rs := [14]) (by kernel_rfl) (by simp) ?_
    refine AllReadyH.cons rfl (fun K hK => ?_) (AllReadyH.nil)
    go_simp
    refine met_any T (S ++ [y]) _ _ _ (HX.out.grow HG.out) HX2.out HV.out HSY.out _ ?_
    intro W2 vm hg2 ho2
    obtain ⟨am, cm, rfl, jk⟩ := ho2.slc encI_len
    clear jk
    rw [natL_len, HLY.out]
    go_wp2_with fail
    refine hK.out _ _ ⟨hg2.blk hH.1, hg2.blk hH.2⟩ (fun hH2 => ?_)
    clear hK K hH
    have hH := hH2
    clear hH2
    try simp only [List.getElem_toArray, List.getElem_cons_succ, List.getElem_cons_zero, Act.put, List.setIfInBounds_toArray, List.set_cons_zero, List.set_cons_succ]
    clear HX2
    replace HG := Lib.hid (HG.out.trans hg2)
    clear hg2 ho2
    obtain ⟨W, rfl⟩ : ∃ z, z = W2 := ⟨_, rfl⟩
    refine wpAnyH_take (i := 15) (v := .int .i64 (LY : Nat)) rfl (by kernel_rfl) (by kernel_rfl) (by kernel_rfl) (fun _ _ _ h => h) (Or.inl ⟨by rfl, ?_⟩) hH ?_
    · intro w9 hw9
      go_simp
    try simp only [List.getElem_toArray, List.getElem_cons_succ, List.getElem_cons_zero, Act.put, List.setIfInBounds_toArray, List.set_cons_zero, List.set_cons_succ]
    refine wpAnyH_take (i := 16) (v := .int .i64 ((LX : Nat) - (LY : Nat))) rfl (by kernel_rfl) (by kernel_rfl) (by kernel_rfl) (fun _ _ _ h => h) (Or.inl ⟨by rfl, ?_⟩) hH ?_
    · intro w9 hw9
      have q1 : IntKind.i64.wrap ((LX : Int) - (LY : Int)) = (LX : Int) - (LY : Int) := IntWalk.i64_in _ (by omega)
      go_simp
    try simp only [List.getElem_toArray, List.getElem_cons_succ, List.getElem_cons_zero, Act.put, List.setIfInBounds_toArray, List.set_cons_zero, List.set_cons_succ]
    refine wpAnyH_take (i := 17) (v := .int .i64 ((LX : Nat) - (LY : Nat))) rfl (by kernel_rfl) (by kernel_rfl) (by kernel_rfl) (fun _ _ _ h => h) (Or.inl ⟨by rfl, ?_⟩) hH ?_
    · intro w9 hw9
      go_simp
    try simp only [List.getElem_toArray, List.getElem_cons_succ, List.getElem_cons_zero, Act.put, List.setIfInBounds_toArray, List.set_cons_zero, List.set_cons_succ]
    refine wpAnyH_done (by kernel_rfl) ?_ _
    have HF := Lib.hid (HR.out _ (HG00.out.trans HG.out))
    clear hH
    go_wp2_with fail
    exact HF.out
end Go.Proofs.YtfbfkkaepgcggaaGreat
