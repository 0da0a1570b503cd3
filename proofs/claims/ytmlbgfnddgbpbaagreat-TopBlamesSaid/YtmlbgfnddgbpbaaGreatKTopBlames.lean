/-
The statement TopBlames: the blocker of the diagnoses is what is least of the slices; what is to blame hits all slices, has a diagnosis in it and passes the failing tests; no diagnosis is smaller than there are slices apart, for all programs and tests. No condition.
-/
import Derived.Test.YtmlbgfnddgbpbaaGreatD34
import Derived.Test.YtmlbgfnddgbpbaaGreatD19
import Derived.Test.YtmlbgfnddgbpbaaGreatD31
import Derived.Test.YtmlbgfnddgbpbaaGreatD14
import Derived.Deep.CutRange
import Derived.ProofKit
import Derived.Lib.SmallJoins
import Derived.Test.YtmlbgfnddgbpbaaGreatD23
namespace Go.Proofs.YtmlbgfnddgbpbaaGreat
open Go.RowKit
open Mk Bm

theorem any_takeL {α : Type} {L : List α} {n : Nat} {u : α} (f : α → Bool) (h : L[n]? = some u) : (L.take (n + 1)).any f = ((L.take n).any f || f u) := by rw [List.take_add_one, h, List.any_append]; simp
theorem all_takeL {α : Type} {L : List α} {n : Nat} {u : α} (f : α → Bool) (h : L[n]? = some u) : (L.take (n + 1)).all f = ((L.take n).all f && f u) := by rw [List.take_add_one, h, List.all_append]; simp
theorem exb_fs : (fsO [[0, 1], [1, 2]]).length = 1 := by decide +kernel
theorem exb_fb : fsB [[0, 1], [1, 2]] = true := by decide +kernel
/-- What is known of the lines to blame. -/
theorem bd_mem {p : List Ln} {ts : List Tst} {n : Int} (hc : chkT p ts = 0) (hn : n = 1 ∨ n = 2) : bdE p ts n = 0 ∧ ∀ x ∈ bdO p ts n, lnE p x = 0 ∧ blm p ts x = true ∧ x.length ≤ 2 := by
  have he : bdE p ts n = 0 := by unfold bdE; rw [if_pos hc]; rcases hn with rfl | rfl <;> rfl
  refine ⟨he, fun x hx => ?_⟩
  unfold bdO at hx
  rw [he, ifOK_ok] at hx
  have := (mem_bmd (by rcases hn with rfl | rfl <;> decide)).1 hx
  exact ⟨this.2.1, this.2.2, (lnE_ok.1 this.2.1).2.2.1⟩
theorem bd_part {p : List Ln} {ts : List Tst} {x : List Int} (hc : chkT p ts = 0) (h1 : lnE p x = 0) (h2 : blm p ts x = true) : ∃ d ∈ bkM (slcs p ts), ∀ y ∈ d, y ∈ x := hit_part (lnE_set (chkT_ok.1 hc).1 h1) (blm_hits hc h2)
theorem bd_can {p : List Ln} {ts : List Tst} {x : List Int} {i : Int} (hc : chkT p ts = 0) (h1 : lnE p x = 0) (h2 : blm p ts x = true) (hi : i ∈ whereL (fun t => !passM p t) ts) : ∃ (k : Nat) (t : Tst), i = k ∧ ts[k]? = some t ∧ cpE p t x = 0 ∧ (cpO p t x).isSome = true ∧ psE p t x ((cpO p t x).getD []) = 0 := by
  obtain ⟨k, t, e, ht, hf⟩ := mem_whereL.1 hi
  have hm := List.mem_of_getElem? ht
  have hp := List.all_eq_true.1 h2 t hm
  have hf2 : passM p t = false := by simpa using hf
  rw [hf2, Bool.false_or] at hp
  obtain ⟨hv, hvt⟩ := chkT_ok.1 hc
  have hc1 : chkT p [t] = 0 := chkT_ok.2 ⟨hv, valT_ok.2 ⟨by simp, fun u hu => by simp at hu; subst hu; exact (valT_ok.1 hvt).2 _ hm⟩⟩
  have he : cpE p t x = 0 := by unfold cpE; rw [if_pos hc1, h1]
  have ho : (cpO p t x).isSome = true := by unfold cpO; rw [if_pos he]; exact hp
  obtain ⟨vs, hvs⟩ := Option.isSome_iff_exists.1 ho
  exact ⟨k, t, e, ht, he, ho, by rw [hvs]; exact cp_passes hvs⟩

set_option maxRecDepth 100000 in
set_option maxHeartbeats 64000000 in
theorem topBlames_any (p : List Ln) (l : List Tst) (w : World) (vp vl : Value) (hp : LinesAt w vp p) (hl : TestsAt w vl l) (R : Ending → World → Prop) (hR : ∀ w', Grow w w' → R (.returned (.bool true)) w') :
    Calls Tryz.prog 16 #[vp, vl] w R := by
  have HR := Lib.hid hR
  have HP_ := Lib.hid hp
  obtain ⟨adp, cpp, rfl, qp1, qp2, _⟩ := hp
  have HL_ := Lib.hid hl
  obtain ⟨⟨adl, cpl, rfl, ql1, ql2, _⟩, _⟩ := hl
  clear hR
  obtain ⟨gq0, hgq0⟩ : ∃ z, decide (100 < p.length) = z := ⟨_, rfl⟩
  have HGD0 := Lib.hid hgq0
  clear hgq0
  cases gq0 with
  | true =>
    go_enter Tryz.func16, Tryz.ntmps16
    go_wp2_with fail
    obtain ⟨k0, k1, k2⟩ := heaps3 w (.cells #[.int .i64 0, .int .i64 1] 3) (.cells #[.int .i64 1, .int .i64 2] 3) (.cells #[.slice (some ⟨w.heap.size, 0, none⟩) 2 2, .slice (some ⟨w.heap.size + 1, 0, none⟩) 2 2] 29)
    have hgW : Grow w (((w.alloc (.cells #[.int .i64 0, .int .i64 1] 3)).alloc (.cells #[.int .i64 1, .int .i64 2] 3)).alloc (.cells #[.slice (some ⟨w.heap.size, 0, none⟩) 2 2, .slice (some ⟨w.heap.size + 1, 0, none⟩) 2 2] 29)) := (((Grow.refl w).alloc _).alloc _).alloc _
    generalize ((w.alloc (.cells #[.int .i64 0, .int .i64 1] 3)).alloc (.cells #[.int .i64 1, .int .i64 2] 3)).alloc (.cells #[.slice (some ⟨w.heap.size, 0, none⟩) 2 2, .slice (some ⟨w.heap.size + 1, 0, none⟩) 2 2] 29) = W at k0 k1 k2 hgW ⊢
    obtain ⟨q, hq⟩ : ∃ b, w.heap.size = b := ⟨_, rfl⟩
    rw [hq] at k0 k1 k2 ⊢
    have hf0 : FamAt W (.slice (some ⟨q + 1 + 1, 0, none⟩) 2 2) [[0, 1], [1, 2]] := fam_blk (L := [⟨some ⟨q, 0, none⟩, 2, 2, [0, 1]⟩, ⟨some ⟨q + 1, 0, none⟩, 2, 2, [1, 2]⟩]) k2 (by simp) (fun t ht => by
      rcases List.mem_cons.1 ht with rfl | ht
      · exact ints_blk (xs := [0, 1]) k0 (by decide)
      · simp at ht; subst ht; exact ints_blk (xs := [1, 2]) k1 (by decide))
    clear k0 k1 k2 hq
    have hgr1 : Grow w W := by first | exact hgW | exact Grow.trans ((Grow.refl _).alloc _) hgW | exact Grow.trans (((Grow.refl _).alloc _).alloc _) hgW | exact Grow.trans ((((Grow.refl _).alloc _).alloc _).alloc _) hgW | exact Grow.trans (((((Grow.refl _).alloc _).alloc _).alloc _).alloc _) hgW | exact Grow.trans ((Grow.refl _).drewN _) hgW
    have HP_1 := Lib.hid (HP_.out.grow hgr1)
    have HL_1 := Lib.hid (HL_.out.grow hgr1)
    have GCH1 := Lib.hid hgr1
    clear hgW hgr1 HP_ HL_
    have HF0 := Lib.hid hf0
    clear hf0
    refine Smallest_any [[0, 1], [1, 2]] _ _ HF0.out _ ?_
    intro wz2 hg2 
    have hgr2 : Grow W wz2 := by first | exact hg2 | exact Grow.trans ((Grow.refl _).alloc _) hg2 | exact Grow.trans (((Grow.refl _).alloc _).alloc _) hg2 | exact Grow.trans ((((Grow.refl _).alloc _).alloc _).alloc _) hg2 | exact Grow.trans (((((Grow.refl _).alloc _).alloc _).alloc _).alloc _) hg2 | exact Grow.trans ((Grow.refl _).drewN _) hg2
    have HP_2 := Lib.hid (HP_1.out.grow hgr2)
    have HL_2 := Lib.hid (HL_1.out.grow hgr2)
    have GCH2 := Lib.hid (GCH1.out.trans hgr2)
    clear hg2 hgr2 HP_1 HL_1 GCH1
    rw [exb_fs, exb_fb, ex_val]
    go_wp2_with fail
    refine long1_any p _ _ (by first | exact HP_2.out | exact HP_2.out.grow ((Grow.refl _).alloc _) | exact HP_2.out.grow (((Grow.refl _).alloc _).alloc _) | exact HP_2.out.grow ((((Grow.refl _).alloc _).alloc _).alloc _) | exact HP_2.out.grow (((((Grow.refl _).alloc _).alloc _).alloc _).alloc _) | exact HP_2.out.grow ((Grow.refl _).drewN _)) _ ?_
    rw [HGD0.out]
    go_wp2_with fail
    first | exact HR.out _ (GCH2.out) | exact HR.out _ (Grow.trans GCH2.out ((Grow.refl _).alloc _)) | exact HR.out _ (Grow.trans GCH2.out (((Grow.refl _).alloc _).alloc _)) | exact HR.out _ (Grow.trans GCH2.out ((((Grow.refl _).alloc _).alloc _).alloc _)) | exact HR.out _ (Grow.trans GCH2.out (((((Grow.refl _).alloc _).alloc _).alloc _).alloc _)) | exact HR.out _ (Grow.trans GCH2.out ((Grow.refl _).drewN _))
  | false =>
    obtain ⟨gq1, hgq1⟩ : ∃ z, manyT l = z := ⟨_, rfl⟩
    have HGD1 := Lib.hid hgq1
    clear hgq1
    cases gq1 with
    | true =>
      go_enter Tryz.func16, Tryz.ntmps16
      go_wp2_with fail
      obtain ⟨k0, k1, k2⟩ := heaps3 w (.cells #[.int .i64 0, .int .i64 1] 3) (.cells #[.int .i64 1, .int .i64 2] 3) (.cells #[.slice (some ⟨w.heap.size, 0, none⟩) 2 2, .slice (some ⟨w.heap.size + 1, 0, none⟩) 2 2] 29)
      have hgW : Grow w (((w.alloc (.cells #[.int .i64 0, .int .i64 1] 3)).alloc (.cells #[.int .i64 1, .int .i64 2] 3)).alloc (.cells #[.slice (some ⟨w.heap.size, 0, none⟩) 2 2, .slice (some ⟨w.heap.size + 1, 0, none⟩) 2 2] 29)) := (((Grow.refl w).alloc _).alloc _).alloc _
      generalize ((w.alloc (.cells #[.int .i64 0, .int .i64 1] 3)).alloc (.cells #[.int .i64 1, .int .i64 2] 3)).alloc (.cells #[.slice (some ⟨w.heap.size, 0, none⟩) 2 2, .slice (some ⟨w.heap.size + 1, 0, none⟩) 2 2] 29) = W at k0 k1 k2 hgW ⊢
      obtain ⟨q, hq⟩ : ∃ b, w.heap.size = b := ⟨_, rfl⟩
      rw [hq] at k0 k1 k2 ⊢
      have hf0 : FamAt W (.slice (some ⟨q + 1 + 1, 0, none⟩) 2 2) [[0, 1], [1, 2]] := fam_blk (L := [⟨some ⟨q, 0, none⟩, 2, 2, [0, 1]⟩, ⟨some ⟨q + 1, 0, none⟩, 2, 2, [1, 2]⟩]) k2 (by simp) (fun t ht => by
        rcases List.mem_cons.1 ht with rfl | ht
        · exact ints_blk (xs := [0, 1]) k0 (by decide)
        · simp at ht; subst ht; exact ints_blk (xs := [1, 2]) k1 (by decide))
      clear k0 k1 k2 hq
      have hgr1 : Grow w W := by first | exact hgW | exact Grow.trans ((Grow.refl _).alloc _) hgW | exact Grow.trans (((Grow.refl _).alloc _).alloc _) hgW | exact Grow.trans ((((Grow.refl _).alloc _).alloc _).alloc _) hgW | exact Grow.trans (((((Grow.refl _).alloc _).alloc _).alloc _).alloc _) hgW | exact Grow.trans ((Grow.refl _).drewN _) hgW
      have HP_1 := Lib.hid (HP_.out.grow hgr1)
      have HL_1 := Lib.hid (HL_.out.grow hgr1)
      have GCH1 := Lib.hid hgr1
      clear hgW hgr1 HP_ HL_
      have HF0 := Lib.hid hf0
      clear hf0
      refine Smallest_any [[0, 1], [1, 2]] _ _ HF0.out _ ?_
      intro wz2 hg2 
      have hgr2 : Grow W wz2 := by first | exact hg2 | exact Grow.trans ((Grow.refl _).alloc _) hg2 | exact Grow.trans (((Grow.refl _).alloc _).alloc _) hg2 | exact Grow.trans ((((Grow.refl _).alloc _).alloc _).alloc _) hg2 | exact Grow.trans (((((Grow.refl _).alloc _).alloc _).alloc _).alloc _) hg2 | exact Grow.trans ((Grow.refl _).drewN _) hg2
      have HP_2 := Lib.hid (HP_1.out.grow hgr2)
      have HL_2 := Lib.hid (HL_1.out.grow hgr2)
      have GCH2 := Lib.hid (GCH1.out.trans hgr2)
      clear hg2 hgr2 HP_1 HL_1 GCH1
      rw [exb_fs, exb_fb, ex_val]
      go_wp2_with fail
      refine long1_any p _ _ (by first | exact HP_2.out | exact HP_2.out.grow ((Grow.refl _).alloc _) | exact HP_2.out.grow (((Grow.refl _).alloc _).alloc _) | exact HP_2.out.grow ((((Grow.refl _).alloc _).alloc _).alloc _) | exact HP_2.out.grow (((((Grow.refl _).alloc _).alloc _).alloc _).alloc _) | exact HP_2.out.grow ((Grow.refl _).drewN _)) _ ?_
      rw [HGD0.out]
      go_wp2_with fail
      refine manyT_any l _ _ (by first | exact HL_2.out | exact HL_2.out.grow ((Grow.refl _).alloc _) | exact HL_2.out.grow (((Grow.refl _).alloc _).alloc _) | exact HL_2.out.grow ((((Grow.refl _).alloc _).alloc _).alloc _) | exact HL_2.out.grow (((((Grow.refl _).alloc _).alloc _).alloc _).alloc _) | exact HL_2.out.grow ((Grow.refl _).drewN _)) _ ?_
      intro wz3 hg3 
      have hgr3 : Grow wz2 wz3 := by first | exact hg3 | exact Grow.trans ((Grow.refl _).alloc _) hg3 | exact Grow.trans (((Grow.refl _).alloc _).alloc _) hg3 | exact Grow.trans ((((Grow.refl _).alloc _).alloc _).alloc _) hg3 | exact Grow.trans (((((Grow.refl _).alloc _).alloc _).alloc _).alloc _) hg3 | exact Grow.trans ((Grow.refl _).drewN _) hg3
      have HP_3 := Lib.hid (HP_2.out.grow hgr3)
      have HL_3 := Lib.hid (HL_2.out.grow hgr3)
      have GCH3 := Lib.hid (GCH2.out.trans hgr3)
      clear hg3 hgr3 HP_2 HL_2 GCH2
      rw [HGD1.out]
      go_wp2_with fail
      first | exact HR.out _ (GCH3.out) | exact HR.out _ (Grow.trans GCH3.out ((Grow.refl _).alloc _)) | exact HR.out _ (Grow.trans GCH3.out (((Grow.refl _).alloc _).alloc _)) | exact HR.out _ (Grow.trans GCH3.out ((((Grow.refl _).alloc _).alloc _).alloc _)) | exact HR.out _ (Grow.trans GCH3.out (((((Grow.refl _).alloc _).alloc _).alloc _).alloc _)) | exact HR.out _ (Grow.trans GCH3.out ((Grow.refl _).drewN _))
    | false =>
      obtain ⟨e, he⟩ : ∃ z, chkT p l = z := ⟨_, rfl⟩
      have HE := Lib.hid he
      obtain ⟨FS, hFS⟩ : ∃ z, slcO p l = z := ⟨_, rfl⟩
      have HA := Lib.hid hFS
      obtain ⟨D, hD⟩ : ∃ z, dgO p l = z := ⟨_, rfl⟩
      have HC := Lib.hid hD
      obtain ⟨FL, hFL⟩ : ∃ z, ifOK (chkT p l) (whereL (fun t => !passM p t) l) = z := ⟨_, rfl⟩
      have HFL := Lib.hid hFL
      by_cases h0 : e = 0
      rotate_left
      · have t1 : (e != 0) = true := by simpa using h0
        clear h0 he hFS hD hFL
        go_enter Tryz.func16, Tryz.ntmps16
        go_wp2_with fail
        obtain ⟨k0, k1, k2⟩ := heaps3 w (.cells #[.int .i64 0, .int .i64 1] 3) (.cells #[.int .i64 1, .int .i64 2] 3) (.cells #[.slice (some ⟨w.heap.size, 0, none⟩) 2 2, .slice (some ⟨w.heap.size + 1, 0, none⟩) 2 2] 29)
        have hgW : Grow w (((w.alloc (.cells #[.int .i64 0, .int .i64 1] 3)).alloc (.cells #[.int .i64 1, .int .i64 2] 3)).alloc (.cells #[.slice (some ⟨w.heap.size, 0, none⟩) 2 2, .slice (some ⟨w.heap.size + 1, 0, none⟩) 2 2] 29)) := (((Grow.refl w).alloc _).alloc _).alloc _
        generalize ((w.alloc (.cells #[.int .i64 0, .int .i64 1] 3)).alloc (.cells #[.int .i64 1, .int .i64 2] 3)).alloc (.cells #[.slice (some ⟨w.heap.size, 0, none⟩) 2 2, .slice (some ⟨w.heap.size + 1, 0, none⟩) 2 2] 29) = W at k0 k1 k2 hgW ⊢
        obtain ⟨q, hq⟩ : ∃ b, w.heap.size = b := ⟨_, rfl⟩
        rw [hq] at k0 k1 k2 ⊢
        have hf0 : FamAt W (.slice (some ⟨q + 1 + 1, 0, none⟩) 2 2) [[0, 1], [1, 2]] := fam_blk (L := [⟨some ⟨q, 0, none⟩, 2, 2, [0, 1]⟩, ⟨some ⟨q + 1, 0, none⟩, 2, 2, [1, 2]⟩]) k2 (by simp) (fun t ht => by
          rcases List.mem_cons.1 ht with rfl | ht
          · exact ints_blk (xs := [0, 1]) k0 (by decide)
          · simp at ht; subst ht; exact ints_blk (xs := [1, 2]) k1 (by decide))
        clear k0 k1 k2 hq
        have hgr1 : Grow w W := by first | exact hgW | exact Grow.trans ((Grow.refl _).alloc _) hgW | exact Grow.trans (((Grow.refl _).alloc _).alloc _) hgW | exact Grow.trans ((((Grow.refl _).alloc _).alloc _).alloc _) hgW | exact Grow.trans (((((Grow.refl _).alloc _).alloc _).alloc _).alloc _) hgW | exact Grow.trans ((Grow.refl _).drewN _) hgW
        have HP_1 := Lib.hid (HP_.out.grow hgr1)
        have HL_1 := Lib.hid (HL_.out.grow hgr1)
        have GCH1 := Lib.hid hgr1
        clear hgW hgr1 HP_ HL_
        have HF0 := Lib.hid hf0
        clear hf0
        refine Smallest_any [[0, 1], [1, 2]] _ _ HF0.out _ ?_
        intro wz2 hg2 
        have hgr2 : Grow W wz2 := by first | exact hg2 | exact Grow.trans ((Grow.refl _).alloc _) hg2 | exact Grow.trans (((Grow.refl _).alloc _).alloc _) hg2 | exact Grow.trans ((((Grow.refl _).alloc _).alloc _).alloc _) hg2 | exact Grow.trans (((((Grow.refl _).alloc _).alloc _).alloc _).alloc _) hg2 | exact Grow.trans ((Grow.refl _).drewN _) hg2
        have HP_2 := Lib.hid (HP_1.out.grow hgr2)
        have HL_2 := Lib.hid (HL_1.out.grow hgr2)
        have GCH2 := Lib.hid (GCH1.out.trans hgr2)
        clear hg2 hgr2 HP_1 HL_1 GCH1
        rw [exb_fs, exb_fb, ex_val]
        go_wp2_with fail
        refine long1_any p _ _ (by first | exact HP_2.out | exact HP_2.out.grow ((Grow.refl _).alloc _) | exact HP_2.out.grow (((Grow.refl _).alloc _).alloc _) | exact HP_2.out.grow ((((Grow.refl _).alloc _).alloc _).alloc _) | exact HP_2.out.grow (((((Grow.refl _).alloc _).alloc _).alloc _).alloc _) | exact HP_2.out.grow ((Grow.refl _).drewN _)) _ ?_
        rw [HGD0.out]
        go_wp2_with fail
        refine manyT_any l _ _ (by first | exact HL_2.out | exact HL_2.out.grow ((Grow.refl _).alloc _) | exact HL_2.out.grow (((Grow.refl _).alloc _).alloc _) | exact HL_2.out.grow ((((Grow.refl _).alloc _).alloc _).alloc _) | exact HL_2.out.grow (((((Grow.refl _).alloc _).alloc _).alloc _).alloc _) | exact HL_2.out.grow ((Grow.refl _).drewN _)) _ ?_
        intro wz3 hg3 
        have hgr3 : Grow wz2 wz3 := by first | exact hg3 | exact Grow.trans ((Grow.refl _).alloc _) hg3 | exact Grow.trans (((Grow.refl _).alloc _).alloc _) hg3 | exact Grow.trans ((((Grow.refl _).alloc _).alloc _).alloc _) hg3 | exact Grow.trans (((((Grow.refl _).alloc _).alloc _).alloc _).alloc _) hg3 | exact Grow.trans ((Grow.refl _).drewN _) hg3
        have HP_3 := Lib.hid (HP_2.out.grow hgr3)
        have HL_3 := Lib.hid (HL_2.out.grow hgr3)
        have GCH3 := Lib.hid (GCH2.out.trans hgr3)
        clear hg3 hgr3 HP_2 HL_2 GCH2
        rw [HGD1.out]
        go_wp2_with fail
        refine Slices_any p l _ _ _ (by first | exact HP_3.out | exact HP_3.out.grow ((Grow.refl _).alloc _) | exact HP_3.out.grow (((Grow.refl _).alloc _).alloc _) | exact HP_3.out.grow ((((Grow.refl _).alloc _).alloc _).alloc _) | exact HP_3.out.grow (((((Grow.refl _).alloc _).alloc _).alloc _).alloc _) | exact HP_3.out.grow ((Grow.refl _).drewN _)) (by first | exact HL_3.out | exact HL_3.out.grow ((Grow.refl _).alloc _) | exact HL_3.out.grow (((Grow.refl _).alloc _).alloc _) | exact HL_3.out.grow ((((Grow.refl _).alloc _).alloc _).alloc _) | exact HL_3.out.grow (((((Grow.refl _).alloc _).alloc _).alloc _).alloc _) | exact HL_3.out.grow ((Grow.refl _).drewN _)) _ ?_
        intro wz4 x4_0 hg4 hx4_0
        have hgr4 : Grow wz3 wz4 := by first | exact hg4 | exact Grow.trans ((Grow.refl _).alloc _) hg4 | exact Grow.trans (((Grow.refl _).alloc _).alloc _) hg4 | exact Grow.trans ((((Grow.refl _).alloc _).alloc _).alloc _) hg4 | exact Grow.trans (((((Grow.refl _).alloc _).alloc _).alloc _).alloc _) hg4 | exact Grow.trans ((Grow.refl _).drewN _) hg4
        have HP_4 := Lib.hid (HP_3.out.grow hgr4)
        have HL_4 := Lib.hid (HL_3.out.grow hgr4)
        have GCH4 := Lib.hid (GCH3.out.trans hgr4)
        clear hg4 hgr4 HP_3 HL_3 GCH3
        rw [HA.out] at hx4_0
        have hyHFAMS_4 := hx4_0
        have HFAMS_4 := Lib.hid hyHFAMS_4
        obtain ⟨aHFAMS_4, cHFAMS_4, rfl, qHFAMS_41, qHFAMS_42⟩ := FamAt.out hyHFAMS_4
        clear hx4_0
        rw [HE.out]
        go_wp2_with fail
        first | exact HR.out _ (GCH4.out) | exact HR.out _ (Grow.trans GCH4.out ((Grow.refl _).alloc _)) | exact HR.out _ (Grow.trans GCH4.out (((Grow.refl _).alloc _).alloc _)) | exact HR.out _ (Grow.trans GCH4.out ((((Grow.refl _).alloc _).alloc _).alloc _)) | exact HR.out _ (Grow.trans GCH4.out (((((Grow.refl _).alloc _).alloc _).alloc _).alloc _)) | exact HR.out _ (Grow.trans GCH4.out ((Grow.refl _).drewN _))
      subst h0
      have HCK := Lib.hid he
      have hA2 : FS = slcs p l := by rw [← hFS]; unfold slcO; rw [he, ifOK_ok]
      have hC2 : D = bkM FS := by rw [← hD, hA2]; unfold dgO; rw [he, ifOK_ok]
      have hF2 : FL = whereL (fun t => !passM p t) l := by rw [← hFL, he, ifOK_ok]
      have hv : valF FS = 0 := by rw [hA2]; exact slcs_val he
      have hvd : valF D = 0 := by rw [hC2]; exact bk_val _
      have HV := Lib.hid hv
      have HVD := Lib.hid hvd
      have hbk : bkO D = leO FS := by unfold bkO leO; rw [hvd, hv, ifOK_ok, ifOK_ok, hC2]; exact bk_bk hv
      obtain ⟨Z, hZ⟩ : ∃ z, leO FS = z := ⟨_, rfl⟩
      have HZ := Lib.hid hZ
      have HBK := Lib.hid (hbk.trans hZ)
      have hlen : FS.length = FL.length := by rw [hA2, hF2]; exact slcs_length p l
      have hll : FL.length ≤ l.length := by rw [hF2]; exact whereN_len _ l _
      have HSL := Lib.hid hA2
      have HDB := Lib.hid hC2
      have HFW := Lib.hid hF2
      obtain ⟨AP, hAP⟩ : ∃ z, apE FS = z := ⟨_, rfl⟩
      have HAP := Lib.hid hAP
      have HLE := Lib.hid (fun (x : List Int) (hx : x ∈ D) => show AP.length ≤ x.length by rw [← hAP]; unfold apE; rw [hv, ifOK_ok, nI_len]; exact apart_le (hC2 ▸ hx))
      have HDH := Lib.hid (fun (x : List Int) (hx : x ∈ D) => bk_hits (f := FS) hv (hC2 ▸ hx))
      have t2 : ((FS.length : Int) != (FL.length : Int)) = false := by rw [hlen]; simp
      have t3 : ¬ ((FL.length : Int) > (l.length : Int)) := by omega
      have HLN := Lib.hid hlen
      have HLL := Lib.hid hll
      clear he hFS hD hFL hA2 hC2 hF2 hv hvd hbk hZ hlen hll hAP
      go_enter Tryz.func16, Tryz.ntmps16
      go_wp2_with fail
      obtain ⟨k0, k1, k2⟩ := heaps3 w (.cells #[.int .i64 0, .int .i64 1] 3) (.cells #[.int .i64 1, .int .i64 2] 3) (.cells #[.slice (some ⟨w.heap.size, 0, none⟩) 2 2, .slice (some ⟨w.heap.size + 1, 0, none⟩) 2 2] 29)
      have hgW : Grow w (((w.alloc (.cells #[.int .i64 0, .int .i64 1] 3)).alloc (.cells #[.int .i64 1, .int .i64 2] 3)).alloc (.cells #[.slice (some ⟨w.heap.size, 0, none⟩) 2 2, .slice (some ⟨w.heap.size + 1, 0, none⟩) 2 2] 29)) := (((Grow.refl w).alloc _).alloc _).alloc _
      generalize ((w.alloc (.cells #[.int .i64 0, .int .i64 1] 3)).alloc (.cells #[.int .i64 1, .int .i64 2] 3)).alloc (.cells #[.slice (some ⟨w.heap.size, 0, none⟩) 2 2, .slice (some ⟨w.heap.size + 1, 0, none⟩) 2 2] 29) = W at k0 k1 k2 hgW ⊢
      obtain ⟨q, hq⟩ : ∃ b, w.heap.size = b := ⟨_, rfl⟩
      rw [hq] at k0 k1 k2 ⊢
      have hf0 : FamAt W (.slice (some ⟨q + 1 + 1, 0, none⟩) 2 2) [[0, 1], [1, 2]] := fam_blk (L := [⟨some ⟨q, 0, none⟩, 2, 2, [0, 1]⟩, ⟨some ⟨q + 1, 0, none⟩, 2, 2, [1, 2]⟩]) k2 (by simp) (fun t ht => by
        rcases List.mem_cons.1 ht with rfl | ht
        · exact ints_blk (xs := [0, 1]) k0 (by decide)
        · simp at ht; subst ht; exact ints_blk (xs := [1, 2]) k1 (by decide))
      clear k0 k1 k2 hq
      have hgr1 : Grow w W := by first | exact hgW | exact Grow.trans ((Grow.refl _).alloc _) hgW | exact Grow.trans (((Grow.refl _).alloc _).alloc _) hgW | exact Grow.trans ((((Grow.refl _).alloc _).alloc _).alloc _) hgW | exact Grow.trans (((((Grow.refl _).alloc _).alloc _).alloc _).alloc _) hgW | exact Grow.trans ((Grow.refl _).drewN _) hgW
      have HP_1 := Lib.hid (HP_.out.grow hgr1)
      have HL_1 := Lib.hid (HL_.out.grow hgr1)
      have GCH1 := Lib.hid hgr1
      clear hgW hgr1 HP_ HL_
      have HF0 := Lib.hid hf0
      clear hf0
      refine Smallest_any [[0, 1], [1, 2]] _ _ HF0.out _ ?_
      intro wz2 hg2 
      have hgr2 : Grow W wz2 := by first | exact hg2 | exact Grow.trans ((Grow.refl _).alloc _) hg2 | exact Grow.trans (((Grow.refl _).alloc _).alloc _) hg2 | exact Grow.trans ((((Grow.refl _).alloc _).alloc _).alloc _) hg2 | exact Grow.trans (((((Grow.refl _).alloc _).alloc _).alloc _).alloc _) hg2 | exact Grow.trans ((Grow.refl _).drewN _) hg2
      have HP_2 := Lib.hid (HP_1.out.grow hgr2)
      have HL_2 := Lib.hid (HL_1.out.grow hgr2)
      have GCH2 := Lib.hid (GCH1.out.trans hgr2)
      clear hg2 hgr2 HP_1 HL_1 GCH1
      rw [exb_fs, exb_fb, ex_val]
      go_wp2_with fail
      refine long1_any p _ _ (by first | exact HP_2.out | exact HP_2.out.grow ((Grow.refl _).alloc _) | exact HP_2.out.grow (((Grow.refl _).alloc _).alloc _) | exact HP_2.out.grow ((((Grow.refl _).alloc _).alloc _).alloc _) | exact HP_2.out.grow (((((Grow.refl _).alloc _).alloc _).alloc _).alloc _) | exact HP_2.out.grow ((Grow.refl _).drewN _)) _ ?_
      rw [HGD0.out]
      go_wp2_with fail
      refine manyT_any l _ _ (by first | exact HL_2.out | exact HL_2.out.grow ((Grow.refl _).alloc _) | exact HL_2.out.grow (((Grow.refl _).alloc _).alloc _) | exact HL_2.out.grow ((((Grow.refl _).alloc _).alloc _).alloc _) | exact HL_2.out.grow (((((Grow.refl _).alloc _).alloc _).alloc _).alloc _) | exact HL_2.out.grow ((Grow.refl _).drewN _)) _ ?_
      intro wz3 hg3 
      have hgr3 : Grow wz2 wz3 := by first | exact hg3 | exact Grow.trans ((Grow.refl _).alloc _) hg3 | exact Grow.trans (((Grow.refl _).alloc _).alloc _) hg3 | exact Grow.trans ((((Grow.refl _).alloc _).alloc _).alloc _) hg3 | exact Grow.trans (((((Grow.refl _).alloc _).alloc _).alloc _).alloc _) hg3 | exact Grow.trans ((Grow.refl _).drewN _) hg3
      have HP_3 := Lib.hid (HP_2.out.grow hgr3)
      have HL_3 := Lib.hid (HL_2.out.grow hgr3)
      have GCH3 := Lib.hid (GCH2.out.trans hgr3)
      clear hg3 hgr3 HP_2 HL_2 GCH2
      rw [HGD1.out]
      go_wp2_with fail
      refine Slices_any p l _ _ _ (by first | exact HP_3.out | exact HP_3.out.grow ((Grow.refl _).alloc _) | exact HP_3.out.grow (((Grow.refl _).alloc _).alloc _) | exact HP_3.out.grow ((((Grow.refl _).alloc _).alloc _).alloc _) | exact HP_3.out.grow (((((Grow.refl _).alloc _).alloc _).alloc _).alloc _) | exact HP_3.out.grow ((Grow.refl _).drewN _)) (by first | exact HL_3.out | exact HL_3.out.grow ((Grow.refl _).alloc _) | exact HL_3.out.grow (((Grow.refl _).alloc _).alloc _) | exact HL_3.out.grow ((((Grow.refl _).alloc _).alloc _).alloc _) | exact HL_3.out.grow (((((Grow.refl _).alloc _).alloc _).alloc _).alloc _) | exact HL_3.out.grow ((Grow.refl _).drewN _)) _ ?_
      intro wz4 x4_0 hg4 hx4_0
      have hgr4 : Grow wz3 wz4 := by first | exact hg4 | exact Grow.trans ((Grow.refl _).alloc _) hg4 | exact Grow.trans (((Grow.refl _).alloc _).alloc _) hg4 | exact Grow.trans ((((Grow.refl _).alloc _).alloc _).alloc _) hg4 | exact Grow.trans (((((Grow.refl _).alloc _).alloc _).alloc _).alloc _) hg4 | exact Grow.trans ((Grow.refl _).drewN _) hg4
      have HP_4 := Lib.hid (HP_3.out.grow hgr4)
      have HL_4 := Lib.hid (HL_3.out.grow hgr4)
      have GCH4 := Lib.hid (GCH3.out.trans hgr4)
      clear hg4 hgr4 HP_3 HL_3 GCH3
      rw [HA.out] at hx4_0
      have hyHFAMS_4 := hx4_0
      have HFAMS_4 := Lib.hid hyHFAMS_4
      obtain ⟨aHFAMS_4, cHFAMS_4, rfl, qHFAMS_41, qHFAMS_42⟩ := FamAt.out hyHFAMS_4
      clear hx4_0
      rw [HE.out]
      go_wp2_with fail
      refine Failing_any p l _ _ _ (by first | exact HP_4.out | exact HP_4.out.grow ((Grow.refl _).alloc _) | exact HP_4.out.grow (((Grow.refl _).alloc _).alloc _) | exact HP_4.out.grow ((((Grow.refl _).alloc _).alloc _).alloc _) | exact HP_4.out.grow (((((Grow.refl _).alloc _).alloc _).alloc _).alloc _) | exact HP_4.out.grow ((Grow.refl _).drewN _)) (by first | exact HL_4.out | exact HL_4.out.grow ((Grow.refl _).alloc _) | exact HL_4.out.grow (((Grow.refl _).alloc _).alloc _) | exact HL_4.out.grow ((((Grow.refl _).alloc _).alloc _).alloc _) | exact HL_4.out.grow (((((Grow.refl _).alloc _).alloc _).alloc _).alloc _) | exact HL_4.out.grow ((Grow.refl _).drewN _)) _ ?_
      intro wz5 x5_0 hg5 hx5_0
      have hgr5 : Grow wz4 wz5 := by first | exact hg5 | exact Grow.trans ((Grow.refl _).alloc _) hg5 | exact Grow.trans (((Grow.refl _).alloc _).alloc _) hg5 | exact Grow.trans ((((Grow.refl _).alloc _).alloc _).alloc _) hg5 | exact Grow.trans (((((Grow.refl _).alloc _).alloc _).alloc _).alloc _) hg5 | exact Grow.trans ((Grow.refl _).drewN _) hg5
      have HP_5 := Lib.hid (HP_4.out.grow hgr5)
      have HL_5 := Lib.hid (HL_4.out.grow hgr5)
      have HFAMS_5 := Lib.hid (HFAMS_4.out.grow hgr5)
      have GCH5 := Lib.hid (GCH4.out.trans hgr5)
      clear hg5 hgr5 HP_4 HL_4 HFAMS_4 GCH4
      rw [HFL.out] at hx5_0
      have hyHF_5 := hx5_0.slc encI_len
      have HF_5 := Lib.hid hyHF_5
      obtain ⟨aHF_5, cHF_5, rfl, qHF_51, qHF_52, _⟩ := hyHF_5
      clear hx5_0
      rw [HE.out]
      go_wp2_with fail
      refine Diagnoses_any p l _ _ _ (by first | exact HP_5.out | exact HP_5.out.grow ((Grow.refl _).alloc _) | exact HP_5.out.grow (((Grow.refl _).alloc _).alloc _) | exact HP_5.out.grow ((((Grow.refl _).alloc _).alloc _).alloc _) | exact HP_5.out.grow (((((Grow.refl _).alloc _).alloc _).alloc _).alloc _) | exact HP_5.out.grow ((Grow.refl _).drewN _)) (by first | exact HL_5.out | exact HL_5.out.grow ((Grow.refl _).alloc _) | exact HL_5.out.grow (((Grow.refl _).alloc _).alloc _) | exact HL_5.out.grow ((((Grow.refl _).alloc _).alloc _).alloc _) | exact HL_5.out.grow (((((Grow.refl _).alloc _).alloc _).alloc _).alloc _) | exact HL_5.out.grow ((Grow.refl _).drewN _)) _ ?_
      intro wz6 x6_0 hg6 hx6_0
      have hgr6 : Grow wz5 wz6 := by first | exact hg6 | exact Grow.trans ((Grow.refl _).alloc _) hg6 | exact Grow.trans (((Grow.refl _).alloc _).alloc _) hg6 | exact Grow.trans ((((Grow.refl _).alloc _).alloc _).alloc _) hg6 | exact Grow.trans (((((Grow.refl _).alloc _).alloc _).alloc _).alloc _) hg6 | exact Grow.trans ((Grow.refl _).drewN _) hg6
      have HP_6 := Lib.hid (HP_5.out.grow hgr6)
      have HL_6 := Lib.hid (HL_5.out.grow hgr6)
      have HFAMS_6 := Lib.hid (HFAMS_5.out.grow hgr6)
      have HF_6 := Lib.hid (HF_5.out.grow hgr6)
      have GCH6 := Lib.hid (GCH5.out.trans hgr6)
      clear hg6 hgr6 HP_5 HL_5 HFAMS_5 HF_5 GCH5
      rw [HC.out] at hx6_0
      have hyHFAMD_6 := hx6_0
      have HFAMD_6 := Lib.hid hyHFAMD_6
      obtain ⟨aHFAMD_6, cHFAMD_6, rfl, qHFAMD_61, qHFAMD_62⟩ := FamAt.out hyHFAMD_6
      clear hx6_0
      rw [HE.out]
      go_wp2_with fail
      refine Blocker_any D _ _ (by first | exact HFAMD_6.out | exact HFAMD_6.out.grow ((Grow.refl _).alloc _) | exact HFAMD_6.out.grow (((Grow.refl _).alloc _).alloc _) | exact HFAMD_6.out.grow ((((Grow.refl _).alloc _).alloc _).alloc _) | exact HFAMD_6.out.grow (((((Grow.refl _).alloc _).alloc _).alloc _).alloc _) | exact HFAMD_6.out.grow ((Grow.refl _).drewN _)) _ ?_
      intro wz7 x7_0 hg7 hx7_0
      have hgr7 : Grow wz6 wz7 := by first | exact hg7 | exact Grow.trans ((Grow.refl _).alloc _) hg7 | exact Grow.trans (((Grow.refl _).alloc _).alloc _) hg7 | exact Grow.trans ((((Grow.refl _).alloc _).alloc _).alloc _) hg7 | exact Grow.trans (((((Grow.refl _).alloc _).alloc _).alloc _).alloc _) hg7 | exact Grow.trans ((Grow.refl _).drewN _) hg7
      have HP_7 := Lib.hid (HP_6.out.grow hgr7)
      have HL_7 := Lib.hid (HL_6.out.grow hgr7)
      have HFAMS_7 := Lib.hid (HFAMS_6.out.grow hgr7)
      have HF_7 := Lib.hid (HF_6.out.grow hgr7)
      have HFAMD_7 := Lib.hid (HFAMD_6.out.grow hgr7)
      have GCH7 := Lib.hid (GCH6.out.trans hgr7)
      clear hg7 hgr7 HP_6 HL_6 HFAMS_6 HF_6 HFAMD_6 GCH6
      rw [HBK.out] at hx7_0
      have hyHFAMB_7 := hx7_0.fam
      have HFAMB_7 := Lib.hid hyHFAMB_7
      obtain ⟨aHFAMB_7, cHFAMB_7, rfl, qHFAMB_71, qHFAMB_72⟩ := FamAt.out hyHFAMB_7
      clear hx7_0
      rw [HVD.out]
      go_wp2_with fail
      refine Least_any FS _ _ (by first | exact HFAMS_7.out | exact HFAMS_7.out.grow ((Grow.refl _).alloc _) | exact HFAMS_7.out.grow (((Grow.refl _).alloc _).alloc _) | exact HFAMS_7.out.grow ((((Grow.refl _).alloc _).alloc _).alloc _) | exact HFAMS_7.out.grow (((((Grow.refl _).alloc _).alloc _).alloc _).alloc _) | exact HFAMS_7.out.grow ((Grow.refl _).drewN _)) _ ?_
      intro wz8 x8_0 hg8 hx8_0
      have hgr8 : Grow wz7 wz8 := by first | exact hg8 | exact Grow.trans ((Grow.refl _).alloc _) hg8 | exact Grow.trans (((Grow.refl _).alloc _).alloc _) hg8 | exact Grow.trans ((((Grow.refl _).alloc _).alloc _).alloc _) hg8 | exact Grow.trans (((((Grow.refl _).alloc _).alloc _).alloc _).alloc _) hg8 | exact Grow.trans ((Grow.refl _).drewN _) hg8
      have HP_8 := Lib.hid (HP_7.out.grow hgr8)
      have HL_8 := Lib.hid (HL_7.out.grow hgr8)
      have HFAMS_8 := Lib.hid (HFAMS_7.out.grow hgr8)
      have HF_8 := Lib.hid (HF_7.out.grow hgr8)
      have HFAMD_8 := Lib.hid (HFAMD_7.out.grow hgr8)
      have HFAMB_8 := Lib.hid (HFAMB_7.out.grow hgr8)
      have GCH8 := Lib.hid (GCH7.out.trans hgr8)
      clear hg8 hgr8 HP_7 HL_7 HFAMS_7 HF_7 HFAMD_7 HFAMB_7 GCH7
      rw [HZ.out] at hx8_0
      have hyHFAMZ_8 := hx8_0.fam
      have HFAMZ_8 := Lib.hid hyHFAMZ_8
      obtain ⟨aHFAMZ_8, cHFAMZ_8, rfl, qHFAMZ_81, qHFAMZ_82⟩ := FamAt.out hyHFAMZ_8
      clear hx8_0
      rw [HV.out]
      go_wp2_with fail
      refine sameF_any Z Z _ _ _ (by first | exact HFAMB_8.out | exact HFAMB_8.out.grow ((Grow.refl _).alloc _) | exact HFAMB_8.out.grow (((Grow.refl _).alloc _).alloc _) | exact HFAMB_8.out.grow ((((Grow.refl _).alloc _).alloc _).alloc _) | exact HFAMB_8.out.grow (((((Grow.refl _).alloc _).alloc _).alloc _).alloc _) | exact HFAMB_8.out.grow ((Grow.refl _).drewN _)) (by first | exact HFAMZ_8.out | exact HFAMZ_8.out.grow ((Grow.refl _).alloc _) | exact HFAMZ_8.out.grow (((Grow.refl _).alloc _).alloc _) | exact HFAMZ_8.out.grow ((((Grow.refl _).alloc _).alloc _).alloc _) | exact HFAMZ_8.out.grow (((((Grow.refl _).alloc _).alloc _).alloc _).alloc _) | exact HFAMZ_8.out.grow ((Grow.refl _).drewN _)) _ ?_
      intro wz9 hg9 
      have hgr9 : Grow wz8 wz9 := by first | exact hg9 | exact Grow.trans ((Grow.refl _).alloc _) hg9 | exact Grow.trans (((Grow.refl _).alloc _).alloc _) hg9 | exact Grow.trans ((((Grow.refl _).alloc _).alloc _).alloc _) hg9 | exact Grow.trans (((((Grow.refl _).alloc _).alloc _).alloc _).alloc _) hg9 | exact Grow.trans ((Grow.refl _).drewN _) hg9
      have HP_9 := Lib.hid (HP_8.out.grow hgr9)
      have HL_9 := Lib.hid (HL_8.out.grow hgr9)
      have HFAMS_9 := Lib.hid (HFAMS_8.out.grow hgr9)
      have HF_9 := Lib.hid (HF_8.out.grow hgr9)
      have HFAMD_9 := Lib.hid (HFAMD_8.out.grow hgr9)
      have HFAMB_9 := Lib.hid (HFAMB_8.out.grow hgr9)
      have HFAMZ_9 := Lib.hid (HFAMZ_8.out.grow hgr9)
      have GCH9 := Lib.hid (GCH8.out.trans hgr9)
      clear hg9 hgr9 HP_8 HL_8 HFAMS_8 HF_8 HFAMD_8 HFAMB_8 HFAMZ_8 GCH8
      rw [show decide (Z = Z) = true from decide_eq_true rfl]
      go_wp2_with fail
      refine Apart_any FS _ _ (by first | exact HFAMS_9.out | exact HFAMS_9.out.grow ((Grow.refl _).alloc _) | exact HFAMS_9.out.grow (((Grow.refl _).alloc _).alloc _) | exact HFAMS_9.out.grow ((((Grow.refl _).alloc _).alloc _).alloc _) | exact HFAMS_9.out.grow (((((Grow.refl _).alloc _).alloc _).alloc _).alloc _) | exact HFAMS_9.out.grow ((Grow.refl _).drewN _)) _ ?_
      intro wz10 x10_0 hg10 hx10_0
      have hgr10 : Grow wz9 wz10 := by first | exact hg10 | exact Grow.trans ((Grow.refl _).alloc _) hg10 | exact Grow.trans (((Grow.refl _).alloc _).alloc _) hg10 | exact Grow.trans ((((Grow.refl _).alloc _).alloc _).alloc _) hg10 | exact Grow.trans (((((Grow.refl _).alloc _).alloc _).alloc _).alloc _) hg10 | exact Grow.trans ((Grow.refl _).drewN _) hg10
      have HP_10 := Lib.hid (HP_9.out.grow hgr10)
      have HL_10 := Lib.hid (HL_9.out.grow hgr10)
      have HFAMS_10 := Lib.hid (HFAMS_9.out.grow hgr10)
      have HF_10 := Lib.hid (HF_9.out.grow hgr10)
      have HFAMD_10 := Lib.hid (HFAMD_9.out.grow hgr10)
      have HFAMB_10 := Lib.hid (HFAMB_9.out.grow hgr10)
      have HFAMZ_10 := Lib.hid (HFAMZ_9.out.grow hgr10)
      have GCH10 := Lib.hid (GCH9.out.trans hgr10)
      clear hg10 hgr10 HP_9 HL_9 HFAMS_9 HF_9 HFAMD_9 HFAMB_9 HFAMZ_9 GCH9
      rw [HAP.out] at hx10_0
      have hyHAP_10 := hx10_0.slc encI_len
      have HAP_10 := Lib.hid hyHAP_10
      obtain ⟨aHAP_10, cHAP_10, rfl, qHAP_101, qHAP_102, _⟩ := hyHAP_10
      clear hx10_0
      rw [HV.out]
      go_wp2_with fail
      go_loopw [18, 19, 20] (fun iv _ _ wr => ∃ k : Nat, k ≤ D.length ∧ iv = .int .i64 k ∧ Grow wz10 wr) (fun iv _ _ _ => D.length - (intOf iv).toNat)
      case atStart => exact ⟨0, Nat.zero_le _, rfl, Grow.refl _⟩
      case round =>
        obtain ⟨k, hk, rfl, hg⟩ := hrel
        have HG := Lib.hid hg
        clear hg
        by_cases hlt : k < D.length
        · obtain ⟨x, hx⟩ : ∃ x, D[k]? = some x := ⟨_, List.getElem?_eq_getElem hlt⟩
          obtain ⟨b, o, ta, tc, rfl, hb, e0, hi⟩ := fam_at (HFAMD_10.out.grow (HG.out)) hx
          have hk2 : (k : Int) < (D.length : Int) := by omega
          have HI := Lib.hid hi
          have HXM := Lib.hid (List.mem_of_getElem? hx)
          have hle := HLE.out x HXM.out
          have t5 : ¬ ((x.length : Int) < (AP.length : Int)) := by omega
          clear hx hi hle
          go_wp2_with fail
          refine Hits_any FS x _ _ _ (HFAMS_10.out.grow (HG.out)) HI.out _ ?_
          intro w3 hg3
          rw [(HDH.out x HXM.out).1, (HDH.out x HXM.out).2]
          have m0 := hg3.cell e0
          have hb3 : b < w3.heap.size := Nat.lt_of_lt_of_le hb hg3.sz
          have HG3 := Lib.hid (HG.out.trans hg3)
          clear hg3 e0 hb
          go_wp2_with fail
          go_roundw
          case rel => exact ⟨k + 1, by omega, by go_num, HG3.out⟩
          case measure => simp [intOf]; omega
        · have hk2 : ¬ (k : Int) < (D.length : Int) := by omega
          have HGA := Lib.hid (GCH10.out.trans HG.out)
          clear hlt
          have HS1 := Lib.hid (HFAMS_10.out.grow (HG.out))
          have HD1 := Lib.hid (HFAMD_10.out.grow (HG.out))
          have HF1 := Lib.hid (HF_10.out.grow (HG.out))
          have HP1 := Lib.hid (HP_10.out.grow (HG.out))
          have HT1 := Lib.hid (HL_10.out.grow (HG.out))
          obtain ⟨w1, hw1⟩ : ∃ z : World, z = wr := ⟨_, rfl⟩
          rw [← hw1] at HGA HS1 HD1 HF1 HP1 HT1 ⊢
          clear hw1 HG
          go_wp2_with fail
          go_loopw [21, 22, 23, 24, 25, 26, 27, 28, 29, 30, 31, 32, 33, 34, 35] (fun nv _ _ _ _ _ _ _ _ _ _ _ _ _ _ wr => ∃ n : Nat, 1 ≤ n ∧ n ≤ 3 ∧ nv = .int .i64 n ∧ Grow w1 wr) (fun nv _ _ _ _ _ _ _ _ _ _ _ _ _ _ _ => 3 - (intOf nv).toNat)
          case atStart => exact ⟨1, by omega, by omega, rfl, Grow.refl _⟩
          case round =>
            obtain ⟨n, hn1, hn3, rfl, hg⟩ := hrel
            have HG := Lib.hid hg
            clear hg
            by_cases hlt : n ≤ 2
            · have hn2 : (n : Int) ≤ 2 := by omega
              obtain ⟨hbe, hbx⟩ := bd_mem (p := p) (ts := l) (n := (n : Int)) HCK.out (by omega)
              obtain ⟨BD, hBD⟩ : ∃ z, bdO p l (n : Int) = z := ⟨_, rfl⟩
              rw [hBD] at hbx
              have HBD := Lib.hid hBD
              have HBE := Lib.hid hbe
              have HBX := Lib.hid hbx
              clear hbe hbx hBD
              go_wp2_with fail
              refine Blamed_any p l n _ _ _ (HP1.out.grow (HG.out)) (HT1.out.grow (HG.out)) _ ?_
              intro w4 v4 hg4 hv4
              rw [HBD.out] at hv4
              rw [HBE.out]
              have HB4 := Lib.hid hv4
              obtain ⟨a4, c4, rfl, q41, q42⟩ := hv4.out
              have HG4 := Lib.hid (HG.out.trans hg4)
              have HS4 := Lib.hid (HS1.out.grow HG4.out)
              have HD4 := Lib.hid (HD1.out.grow HG4.out)
              have HF4 := Lib.hid (HF1.out.grow HG4.out)
              have HP4 := Lib.hid (HP1.out.grow HG4.out)
              have HT4 := Lib.hid (HT1.out.grow HG4.out)
              clear hv4 hg4
              go_wp2_with fail
              go_loopw [24, 25, 26, 27, 28, 29, 30, 31, 32, 33, 34, 35] (fun jv _ _ _ _ _ _ _ _ _ _ _ wr => ∃ j : Nat, j ≤ BD.length ∧ jv = .int .i64 j ∧ Grow w4 wr) (fun jv _ _ _ _ _ _ _ _ _ _ _ _ => BD.length - (intOf jv).toNat)
              case atStart => exact ⟨0, Nat.zero_le _, rfl, Grow.refl _⟩
              case round =>
                obtain ⟨j, hj, rfl, hg⟩ := hrel
                have HGJ := Lib.hid hg
                clear hg
                by_cases hlj : j < BD.length
                · obtain ⟨x, hx⟩ : ∃ x, BD[j]? = some x := ⟨_, List.getElem?_eq_getElem hlj⟩
                  obtain ⟨b, o, ta, tc, rfl, hb, e0, hi⟩ := fam_at (HB4.out.grow (HGJ.out)) hx
                  have hj2 : (j : Int) < (BD.length : Int) := by omega
                  have HI := Lib.hid hi
                  obtain ⟨hx1, hx2, hx3⟩ := HBX.out x (List.mem_of_getElem? hx)
                  have HX1 := Lib.hid hx1
                  have HX2 := Lib.hid hx2
                  have HHT := Lib.hid (blm_hitsB HCK.out hx1 hx2)
                  rw [← HSL.out] at HHT
                  have HXJ := Lib.hid hx
                  clear hx hi hx1 hx2
                  go_wp2_with fail
                  refine Hits_any FS x _ _ _ (HS4.out.grow (HGJ.out)) HI.out _ ?_
                  intro w5 hg5
                  rw [HHT.out.1, HHT.out.2]
                  have HG5 := Lib.hid (HGJ.out.trans hg5)
                  clear hg5 e0 hb
                  have HD5 := Lib.hid (HD4.out.grow HG5.out)
                  have HF5 := Lib.hid (HF4.out.grow HG5.out)
                  have HP5 := Lib.hid (HP4.out.grow HG5.out)
                  have HT5 := Lib.hid (HT4.out.grow HG5.out)
                  have HB5 := Lib.hid (HB4.out.grow HG5.out)
                  obtain ⟨dk, hdk1, hdk2⟩ := bd_part HCK.out HX1.out HX2.out
                  rw [← HSL.out, ← HDB.out] at hdk1
                  have HANY := Lib.hid (show (D.any fun d => d.all fun y => x.contains y) = true from List.any_eq_true.2 ⟨dk, hdk1, List.all_eq_true.2 fun y hy => List.contains_iff_mem.2 (hdk2 y hy)⟩)
                  clear hdk1 hdk2 dk
                  go_wp2_with fail
                  go_loopw [27, 28, 29, 30] (fun iv kv _ _ wr => ∃ k : Nat, k ≤ D.length ∧ kv = .int .i64 k ∧ iv = .bool ((D.take k).any fun d => d.all fun y => x.contains y) ∧ Grow w5 wr) (fun _ kv _ _ _ => D.length - (intOf kv).toNat)
                  case atStart => exact ⟨0, Nat.zero_le _, rfl, rfl, Grow.refl _⟩
                  case round =>
                    obtain ⟨k, hk, rfl, rfl, hg⟩ := hrel
                    have HGK := Lib.hid hg
                    clear hg
                    obtain ⟨iv, hiv⟩ : ∃ z, ((D.take k).any fun d => d.all fun y => x.contains y) = z := ⟨_, rfl⟩
                    rw [hiv]
                    have HIV := Lib.hid hiv
                    clear hiv
                    by_cases hlk : k < D.length
                    · obtain ⟨d, hd⟩ : ∃ x, D[k]? = some x := ⟨_, List.getElem?_eq_getElem hlk⟩
                      have hk2 : (k : Int) < (D.length : Int) := by omega
                      have hat := any_takeL (fun d : List Int => d.all fun y => x.contains y) hd
                      rw [HIV.out] at hat
                      have HAT := Lib.hid hat
                      have HDK := Lib.hid hd
                      obtain ⟨w6, hw6⟩ : ∃ z : World, z = wr := ⟨_, rfl⟩
                      rw [← hw6] at HGK ⊢
                      clear hd hat hw6
                      have HD6 := Lib.hid (HD5.out.grow HGK.out)
                      have HB6 := Lib.hid (HB5.out.grow HGK.out)
                      go_wp2_with fail
                      go_loopw [29, 30] (fun pv mv wr => ∃ m : Nat, m ≤ d.length ∧ mv = .int .i64 m ∧ pv = .bool ((d.take m).all fun y => x.contains y) ∧ Grow w6 wr) (fun _ mv _ => d.length - (intOf mv).toNat)
                      case atStart => exact ⟨0, Nat.zero_le _, rfl, rfl, Grow.refl _⟩
                      case round =>
                        obtain ⟨m, hm, rfl, rfl, hg⟩ := hrel
                        have HGM := Lib.hid hg
                        clear hg
                        obtain ⟨pv, hpv⟩ : ∃ z, ((d.take m).all fun y => x.contains y) = z := ⟨_, rfl⟩
                        rw [hpv]
                        have HPV := Lib.hid hpv
                        clear hpv
                        obtain ⟨bd, od, da, dc, hde, hbd, e0, hdi⟩ := fam_at (HD6.out.grow (HGM.out)) HDK.out
                        subst hde
                        have hdl : d.length ≤ 9223372036854775807 := by obtain ⟨_, _, _, q1, q2, _⟩ := hdi; omega
                        by_cases hlm : m < d.length
                        · obtain ⟨u, hu⟩ : ∃ x, d[m]? = some x := ⟨_, List.getElem?_eq_getElem hlm⟩
                          have hm2 : (m : Int) < (d.length : Int) := by omega
                          have hat := all_takeL (fun y => x.contains y) hu
                          rw [HPV.out] at hat
                          have HAM := Lib.hid hat
                          clear hat
                          obtain ⟨bb, ob, xa, xc, hbe, hbb, c0, hxi⟩ := fam_at (HB6.out.grow (HGM.out)) HXJ.out
                          cases hbe
                          have HXI := Lib.hid hxi
                          obtain ⟨sb, so, hsa, hsb, f0⟩ := ints_at hdi hu
                          subst hsa
                          clear hu hdi hxi
                          cases pv with
                          | false =>
                            go_upto_region 44 with fail
                            clear e0 c0 f0
                            refine wp_region_held_drew (S := fun X => Grow wr X) (by kernel_rfl) ((Grow.refl wr).drew) (fun hH => ?_)
                            refine wpAnyH_take (i := 0) (v := .bool false) rfl (by kernel_rfl) (by kernel_rfl) (by kernel_rfl) (fun _ _ _ h => h) (Or.inl ⟨by rfl, ?_⟩) hH ?_
                            · intro w9 hw9
                              go_simp
                            try simp only [List.getElem_toArray, List.getElem_cons_zero, Act.put, List.setIfInBounds_toArray, List.set_cons_zero, List.set_cons_succ]
                            refine wpAnyH_take (i := 1) (v := .bool false) rfl (by kernel_rfl) (by kernel_rfl) (by kernel_rfl) (fun _ _ _ h => h) (Or.inl ⟨by rfl, ?_⟩) hH ?_
                            · intro w9 hw9
                              go_simp
                            try simp only [List.getElem_toArray, List.getElem_cons_succ, List.getElem_cons_zero, Act.put, List.setIfInBounds_toArray, List.set_cons_zero, List.set_cons_succ]
                            refine wpAnyH_take (i := 2) (v := undef) rfl (by kernel_rfl) (by kernel_rfl) (by kernel_rfl) (fun _ _ _ h => h) (Or.inr ⟨by rfl, rfl⟩) hH ?_
                            try simp only [List.getElem_toArray, List.getElem_cons_succ, List.getElem_cons_zero, Act.put, List.setIfInBounds_toArray, List.set_cons_zero, List.set_cons_succ]
                            refine wpAnyH_take (i := 3) (v := undef) rfl (by kernel_rfl) (by kernel_rfl) (by kernel_rfl) (fun _ _ _ h => h) (Or.inr ⟨by rfl, rfl⟩) hH ?_
                            try simp only [List.getElem_toArray, List.getElem_cons_succ, List.getElem_cons_zero, Act.put, List.setIfInBounds_toArray, List.set_cons_zero, List.set_cons_succ]
                            refine wpAnyH_take (i := 4) (v := undef) rfl (by kernel_rfl) (by kernel_rfl) (by kernel_rfl) (fun _ _ _ h => h) (Or.inr ⟨by rfl, rfl⟩) hH ?_
                            try simp only [List.getElem_toArray, List.getElem_cons_succ, List.getElem_cons_zero, Act.put, List.setIfInBounds_toArray, List.set_cons_zero, List.set_cons_succ]
                            refine wpAnyH_take (i := 5) (v := undef) rfl (by kernel_rfl) (by kernel_rfl) (by kernel_rfl) (fun _ _ _ h => h) (Or.inr ⟨by rfl, rfl⟩) hH ?_
                            try simp only [List.getElem_toArray, List.getElem_cons_succ, List.getElem_cons_zero, Act.put, List.setIfInBounds_toArray, List.set_cons_zero, List.set_cons_succ]
                            refine wpAnyH_take (i := 6) (v := undef) rfl (by kernel_rfl) (by kernel_rfl) (by kernel_rfl) (fun _ _ _ h => h) (Or.inr ⟨by rfl, rfl⟩) hH ?_
                            try simp only [List.getElem_toArray, List.getElem_cons_succ, List.getElem_cons_zero, Act.put, List.setIfInBounds_toArray, List.set_cons_zero, List.set_cons_succ]
                            refine wpAnyH_take (i := 7) (v := undef) rfl (by kernel_rfl) (by kernel_rfl) (by kernel_rfl) (fun _ _ _ h => h) (Or.inr ⟨by rfl, rfl⟩) hH ?_
                            try simp only [List.getElem_toArray, List.getElem_cons_succ, List.getElem_cons_zero, Act.put, List.setIfInBounds_toArray, List.set_cons_zero, List.set_cons_succ]
                            refine wpAnyH_take (i := 8) (v := undef) rfl (by kernel_rfl) (by kernel_rfl) (by kernel_rfl) (fun _ _ _ h => h) (Or.inr ⟨by rfl, rfl⟩) hH ?_
                            try simp only [List.getElem_toArray, List.getElem_cons_succ, List.getElem_cons_zero, Act.put, List.setIfInBounds_toArray, List.set_cons_zero, List.set_cons_succ]
                            refine wpAnyH_take (i := 9) (v := undef) rfl (by kernel_rfl) (by kernel_rfl) (by kernel_rfl) (fun _ _ _ h => h) (Or.inr ⟨by rfl, rfl⟩) hH ?_
                            try simp only [List.getElem_toArray, List.getElem_cons_succ, List.getElem_cons_zero, Act.put, List.setIfInBounds_toArray, List.set_cons_zero, List.set_cons_succ]
                            refine wpAnyH_take (i := 10) (v := undef) rfl (by kernel_rfl) (by kernel_rfl) (by kernel_rfl) (fun _ _ _ h => h) (Or.inr ⟨by rfl, rfl⟩) hH ?_
                            try simp only [List.getElem_toArray, List.getElem_cons_succ, List.getElem_cons_zero, Act.put, List.setIfInBounds_toArray, List.set_cons_zero, List.set_cons_succ]
                            refine wpAnyH_take (i := 11) (v := undef) rfl (by kernel_rfl) (by kernel_rfl) (by kernel_rfl) (fun _ _ _ h => h) (Or.inr ⟨by rfl, rfl⟩) hH ?_
                            try simp only [List.getElem_toArray, List.getElem_cons_succ, List.getElem_cons_zero, Act.put, List.setIfInBounds_toArray, List.set_cons_zero, List.set_cons_succ]
                            refine wpAnyH_take (i := 12) (v := undef) rfl (by kernel_rfl) (by kernel_rfl) (by kernel_rfl) (fun _ _ _ h => h) (Or.inr ⟨by rfl, rfl⟩) hH ?_
                            try simp only [List.getElem_toArray, List.getElem_cons_succ, List.getElem_cons_zero, Act.put, List.setIfInBounds_toArray, List.set_cons_zero, List.set_cons_succ]
                            refine wpAnyH_take (i := 13) (v := undef) rfl (by kernel_rfl) (by kernel_rfl) (by kernel_rfl) (fun _ _ _ h => h) (Or.inr ⟨by rfl, rfl⟩) hH ?_
                            try simp only [List.getElem_toArray, List.getElem_cons_succ, List.getElem_cons_zero, Act.put, List.setIfInBounds_toArray, List.set_cons_zero, List.set_cons_succ]
                            refine wpAnyH_take (i := 14) (v := .bool false) rfl (by kernel_rfl) (by kernel_rfl) (by kernel_rfl) (fun _ _ _ h => h) (Or.inl ⟨by rfl, ?_⟩) hH ?_
                            · intro w9 hw9
                              go_simp
                            try simp only [List.getElem_toArray, List.getElem_cons_succ, List.getElem_cons_zero, Act.put, List.setIfInBounds_toArray, List.set_cons_zero, List.set_cons_succ]
                            refine wpAnyH_take (i := 15) (v := .bool false) rfl (by kernel_rfl) (by kernel_rfl) (by kernel_rfl) (fun _ _ _ h => h) (Or.inl ⟨by rfl, ?_⟩) hH ?_
                            · intro w9 hw9
                              go_simp
                            try simp only [List.getElem_toArray, List.getElem_cons_succ, List.getElem_cons_zero, Act.put, List.setIfInBounds_toArray, List.set_cons_zero, List.set_cons_succ]
                            refine wpAnyH_done (by kernel_rfl) ?_ _
                            have HGE := Lib.hid (HGM.out.trans hH)
                            clear hH
                            go_wp2_with fail
                            go_roundw
                            case rel => exact ⟨m + 1, by omega, by go_num, by rw [HAM.out]; rfl, HGE.out⟩
                            case measure => simp [intOf]; omega
                          | true =>
                            go_upto_region 44 with fail
                            refine wp_region_held_drew (S := fun X => Grow wr X) (by kernel_rfl) ((Grow.refl wr).drew) (fun hH => ?_)
                            refine wpAnyH_take (i := 0) (v := .bool true) rfl (by kernel_rfl) (by kernel_rfl) (by kernel_rfl) (fun _ _ _ h => h) (Or.inl ⟨by rfl, ?_⟩) hH ?_
                            · intro w9 hw9
                              go_simp
                            try simp only [List.getElem_toArray, List.getElem_cons_zero, Act.put, List.setIfInBounds_toArray, List.set_cons_zero, List.set_cons_succ]
                            refine wpAnyH_take (i := 1) (v := .bool true) rfl (by kernel_rfl) (by kernel_rfl) (by kernel_rfl) (fun _ _ _ h => h) (Or.inl ⟨by rfl, ?_⟩) hH ?_
                            · intro w9 hw9
                              go_simp
                            try simp only [List.getElem_toArray, List.getElem_cons_succ, List.getElem_cons_zero, Act.put, List.setIfInBounds_toArray, List.set_cons_zero, List.set_cons_succ]
                            refine wpAnyH_take (i := 2) (v := .slice (some ⟨b, o, none⟩) BD.length c4) rfl (by kernel_rfl) (by kernel_rfl) (by kernel_rfl) (fun _ _ _ h => h) (Or.inl ⟨by rfl, ?_⟩) hH ?_
                            · intro w9 hw9
                              go_simp
                            try simp only [List.getElem_toArray, List.getElem_cons_succ, List.getElem_cons_zero, Act.put, List.setIfInBounds_toArray, List.set_cons_zero, List.set_cons_succ]
                            refine wpAnyH_take (i := 3) (v := .int .i64 (j : Int)) rfl (by kernel_rfl) (by kernel_rfl) (by kernel_rfl) (fun _ _ _ h => h) (Or.inl ⟨by rfl, ?_⟩) hH ?_
                            · intro w9 hw9
                              go_simp
                            try simp only [List.getElem_toArray, List.getElem_cons_succ, List.getElem_cons_zero, Act.put, List.setIfInBounds_toArray, List.set_cons_zero, List.set_cons_succ]
                            refine wpAnyH_take (i := 4) (v := .pointer (some ⟨b, o + j, none⟩)) rfl (by kernel_rfl) (by kernel_rfl) (by kernel_rfl) (fun _ _ _ h => h) (Or.inl ⟨by rfl, ?_⟩) hH ?_
                            · intro w9 hw9
                              have hz9 := hw9.sz
                              go_simp
                            try simp only [List.getElem_toArray, List.getElem_cons_succ, List.getElem_cons_zero, Act.put, List.setIfInBounds_toArray, List.set_cons_zero, List.set_cons_succ]
                            refine wpAnyH_take (i := 5) (v := .slice xa x.length xc) rfl (by kernel_rfl) (by kernel_rfl) (by kernel_rfl) (fun _ _ _ h => h) (Or.inl ⟨by rfl, ?_⟩) hH ?_
                            · intro w9 hw9
                              have hz9 := hw9.sz
                              have c9 := hw9.cell c0
                              go_simp
                            try simp only [List.getElem_toArray, List.getElem_cons_succ, List.getElem_cons_zero, Act.put, List.setIfInBounds_toArray, List.set_cons_zero, List.set_cons_succ]
                            refine wpAnyH_take (i := 6) (v := .slice (some ⟨bd, od, none⟩) D.length cHFAMD_6) rfl (by kernel_rfl) (by kernel_rfl) (by kernel_rfl) (fun _ _ _ h => h) (Or.inl ⟨by rfl, ?_⟩) hH ?_
                            · intro w9 hw9
                              go_simp
                            try simp only [List.getElem_toArray, List.getElem_cons_succ, List.getElem_cons_zero, Act.put, List.setIfInBounds_toArray, List.set_cons_zero, List.set_cons_succ]
                            refine wpAnyH_take (i := 7) (v := .int .i64 (k : Int)) rfl (by kernel_rfl) (by kernel_rfl) (by kernel_rfl) (fun _ _ _ h => h) (Or.inl ⟨by rfl, ?_⟩) hH ?_
                            · intro w9 hw9
                              go_simp
                            try simp only [List.getElem_toArray, List.getElem_cons_succ, List.getElem_cons_zero, Act.put, List.setIfInBounds_toArray, List.set_cons_zero, List.set_cons_succ]
                            refine wpAnyH_take (i := 8) (v := .pointer (some ⟨bd, od + k, none⟩)) rfl (by kernel_rfl) (by kernel_rfl) (by kernel_rfl) (fun _ _ _ h => h) (Or.inl ⟨by rfl, ?_⟩) hH ?_
                            · intro w9 hw9
                              have hz9 := hw9.sz
                              go_simp
                            try simp only [List.getElem_toArray, List.getElem_cons_succ, List.getElem_cons_zero, Act.put, List.setIfInBounds_toArray, List.set_cons_zero, List.set_cons_succ]
                            refine wpAnyH_take (i := 9) (v := .slice (some ⟨sb, so, none⟩) d.length dc) rfl (by kernel_rfl) (by kernel_rfl) (by kernel_rfl) (fun _ _ _ h => h) (Or.inl ⟨by rfl, ?_⟩) hH ?_
                            · intro w9 hw9
                              have hz9 := hw9.sz
                              have c9 := hw9.cell e0
                              go_simp
                            try simp only [List.getElem_toArray, List.getElem_cons_succ, List.getElem_cons_zero, Act.put, List.setIfInBounds_toArray, List.set_cons_zero, List.set_cons_succ]
                            refine wpAnyH_take (i := 10) (v := .int .i64 (m : Int)) rfl (by kernel_rfl) (by kernel_rfl) (by kernel_rfl) (fun _ _ _ h => h) (Or.inl ⟨by rfl, ?_⟩) hH ?_
                            · intro w9 hw9
                              go_simp
                            try simp only [List.getElem_toArray, List.getElem_cons_succ, List.getElem_cons_zero, Act.put, List.setIfInBounds_toArray, List.set_cons_zero, List.set_cons_succ]
                            refine wpAnyH_take (i := 11) (v := .pointer (some ⟨sb, so + m, none⟩)) rfl (by kernel_rfl) (by kernel_rfl) (by kernel_rfl) (fun _ _ _ h => h) (Or.inl ⟨by rfl, ?_⟩) hH ?_
                            · intro w9 hw9
                              have hz9 := hw9.sz
                              go_simp
                            try simp only [List.getElem_toArray, List.getElem_cons_succ, List.getElem_cons_zero, Act.put, List.setIfInBounds_toArray, List.set_cons_zero, List.set_cons_succ]
                            refine wpAnyH_take (i := 12) (v := .int .i64 u) rfl (by kernel_rfl) (by kernel_rfl) (by kernel_rfl) (fun _ _ _ h => h) (Or.inl ⟨by rfl, ?_⟩) hH ?_
                            · intro w9 hw9
                              have hz9 := hw9.sz
                              have c9 := hw9.cell f0
                              go_simp
                            try simp only [List.getElem_toArray, List.getElem_cons_succ, List.getElem_cons_zero, Act.put, List.setIfInBounds_toArray, List.set_cons_zero, List.set_cons_succ]
                            obtain ⟨cu, hcu⟩ : ∃ z, x.contains u = z := ⟨_, rfl⟩
                            rw [hcu] at HAM
                            have HCU := Lib.hid hcu
                            clear hcu e0 c0 f0
                            refine wpAnyH_ready (rs := [13]) (by kernel_rfl) (by simp) ?_
                            refine AllReadyH.cons rfl (fun K hK => ?_) AllReadyH.nil
                            go_simp
                            refine rHas1_any x u _ _ (HXI.out.grow hH) _ ?_
                            rw [HCU.out]
                            go_wp2_with fail
                            refine hK.out _ _ hH (fun hH2 => ?_)
                            clear hK K hH
                            have hH := hH2
                            clear hH2
                            try simp only [List.getElem_toArray, List.getElem_cons_succ, List.getElem_cons_zero, Act.put, List.setIfInBounds_toArray, List.set_cons_zero, List.set_cons_succ]
                            refine wpAnyH_take (i := 14) (v := .bool cu) rfl (by kernel_rfl) (by kernel_rfl) (by kernel_rfl) (fun _ _ _ h => h) (Or.inl ⟨by rfl, ?_⟩) hH ?_
                            · intro w9 hw9
                              go_simp
                            try simp only [List.getElem_toArray, List.getElem_cons_succ, List.getElem_cons_zero, Act.put, List.setIfInBounds_toArray, List.set_cons_zero, List.set_cons_succ]
                            refine wpAnyH_take (i := 15) (v := .bool cu) rfl (by kernel_rfl) (by kernel_rfl) (by kernel_rfl) (fun _ _ _ h => h) (Or.inl ⟨by rfl, ?_⟩) hH ?_
                            · intro w9 hw9
                              go_simp
                            try simp only [List.getElem_toArray, List.getElem_cons_succ, List.getElem_cons_zero, Act.put, List.setIfInBounds_toArray, List.set_cons_zero, List.set_cons_succ]
                            refine wpAnyH_done (by kernel_rfl) ?_ _
                            have HGE := Lib.hid (HGM.out.trans hH)
                            clear hH
                            go_wp2_with fail
                            go_roundw
                            case rel => exact ⟨m + 1, by omega, by go_num, by rw [HAM.out]; rfl, HGE.out⟩
                            case measure => simp [intOf]; omega
                        · have hm2 : ¬ (m : Int) < (d.length : Int) := by omega
                          have hpe := HPV.out
                          rw [List.take_of_length_le (by omega)] at hpe
                          rw [hpe] at HAT
                          have HGN6 := Lib.hid (HGK.out.trans HGM.out)
                          clear hpe hdi hlm
                          cases iv with
                          | false =>
                            go_wp2_with fail
                            go_roundw
                            case rel => exact ⟨k + 1, by omega, by go_num, by rw [HAT.out]; rfl, HGN6.out⟩
                            case measure => simp [intOf]; omega
                          | true =>
                            go_wp2_with fail
                            go_roundw
                            case rel => exact ⟨k + 1, by omega, by go_num, by rw [HAT.out]; rfl, HGN6.out⟩
                            case measure => simp [intOf]; omega
                    · have hk2 : ¬ (k : Int) < (D.length : Int) := by omega
                      have hie := HIV.out
                      rw [List.take_of_length_le (by omega), HANY.out] at hie
                      subst hie
                      obtain ⟨w6, hw6⟩ : ∃ z : World, z = wr := ⟨_, rfl⟩
                      rw [← hw6] at HGK ⊢
                      clear hw6 hlk
                      have HF6 := Lib.hid (HF5.out.grow HGK.out)
                      have HP6 := Lib.hid (HP5.out.grow HGK.out)
                      have HT6 := Lib.hid (HT5.out.grow HGK.out)
                      have HB6 := Lib.hid (HB5.out.grow HGK.out)
                      go_wp2_with fail
                      go_loopw [31, 32, 33, 34, 35] (fun qv _ _ _ _ wr => ∃ q : Nat, q ≤ FL.length ∧ qv = .int .i64 q ∧ Grow w6 wr) (fun qv _ _ _ _ _ => FL.length - (intOf qv).toNat)
                      case atStart => exact ⟨0, Nat.zero_le _, rfl, Grow.refl _⟩
                      case round =>
                        obtain ⟨q, hq, rfl, hg⟩ := hrel
                        have HGQ := Lib.hid hg
                        clear hg
                        by_cases hlq : q < FL.length
                        · have hq2 : (q : Int) < (FL.length : Int) := by omega
                          by_cases hn1e : n = 1
                          rotate_left
                          · have h1 : ((n : Int) == 1) = false := beq_eq_false_iff_ne.2 (by omega)
                            have HGJ2 := Lib.hid (HG5.out.trans (HGK.out.trans HGQ.out))
                            clear hlq
                            go_wp2_with fail
                            go_roundw
                            case rel => exact ⟨j + 1, by omega, by go_num, HGJ2.out⟩
                            case measure => simp [intOf]; omega
                          have h1 : ((n : Int) == 1) = true := by rw [hn1e]; rfl
                          obtain ⟨i, hi⟩ : ∃ x, FL[q]? = some x := ⟨_, List.getElem?_eq_getElem hlq⟩
                          obtain ⟨r, t, hir, ht, hcp1, hcp2, hcp3⟩ := bd_can HCK.out HX1.out HX2.out (i := i) (by rw [← HFW.out]; exact List.mem_of_getElem? hi)
                          subst hir
                          obtain ⟨gf, of, hfa, hgf, e0⟩ := ints_at (HF6.out.grow (HGQ.out)) hi
                          subst hfa
                          have hti := (HT6.out.grow (HGQ.out)).ins _ (List.mem_of_getElem? ht)
                          have hrl : r < l.length := (List.getElem?_eq_some_iff.1 ht).1
                          obtain ⟨gt, ot, hta, hgt, f0, f1, f2⟩ := tests_at (HT6.out.grow (HGQ.out)).at_ ht
                          subst hta
                          obtain ⟨v, xs, oo, wt⟩ := t
                          obtain ⟨sa, sc, hve, s1, s2, s3⟩ := hti
                          dsimp only at f0 f1 f2 hve
                          subst hve
                          have HTI := Lib.hid (show IntsAt wr (.slice sa xs.length sc) xs from ⟨sa, sc, rfl, s1, s2, s3⟩)
                          have hr2 : (r : Int) < (l.length : Int) := by omega
                          have hr0 : ¬ (r : Int) < 0 := by omega
                          have hr3 : ¬ (r : Int) ≥ (l.length : Int) := by omega
                          obtain ⟨bb, ob, xa, xc, hbe, hbb, c0, hxi⟩ := fam_at (HB6.out.grow (HGQ.out)) HXJ.out
                          cases hbe
                          have HXI := Lib.hid hxi
                          have HC1 := Lib.hid hcp1
                          have HC2 := Lib.hid hcp2
                          have HC3 := Lib.hid hcp3
                          clear hi ht s3 hxi hcp1 hcp2 hcp3 hn1e
                          go_upto_region 54 with fail
                          have hga := (Grow.refl wr).alloc (.cells #[.slice sa xs.length sc, .int .i64 oo, .int .i64 wt] 37)
                          have hbx := heap_alloc_new wr (.cells #[.slice sa xs.length sc, .int .i64 oo, .int .i64 wt] 37)
                          have c1x := hga.cell c0
                          generalize wr.alloc (.cells #[.slice sa xs.length sc, .int .i64 oo, .int .i64 wt] 37) = wa at hga hbx c1x ⊢
                          obtain ⟨g, hgz⟩ : ∃ g, wr.heap.size = g := ⟨_, rfl⟩
                          rw [hgz] at hbx ⊢
                          obtain ⟨u0, u1, u2⟩ := box3 hbx
                          have uz := lt_of_block hbx
                          have HBX := Lib.hid hbx
                          have zbb : b < wa.heap.size := Nat.lt_of_lt_of_le hbb hga.sz
                          have HGA7 := Lib.hid (HGQ.out.trans hga)
                          have HTIA := Lib.hid (HTI.out.grow hga)
                          have HXIA := Lib.hid (HXI.out.grow hga)
                          clear hga hbx hgz e0 f0 f1 f2 c0
                          go_upto_region 54 with fail
                          refine wp_region_held_drew (S := fun X => Grow wa X) (by kernel_rfl) ((Grow.refl wa).drew) (fun hH => ?_)
                          refine wpAnyH_take (i := 0) (v := .slice adp p.length cpp) rfl (by kernel_rfl) (by kernel_rfl) (by kernel_rfl) (fun _ _ _ h => h) (Or.inl ⟨by rfl, ?_⟩) hH ?_
                          · intro w9 hw9
                            go_simp
                          try simp only [List.getElem_toArray, List.getElem_cons_zero, Act.put, List.setIfInBounds_toArray, List.set_cons_zero, List.set_cons_succ]
                          refine wpAnyH_take (i := 1) (v := .agg #[.slice sa xs.length sc, .int .i64 oo, .int .i64 wt]) rfl (by kernel_rfl) (by kernel_rfl) (by kernel_rfl) (fun _ _ _ h => h) (Or.inl ⟨by rfl, ?_⟩) hH ?_
                          · intro w9 hw9
                            obtain ⟨u0, u1, u2⟩ := box3 (hw9.blk HBX.out)
                            have uz9 := lt_of_block (hw9.blk HBX.out)
                            go_simp
                          try simp only [List.getElem_toArray, List.getElem_cons_succ, List.getElem_cons_zero, Act.put, List.setIfInBounds_toArray, List.set_cons_zero, List.set_cons_succ]
                          refine wpAnyH_take (i := 2) (v := .slice (some ⟨b, o, none⟩) BD.length c4) rfl (by kernel_rfl) (by kernel_rfl) (by kernel_rfl) (fun _ _ _ h => h) (Or.inl ⟨by rfl, ?_⟩) hH ?_
                          · intro w9 hw9
                            go_simp
                          try simp only [List.getElem_toArray, List.getElem_cons_succ, List.getElem_cons_zero, Act.put, List.setIfInBounds_toArray, List.set_cons_zero, List.set_cons_succ]
                          refine wpAnyH_take (i := 3) (v := .int .i64 (j : Int)) rfl (by kernel_rfl) (by kernel_rfl) (by kernel_rfl) (fun _ _ _ h => h) (Or.inl ⟨by rfl, ?_⟩) hH ?_
                          · intro w9 hw9
                            go_simp
                          try simp only [List.getElem_toArray, List.getElem_cons_succ, List.getElem_cons_zero, Act.put, List.setIfInBounds_toArray, List.set_cons_zero, List.set_cons_succ]
                          refine wpAnyH_take (i := 4) (v := .pointer (some ⟨b, o + j, none⟩)) rfl (by kernel_rfl) (by kernel_rfl) (by kernel_rfl) (fun _ _ _ h => h) (Or.inl ⟨by rfl, ?_⟩) hH ?_
                          · intro w9 hw9
                            have hz9 := hw9.sz
                            go_simp
                          try simp only [List.getElem_toArray, List.getElem_cons_succ, List.getElem_cons_zero, Act.put, List.setIfInBounds_toArray, List.set_cons_zero, List.set_cons_succ]
                          refine wpAnyH_take (i := 5) (v := .slice xa x.length xc) rfl (by kernel_rfl) (by kernel_rfl) (by kernel_rfl) (fun _ _ _ h => h) (Or.inl ⟨by rfl, ?_⟩) hH ?_
                          · intro w9 hw9
                            have hz9 := hw9.sz
                            have c9 := hw9.cell c1x
                            go_simp
                          try simp only [List.getElem_toArray, List.getElem_cons_succ, List.getElem_cons_zero, Act.put, List.setIfInBounds_toArray, List.set_cons_zero, List.set_cons_succ]
                          refine wpAnyH_ready (rs := [6]) (by kernel_rfl) (by simp) ?_
                          refine AllReadyH.cons rfl (fun K hK => ?_) AllReadyH.nil
                          go_simp
                          refine CanPass_any p ⟨.slice sa xs.length sc, xs, oo, wt⟩ x _ _ _ (HP6.out.grow (HGA7.out.trans hH)) (HTIA.out.grow hH) (HXIA.out.grow hH) (by omega) _ ?_
                          intro w7 v7 hg7 hv7
                          rw [HC1.out, HC2.out]
                          obtain ⟨vs, hvs⟩ : ∃ z, ((cpO p ⟨.slice sa xs.length sc, xs, oo, wt⟩ x).getD []) = z := ⟨_, rfl⟩
                          rw [hvs] at HC3 hv7
                          have HV7 := Lib.hid hv7
                          obtain ⟨a7, c7, hve, s3, s4, jk⟩ := hv7
                          subst hve
                          have hH7 : Grow wa w7 := Grow.trans hH hg7
                          have HH7 := Lib.hid hH7
                          clear hg7 jk hvs
                          go_wp2_with fail
                          refine hK.out _ _ hH7 (fun hH2 => ?_)
                          clear hK K hH
                          have hH := hH2
                          clear hH2 hH7
                          try simp only [List.getElem_toArray, List.getElem_cons_succ, List.getElem_cons_zero, Act.put, List.setIfInBounds_toArray, List.set_cons_zero, List.set_cons_succ]
                          refine wpAnyH_take (i := 7) (v := .tuple #[.slice a7 vs.length c7, .bool true, .int .i64 0]) rfl (by kernel_rfl) (by kernel_rfl) (by kernel_rfl) (fun _ _ _ h => h) (Or.inl ⟨by rfl, ?_⟩) hH ?_
                          · intro w9 hw9
                            go_simp
                          try simp only [List.getElem_toArray, List.getElem_cons_succ, List.getElem_cons_zero, Act.put, List.setIfInBounds_toArray, List.set_cons_zero, List.set_cons_succ]
                          refine wpAnyH_take (i := 8) (v := .slice a7 vs.length c7) rfl (by kernel_rfl) (by kernel_rfl) (by kernel_rfl) (fun _ _ _ h => h) (Or.inl ⟨by rfl, ?_⟩) hH ?_
                          · intro w9 hw9
                            go_simp
                          try simp only [List.getElem_toArray, List.getElem_cons_succ, List.getElem_cons_zero, Act.put, List.setIfInBounds_toArray, List.set_cons_zero, List.set_cons_succ]
                          refine wpAnyH_take (i := 9) (v := .bool true) rfl (by kernel_rfl) (by kernel_rfl) (by kernel_rfl) (fun _ _ _ h => h) (Or.inl ⟨by rfl, ?_⟩) hH ?_
                          · intro w9 hw9
                            go_simp
                          try simp only [List.getElem_toArray, List.getElem_cons_succ, List.getElem_cons_zero, Act.put, List.setIfInBounds_toArray, List.set_cons_zero, List.set_cons_succ]
                          refine wpAnyH_take (i := 10) (v := .int .i64 0) rfl (by kernel_rfl) (by kernel_rfl) (by kernel_rfl) (fun _ _ _ h => h) (Or.inl ⟨by rfl, ?_⟩) hH ?_
                          · intro w9 hw9
                            go_simp
                          try simp only [List.getElem_toArray, List.getElem_cons_succ, List.getElem_cons_zero, Act.put, List.setIfInBounds_toArray, List.set_cons_zero, List.set_cons_succ]
                          refine wpAnyH_take (i := 11) (v := .slice a7 vs.length c7) rfl (by kernel_rfl) (by kernel_rfl) (by kernel_rfl) (fun _ _ _ h => h) (Or.inl ⟨by rfl, ?_⟩) hH ?_
                          · intro w9 hw9
                            go_simp
                          try simp only [List.getElem_toArray, List.getElem_cons_succ, List.getElem_cons_zero, Act.put, List.setIfInBounds_toArray, List.set_cons_zero, List.set_cons_succ]
                          refine wpAnyH_take (i := 12) (v := .bool true) rfl (by kernel_rfl) (by kernel_rfl) (by kernel_rfl) (fun _ _ _ h => h) (Or.inl ⟨by rfl, ?_⟩) hH ?_
                          · intro w9 hw9
                            go_simp
                          try simp only [List.getElem_toArray, List.getElem_cons_succ, List.getElem_cons_zero, Act.put, List.setIfInBounds_toArray, List.set_cons_zero, List.set_cons_succ]
                          refine wpAnyH_take (i := 13) (v := .int .i64 0) rfl (by kernel_rfl) (by kernel_rfl) (by kernel_rfl) (fun _ _ _ h => h) (Or.inl ⟨by rfl, ?_⟩) hH ?_
                          · intro w9 hw9
                            go_simp
                          try simp only [List.getElem_toArray, List.getElem_cons_succ, List.getElem_cons_zero, Act.put, List.setIfInBounds_toArray, List.set_cons_zero, List.set_cons_succ]
                          refine wpAnyH_done (by kernel_rfl) ?_ _
                          clear hH
                          have c7x := HH7.out.cell c1x
                          have z7 : b < w7.heap.size := Nat.lt_of_lt_of_le zbb HH7.out.sz
                          have HG7 := Lib.hid (HGA7.out.trans HH7.out)
                          have HTI7 := Lib.hid (HTIA.out.grow HH7.out)
                          have HXI7 := Lib.hid (HXIA.out.grow HH7.out)
                          have hbx7 := HH7.out.blk HBX.out
                          have HBX7 := Lib.hid hbx7
                          clear u0 u1 u2 uz
                          obtain ⟨u0, u1, u2⟩ := box3 hbx7
                          have uz := lt_of_block hbx7
                          clear c1x hbx7
                          go_upto_region 55 with fail
                          refine wp_region_held_drew (S := fun X => Grow w7 X) (by kernel_rfl) ((Grow.refl w7).drew) (fun hH => ?_)
                          refine wpAnyH_take (i := 0) (v := .int .i64 0) rfl (by kernel_rfl) (by kernel_rfl) (by kernel_rfl) (fun _ _ _ h => h) (Or.inl ⟨by rfl, ?_⟩) hH ?_
                          · intro w9 hw9
                            go_simp
                          try simp only [List.getElem_toArray, List.getElem_cons_zero, Act.put, List.setIfInBounds_toArray, List.set_cons_zero, List.set_cons_succ]
                          refine wpAnyH_take (i := 1) (v := .bool false) rfl (by kernel_rfl) (by kernel_rfl) (by kernel_rfl) (fun _ _ _ h => h) (Or.inl ⟨by rfl, ?_⟩) hH ?_
                          · intro w9 hw9
                            go_simp
                          try simp only [List.getElem_toArray, List.getElem_cons_succ, List.getElem_cons_zero, Act.put, List.setIfInBounds_toArray, List.set_cons_zero, List.set_cons_succ]
                          refine wpAnyH_take (i := 2) (v := .bool false) rfl (by kernel_rfl) (by kernel_rfl) (by kernel_rfl) (fun _ _ _ h => h) (Or.inl ⟨by rfl, ?_⟩) hH ?_
                          · intro w9 hw9
                            go_simp
                          try simp only [List.getElem_toArray, List.getElem_cons_succ, List.getElem_cons_zero, Act.put, List.setIfInBounds_toArray, List.set_cons_zero, List.set_cons_succ]
                          refine wpAnyH_take (i := 3) (v := .bool true) rfl (by kernel_rfl) (by kernel_rfl) (by kernel_rfl) (fun _ _ _ h => h) (Or.inl ⟨by rfl, ?_⟩) hH ?_
                          · intro w9 hw9
                            go_simp
                          try simp only [List.getElem_toArray, List.getElem_cons_succ, List.getElem_cons_zero, Act.put, List.setIfInBounds_toArray, List.set_cons_zero, List.set_cons_succ]
                          refine wpAnyH_take (i := 4) (v := .bool false) rfl (by kernel_rfl) (by kernel_rfl) (by kernel_rfl) (fun _ _ _ h => h) (Or.inl ⟨by rfl, ?_⟩) hH ?_
                          · intro w9 hw9
                            go_simp
                          try simp only [List.getElem_toArray, List.getElem_cons_succ, List.getElem_cons_zero, Act.put, List.setIfInBounds_toArray, List.set_cons_zero, List.set_cons_succ]
                          refine wpAnyH_take (i := 5) (v := .bool false) rfl (by kernel_rfl) (by kernel_rfl) (by kernel_rfl) (fun _ _ _ h => h) (Or.inl ⟨by rfl, ?_⟩) hH ?_
                          · intro w9 hw9
                            go_simp
                          try simp only [List.getElem_toArray, List.getElem_cons_succ, List.getElem_cons_zero, Act.put, List.setIfInBounds_toArray, List.set_cons_zero, List.set_cons_succ]
                          refine wpAnyH_take (i := 6) (v := .bool false) rfl (by kernel_rfl) (by kernel_rfl) (by kernel_rfl) (fun _ _ _ h => h) (Or.inl ⟨by rfl, ?_⟩) hH ?_
                          · intro w9 hw9
                            go_simp
                          try simp only [List.getElem_toArray, List.getElem_cons_succ, List.getElem_cons_zero, Act.put, List.setIfInBounds_toArray, List.set_cons_zero, List.set_cons_succ]
                          refine wpAnyH_take (i := 7) (v := .slice adp p.length cpp) rfl (by kernel_rfl) (by kernel_rfl) (by kernel_rfl) (fun _ _ _ h => h) (Or.inl ⟨by rfl, ?_⟩) hH ?_
                          · intro w9 hw9
                            go_simp
                          try simp only [List.getElem_toArray, List.getElem_cons_succ, List.getElem_cons_zero, Act.put, List.setIfInBounds_toArray, List.set_cons_zero, List.set_cons_succ]
                          refine wpAnyH_take (i := 8) (v := .agg #[.slice sa xs.length sc, .int .i64 oo, .int .i64 wt]) rfl (by kernel_rfl) (by kernel_rfl) (by kernel_rfl) (fun _ _ _ h => h) (Or.inl ⟨by rfl, ?_⟩) hH ?_
                          · intro w9 hw9
                            obtain ⟨u0, u1, u2⟩ := box3 (hw9.blk HBX7.out)
                            have uz9 := lt_of_block (hw9.blk HBX7.out)
                            go_simp
                          try simp only [List.getElem_toArray, List.getElem_cons_succ, List.getElem_cons_zero, Act.put, List.setIfInBounds_toArray, List.set_cons_zero, List.set_cons_succ]
                          refine wpAnyH_take (i := 9) (v := .slice (some ⟨b, o, none⟩) BD.length c4) rfl (by kernel_rfl) (by kernel_rfl) (by kernel_rfl) (fun _ _ _ h => h) (Or.inl ⟨by rfl, ?_⟩) hH ?_
                          · intro w9 hw9
                            go_simp
                          try simp only [List.getElem_toArray, List.getElem_cons_succ, List.getElem_cons_zero, Act.put, List.setIfInBounds_toArray, List.set_cons_zero, List.set_cons_succ]
                          refine wpAnyH_take (i := 10) (v := .int .i64 (j : Int)) rfl (by kernel_rfl) (by kernel_rfl) (by kernel_rfl) (fun _ _ _ h => h) (Or.inl ⟨by rfl, ?_⟩) hH ?_
                          · intro w9 hw9
                            go_simp
                          try simp only [List.getElem_toArray, List.getElem_cons_succ, List.getElem_cons_zero, Act.put, List.setIfInBounds_toArray, List.set_cons_zero, List.set_cons_succ]
                          refine wpAnyH_take (i := 11) (v := .pointer (some ⟨b, o + j, none⟩)) rfl (by kernel_rfl) (by kernel_rfl) (by kernel_rfl) (fun _ _ _ h => h) (Or.inl ⟨by rfl, ?_⟩) hH ?_
                          · intro w9 hw9
                            have hz9 := hw9.sz
                            go_simp
                          try simp only [List.getElem_toArray, List.getElem_cons_succ, List.getElem_cons_zero, Act.put, List.setIfInBounds_toArray, List.set_cons_zero, List.set_cons_succ]
                          refine wpAnyH_take (i := 12) (v := .slice xa x.length xc) rfl (by kernel_rfl) (by kernel_rfl) (by kernel_rfl) (fun _ _ _ h => h) (Or.inl ⟨by rfl, ?_⟩) hH ?_
                          · intro w9 hw9
                            have hz9 := hw9.sz
                            have c9 := hw9.cell c7x
                            go_simp
                          try simp only [List.getElem_toArray, List.getElem_cons_succ, List.getElem_cons_zero, Act.put, List.setIfInBounds_toArray, List.set_cons_zero, List.set_cons_succ]
                          refine wpAnyH_take (i := 13) (v := .slice a7 vs.length c7) rfl (by kernel_rfl) (by kernel_rfl) (by kernel_rfl) (fun _ _ _ h => h) (Or.inl ⟨by rfl, ?_⟩) hH ?_
                          · intro w9 hw9
                            go_simp
                          try simp only [List.getElem_toArray, List.getElem_cons_succ, List.getElem_cons_zero, Act.put, List.setIfInBounds_toArray, List.set_cons_zero, List.set_cons_succ]
                          refine wpAnyH_ready (rs := [14]) (by kernel_rfl) (by simp) ?_
                          refine AllReadyH.cons rfl (fun K hK => ?_) AllReadyH.nil
                          go_simp
                          refine CheckPass_any p ⟨.slice sa xs.length sc, xs, oo, wt⟩ x vs _ _ _ _ (HP6.out.grow (HG7.out.trans hH)) (HTI7.out.grow hH) (HXI7.out.grow hH) (HV7.out.grow hH) (by omega) _ ?_
                          intro w8 hg8
                          rw [HC3.out]
                          have hH8 : Grow w7 w8 := Grow.trans hH hg8
                          have HH8 := Lib.hid hH8
                          clear hg8
                          go_wp2_with fail
                          refine hK.out _ _ hH8 (fun hH2 => ?_)
                          clear hK K hH
                          have hH := hH2
                          clear hH2 hH8
                          try simp only [List.getElem_toArray, List.getElem_cons_succ, List.getElem_cons_zero, Act.put, List.setIfInBounds_toArray, List.set_cons_zero, List.set_cons_succ]
                          refine wpAnyH_take (i := 15) (v := .bool false) rfl (by kernel_rfl) (by kernel_rfl) (by kernel_rfl) (fun _ _ _ h => h) (Or.inl ⟨by rfl, ?_⟩) hH ?_
                          · intro w9 hw9
                            go_simp
                          try simp only [List.getElem_toArray, List.getElem_cons_succ, List.getElem_cons_zero, Act.put, List.setIfInBounds_toArray, List.set_cons_zero, List.set_cons_succ]
                          refine wpAnyH_take (i := 16) (v := .bool false) rfl (by kernel_rfl) (by kernel_rfl) (by kernel_rfl) (fun _ _ _ h => h) (Or.inl ⟨by rfl, ?_⟩) hH ?_
                          · intro w9 hw9
                            go_simp
                          try simp only [List.getElem_toArray, List.getElem_cons_succ, List.getElem_cons_zero, Act.put, List.setIfInBounds_toArray, List.set_cons_zero, List.set_cons_succ]
                          refine wpAnyH_done (by kernel_rfl) ?_ _
                          clear hH
                          have HG8 := Lib.hid (HG7.out.trans HH8.out)
                          clear c7x u0 u1 u2 uz
                          go_wp2_with fail
                          go_roundw
                          case rel => exact ⟨q + 1, by omega, by go_num, HG8.out⟩
                          case measure => simp [intOf]; omega
                        · have hq2 : ¬ (q : Int) < (FL.length : Int) := by omega
                          have HGJ2 := Lib.hid (HG5.out.trans (HGK.out.trans HGQ.out))
                          clear hlq
                          go_wp2_with fail
                          go_roundw
                          case rel => exact ⟨j + 1, by omega, by go_num, HGJ2.out⟩
                          case measure => simp [intOf]; omega
                · have hj2 : ¬ (j : Int) < (BD.length : Int) := by omega
                  have HGN := Lib.hid (HG4.out.trans HGJ.out)
                  clear hlj
                  go_wp2_with fail
                  go_roundw
                  case rel => exact ⟨n + 1, by omega, by omega, by go_num, HGN.out⟩
                  case measure => simp [intOf]; omega
            · have hn2 : ¬ (n : Int) ≤ 2 := by omega
              have HFI := Lib.hid (HR.out wr (HGA.out.trans HG.out))
              clear hlt
              go_wp2_with fail
              exact HFI.out
end Go.Proofs.YtmlbgfnddgbpbaaGreat

namespace Go.Proofs.YtmlbgfnddgbpbaaGreat
open Go.ChangeShapes Go.WideShapes Go.ChangeAt Go.RowKit

theorem Tryz.own : ownKnob Tryz.prog.godebug = none := by kernel_rfl
theorem Tryz.laidOut : laidOutB Tryz.prog = true := by kernel_rfl

set_option maxRecDepth 100000 in
set_option maxHeartbeats 4000000 in
theorem topBlames_lifted (os : Os) (started : os.Started) (H : Type) (enc : TypeId × Value → H) :
    ReturnsInHanded {} Tryz.checked os 16 .any (Rows.topBlamesSpec.pre6 enc Tryz.prog Tryz.f16 Rows.topBlamesRow.domain false) (Rows.topBlamesSpec.post enc Tryz.prog Tryz.f16 false true false false) := by
  refine returnsInHanded_of_change (C := Tryz.checked) Tryz.own started (by kernel_rfl) Tryz.func16
    (ChangeSpec.witness6 (enc := enc) (C := Tryz.checked) false ⟨#[], #[.slice none 0 0, .slice none 0 0], []⟩ 8 (by kernel_rfl) (by kernel_rfl) (by kernel_rfl) (by kernel_rfl)) ?_
  intro W base args ds gs before hval0 hW hcnd _
  have hval : ∀ (j : Nat) t v, Tryz.f16.params[j]? = some t → args[j]? = some v → Value.okWide Tryz.prog W .any base t v := hval0
  have hW' := hW
  obtain ⟨p, q, hA0, hV, rfl, hfz, hnd⟩ := hW
  have hA : DataW.TrodAll enc Tryz.prog W 0 (fun _ => true) true Tryz.f16.params.toList args.toList ds p := hA0
  rw [Tryz.params16] at hA hval
  obtain ⟨v0, v1, d0, d1, p0, p1, rfl, rfl, rfl, h0, h1⟩ := trodAll_two hA
  obtain ⟨rfl, rfl⟩ := trodVars_none hV
  have hk0 := h0
  have hk1 := h1
  obtain ⟨x0, hx0⟩ := arg_lines (hval 0 35 v0 rfl rfl) h0
  obtain ⟨x1, hx1⟩ := arg_tests (hval 1 43 v1 rfl rfl) h1
  clear hA0 hval0
  refine Calls.mono (topBlames_any x0 x1 W v0 v1 hx0 hx1 (fun e W' => e = .returned (.bool true) ∧ Grow W W') (fun W' hg => ⟨rfl, hg⟩)) fun e W' ⟨he, hB⟩ => ?_
  subst he
  have hlt0 : ∀ x ∈ p0, x.block < W.heap.size := fun x hx => hW'.lt x (List.mem_append_left _ (List.mem_append_left _ (hx)))
  have ht0 := Below.trod Tryz.laidOut (by kernel_rfl) (of_decide_eq_true (by kernel_rfl)) hk0 hB hlt0
  have hlt1 : ∀ x ∈ p1, x.block < W.heap.size := fun x hx => hW'.lt x (List.mem_append_left _ (List.mem_append_right _ hx))
  have ht1 := Below.trod Tryz.laidOut (by kernel_rfl) (of_decide_eq_true (by kernel_rfl)) hk1 hB hlt1
  exact ⟨_, rfl, _, _, _, [], _, [], hW', trodAll_mk1 (shut_bool Tryz.underlying4 true), trodAll_mk2 ht0 ht1, rfl, hB.frame _, fun h => by cases h⟩

theorem topBlames_holds : Rows.TopBlamesSaid :=
  OpenClaim.holds_of_wide 16 Tryz.f16 rfl rfl rfl rfl rfl rfl rfl ⟨rfl, rfl, rfl, rfl, rfl⟩ rfl rfl rfl rfl rfl (by kernel_rfl) Tryz.func16 (by kernel_rfl)
    (of_decide_eq_true (by kernel_rfl)) (by unfold Func.isWrapper; first | (rw [if_pos (by decide +kernel)]; kernel_rfl) | (rw [if_neg (by decide +kernel)]; exact ⟨rfl, rfl⟩))
    (fun os started H enc _ => topBlames_lifted os started H enc)

end Go.Proofs.YtmlbgfnddgbpbaaGreat
