/- The walk of the statement SeekCandidates. -/
import Derived.Test.YtbccbokjecdaaaaLawNears
import Derived.Test.YtbccbokjecdaaaaRCandB
import Derived.Test.YtbccbokjecdaaaaSame4
namespace Go.Proofs.Ytbccbokjecdaaaa
open Go.RowKit

theorem long4_any (p : List Ln) (v : Value) (w : World) (hp : LinesAt w v p) (R : Ending → World → Prop) (hR : R (.returned (.bool (decide (100 < p.length)))) w) :
    Calls Try.prog 12 #[v, .slice none 0 0] w R := by
  obtain ⟨a, c, rfl, h1, h2, _⟩ := hp
  by_cases h : 100 < p.length
  · rw [decide_eq_true h] at hR
    have t1 : (p.length : Int) > 100 := by omega
    go_enter Try.func12, Try.ntmps12
    go_wp2
    simpa using hR
  · rw [decide_eq_false h] at hR
    have t1 : ¬ (p.length : Int) > 100 := by omega
    go_enter Try.func12, Try.ntmps12
    go_wp2
    simpa using hR
theorem candE_two {p : List Ln} {at_ kind : Int} (h : candE p at_ kind = 0) : candE p at_ 2 = 0 := by
  have e : ∀ k, candE p at_ k = if valP p = 0 then askE p.length at_ k else valP p := fun _ => rfl
  rw [e] at h ⊢
  by_cases hv : valP p = 0
  · rw [if_pos hv] at h ⊢
    have := askE_ok.1 h
    exact askE_ok.2 (by omega)
  · rw [if_neg hv] at h; exact absurd h hv
theorem candO_sub {p : List Ln} {at_ kind : Int} (h : candE p at_ kind = 0) : (candO p at_ kind).Sublist (candO p at_ 2) := by
  unfold candO
  rw [if_pos h, if_pos (candE_two h)]
  have e : candE p at_ kind = if valP p = 0 then askE p.length at_ kind else valP p := rfl
  rw [e] at h
  by_cases hv : valP p = 0
  · rw [if_pos hv] at h
    obtain ⟨a0, a1, k0, k2⟩ := askE_ok.1 h
    refine cand_sub ?_ k0 k2
    unfold lineAt
    rw [List.getElem?_eq_getElem (show at_.toNat < p.length by omega)]
    exact (valP_ok.1 hv).2 _ (List.getElem_mem _)
  · rw [if_neg hv] at h; exact absurd h hv
theorem candO_len (p : List Ln) (at_ kind : Int) : (candO p at_ kind).length ≤ 10000 := by
  have h1 : allR.length ≤ 1000 := by decide +kernel
  unfold candO
  split
  · next h =>
    have e : candE p at_ kind = if valP p = 0 then askE p.length at_ kind else valP p := rfl
    rw [e] at h
    by_cases hv : valP p = 0
    · rw [if_pos hv] at h
      obtain ⟨a0, a1, k0, k2⟩ := askE_ok.1 h
      rw [cand_eq (by unfold lineAt; rw [List.getElem?_eq_getElem (show at_.toNat < p.length by omega)]; exact (valP_ok.1 hv).2 _ (List.getElem_mem _)) k0 k2]
      have := List.length_filter_le (fun x => inC p (lineAt p at_) kind x && !decide (x = lineAt p at_)) allR
      unfold candR; omega
    · rw [if_neg hv] at h; exact absurd h hv
  · simp
theorem meet_step {B A : List Ln} {i k : Nat} {x y : Ln} (hx : B[i]? = some x) (hy : A[k]? = some y) (h : meet (B.drop i) (A.drop k) = []) : meet (B.drop (i + 1)) (A.drop (if x = y then k + 1 else k)) = [] := by
  obtain ⟨hi, rfl⟩ := List.getElem?_eq_some_iff.1 hx
  obtain ⟨hk, rfl⟩ := List.getElem?_eq_some_iff.1 hy
  rw [List.drop_eq_getElem_cons hi, List.drop_eq_getElem_cons hk] at h
  unfold meet at h
  split
  · next e => rw [if_pos e] at h; exact h
  · next e => rw [if_neg e] at h; rw [List.drop_eq_getElem_cons hk]; exact h
theorem meet_end {B A : List Ln} {i k : Nat} (h : meet (B.drop i) (A.drop k) = []) (hi : B.length ≤ i) (hk : k ≤ A.length) : k = A.length := by
  rw [List.drop_eq_nil_of_le hi] at h
  cases e : A.drop k with
  | nil => have := congrArg List.length e; simp at this; omega
  | cons y ys => rw [e] at h; simp [meet] at h

set_option maxRecDepth 100000 in
set_option maxHeartbeats 16000000 in
theorem seekCandidates_any (p : List Ln) (x0 x1 : Int) (w : World) (vp : Value) (hp : LinesAt w vp p) (R : Ending → World → Prop) (hR : ∀ w', Grow w w' → R (.returned (.bool true)) w') :
    Calls Try.prog 5 #[vp, .agg #[.int .i64 x0, .int .i64 x1]] w R := by
  have HR := Lib.hid hR
  have HP_ := Lib.hid hp
  obtain ⟨adp, cpp, rfl, qp1, qp2, _⟩ := hp
  clear hR
  by_cases gd0 : 100 < p.length
  · have hd0 : decide (100 < p.length) = true := decide_eq_true gd0
    have HD0 := Lib.hid hd0
    clear hd0 gd0
    go_enter Try.func5, Try.ntmps5
    go_wp2_with fail
    obtain ⟨wb0, hwb0⟩ : ∃ W, w.alloc (.cells #[.int .i64 x0, .int .i64 x1] 36) = W := ⟨_, rfl⟩
    rw [hwb0]
    have hgb0 : Grow w wb0 := hwb0 ▸ (Grow.refl w).alloc _
    have hsz0 : wb0.heap.size = w.heap.size + 1 := by rw [← hwb0, World.size_alloc]
    have hbb0 : wb0.heap[w.heap.size]? = some (.cells #[.int .i64 x0, .int .i64 x1] 36 (0, 0)) := by have h := heap_alloc_new w (.cells #[.int .i64 x0, .int .i64 x1] 36); rw [hwb0] at h; exact h
    clear hwb0
    have hgr1 : Grow w wb0 := by first | exact hgb0 | exact Grow.trans ((Grow.refl _).alloc _) hgb0 | exact Grow.trans (((Grow.refl _).alloc _).alloc _) hgb0 | exact Grow.trans ((((Grow.refl _).alloc _).alloc _).alloc _) hgb0 | exact Grow.trans (((((Grow.refl _).alloc _).alloc _).alloc _).alloc _) hgb0 | exact Grow.trans ((Grow.refl _).drewN _) hgb0
    have HP_1 := Lib.hid (HP_.out.grow hgr1)
    have GCH1 := Lib.hid hgr1
    clear hgb0 hgr1 HP_
    obtain ⟨ex0, ex1⟩ := box2 hbb0
    have zx := lt_of_block hbb0
    have HBB0 := Lib.hid hbb0
    clear hbb0
    clear hsz0
    refine long4_any p _ _ (by first | exact HP_1.out | exact HP_1.out.grow ((Grow.refl _).alloc _) | exact HP_1.out.grow (((Grow.refl _).alloc _).alloc _) | exact HP_1.out.grow ((((Grow.refl _).alloc _).alloc _).alloc _) | exact HP_1.out.grow (((((Grow.refl _).alloc _).alloc _).alloc _).alloc _) | exact HP_1.out.grow ((Grow.refl _).drewN _)) _ ?_
    rw [HD0.out]
    go_wp2_with fail
    refine ssame_any _ _ ?_
    intro wz2 hg2 
    have hgr2 : Grow wb0 wz2 := by first | exact hg2 | exact Grow.trans ((Grow.refl _).alloc _) hg2 | exact Grow.trans (((Grow.refl _).alloc _).alloc _) hg2 | exact Grow.trans ((((Grow.refl _).alloc _).alloc _).alloc _) hg2 | exact Grow.trans (((((Grow.refl _).alloc _).alloc _).alloc _).alloc _) hg2 | exact Grow.trans ((Grow.refl _).drewN _) hg2
    have HP_2 := Lib.hid (HP_1.out.grow hgr2)
    have GCH2 := Lib.hid (GCH1.out.trans hgr2)
    have hbx_2 := hgr2.blk HBB0.out
    clear ex0 ex1 zx
    obtain ⟨ex0, ex1⟩ := box2 hbx_2
    have zx := lt_of_block hbx_2
    have HBX0_2 := Lib.hid hbx_2
    clear hbx_2
    clear hg2 hgr2 HP_1 GCH1 HBB0
    go_wp2_with fail
    first | exact HR.out _ (GCH2.out) | exact HR.out _ (Grow.trans GCH2.out ((Grow.refl _).alloc _)) | exact HR.out _ (Grow.trans GCH2.out (((Grow.refl _).alloc _).alloc _)) | exact HR.out _ (Grow.trans GCH2.out ((((Grow.refl _).alloc _).alloc _).alloc _)) | exact HR.out _ (Grow.trans GCH2.out (((((Grow.refl _).alloc _).alloc _).alloc _).alloc _)) | exact HR.out _ (Grow.trans GCH2.out ((Grow.refl _).drewN _))
  · have hd0 : decide (100 < p.length) = false := decide_eq_false gd0
    have HD0 := Lib.hid hd0
    clear hd0
    have hlA := candO_len p x0 x1
    have hlB := candO_len p x0 2
    have hsub := fun h : candE p x0 x1 = 0 => meet_sub (candO_sub h)
    have htwo := fun h : candE p x0 x1 = 0 => candE_two h
    obtain ⟨e, he⟩ : ∃ z, candE p x0 x1 = z := ⟨_, rfl⟩
    obtain ⟨A, hA⟩ : ∃ z, candO p x0 x1 = z := ⟨_, rfl⟩
    obtain ⟨e2, he2⟩ : ∃ z, candE p x0 2 = z := ⟨_, rfl⟩
    obtain ⟨B, hB⟩ : ∃ z, candO p x0 2 = z := ⟨_, rfl⟩
    rw [he, hA, hB] at hsub
    rw [he, he2] at htwo
    rw [hA] at hlA
    rw [hB] at hlB
    have HE := Lib.hid he
    have HAA := Lib.hid hA
    have HE2 := Lib.hid he2
    have HBB := Lib.hid hB
    have HSUB := Lib.hid hsub
    have HTWO := Lib.hid htwo
    clear he hA he2 hB hsub htwo
    by_cases h0 : e = 0
    rotate_left
    · have t1 : (e != 0) = true := by simpa using h0
      have t2 : (e != e) = false := by simp
      clear h0
      go_enter Try.func5, Try.ntmps5
      go_wp2_with fail
      obtain ⟨wb0, hwb0⟩ : ∃ W, w.alloc (.cells #[.int .i64 x0, .int .i64 x1] 36) = W := ⟨_, rfl⟩
      rw [hwb0]
      have hgb0 : Grow w wb0 := hwb0 ▸ (Grow.refl w).alloc _
      have hsz0 : wb0.heap.size = w.heap.size + 1 := by rw [← hwb0, World.size_alloc]
      have hbb0 : wb0.heap[w.heap.size]? = some (.cells #[.int .i64 x0, .int .i64 x1] 36 (0, 0)) := by have h := heap_alloc_new w (.cells #[.int .i64 x0, .int .i64 x1] 36); rw [hwb0] at h; exact h
      clear hwb0
      have hgr1 : Grow w wb0 := by first | exact hgb0 | exact Grow.trans ((Grow.refl _).alloc _) hgb0 | exact Grow.trans (((Grow.refl _).alloc _).alloc _) hgb0 | exact Grow.trans ((((Grow.refl _).alloc _).alloc _).alloc _) hgb0 | exact Grow.trans (((((Grow.refl _).alloc _).alloc _).alloc _).alloc _) hgb0 | exact Grow.trans ((Grow.refl _).drewN _) hgb0
      have HP_1 := Lib.hid (HP_.out.grow hgr1)
      have GCH1 := Lib.hid hgr1
      clear hgb0 hgr1 HP_
      obtain ⟨ex0, ex1⟩ := box2 hbb0
      have zx := lt_of_block hbb0
      have HBB0 := Lib.hid hbb0
      clear hbb0
      clear hsz0
      refine long4_any p _ _ (by first | exact HP_1.out | exact HP_1.out.grow ((Grow.refl _).alloc _) | exact HP_1.out.grow (((Grow.refl _).alloc _).alloc _) | exact HP_1.out.grow ((((Grow.refl _).alloc _).alloc _).alloc _) | exact HP_1.out.grow (((((Grow.refl _).alloc _).alloc _).alloc _).alloc _) | exact HP_1.out.grow ((Grow.refl _).drewN _)) _ ?_
      rw [HD0.out]
      go_wp2_with fail
      refine Candidates_any p x0 x1 _ _ (by first | exact HP_1.out | exact HP_1.out.grow ((Grow.refl _).alloc _) | exact HP_1.out.grow (((Grow.refl _).alloc _).alloc _) | exact HP_1.out.grow ((((Grow.refl _).alloc _).alloc _).alloc _) | exact HP_1.out.grow (((((Grow.refl _).alloc _).alloc _).alloc _).alloc _) | exact HP_1.out.grow ((Grow.refl _).drewN _)) _ ?_
      intro wz2 x2_0 hg2 hx2_0
      have hgr2 : Grow wb0 wz2 := by first | exact hg2 | exact Grow.trans ((Grow.refl _).alloc _) hg2 | exact Grow.trans (((Grow.refl _).alloc _).alloc _) hg2 | exact Grow.trans ((((Grow.refl _).alloc _).alloc _).alloc _) hg2 | exact Grow.trans (((((Grow.refl _).alloc _).alloc _).alloc _).alloc _) hg2 | exact Grow.trans ((Grow.refl _).drewN _) hg2
      have HP_2 := Lib.hid (HP_1.out.grow hgr2)
      have GCH2 := Lib.hid (GCH1.out.trans hgr2)
      have hbx_2 := hgr2.blk HBB0.out
      clear ex0 ex1 zx
      obtain ⟨ex0, ex1⟩ := box2 hbx_2
      have zx := lt_of_block hbx_2
      have HBX0_2 := Lib.hid hbx_2
      clear hbx_2
      clear hg2 hgr2 HP_1 GCH1 HBB0
      rw [HAA.out] at hx2_0
      have hyHXA_2 := hx2_0
      have HXA_2 := Lib.hid hyHXA_2
      obtain ⟨aHXA_2, cHXA_2, rfl, qHXA_21, qHXA_22, _⟩ := hyHXA_2
      clear hx2_0
      rw [HE.out]
      go_wp2_with fail
      refine rCandidates_any p x0 x1 _ _ (by first | exact HP_2.out | exact HP_2.out.grow ((Grow.refl _).alloc _) | exact HP_2.out.grow (((Grow.refl _).alloc _).alloc _) | exact HP_2.out.grow ((((Grow.refl _).alloc _).alloc _).alloc _) | exact HP_2.out.grow (((((Grow.refl _).alloc _).alloc _).alloc _).alloc _) | exact HP_2.out.grow ((Grow.refl _).drewN _)) _ ?_
      intro wz3 x3_0 hg3 hx3_0
      have hgr3 : Grow wz2 wz3 := by first | exact hg3 | exact Grow.trans ((Grow.refl _).alloc _) hg3 | exact Grow.trans (((Grow.refl _).alloc _).alloc _) hg3 | exact Grow.trans ((((Grow.refl _).alloc _).alloc _).alloc _) hg3 | exact Grow.trans (((((Grow.refl _).alloc _).alloc _).alloc _).alloc _) hg3 | exact Grow.trans ((Grow.refl _).drewN _) hg3
      have HP_3 := Lib.hid (HP_2.out.grow hgr3)
      have HXA_3 := Lib.hid (HXA_2.out.grow hgr3)
      have GCH3 := Lib.hid (GCH2.out.trans hgr3)
      have hbx_3 := hgr3.blk HBX0_2.out
      clear ex0 ex1 zx
      obtain ⟨ex0, ex1⟩ := box2 hbx_3
      have zx := lt_of_block hbx_3
      have HBX0_3 := Lib.hid hbx_3
      clear hbx_3
      clear hg3 hgr3 HP_2 HXA_2 GCH2 HBX0_2
      rw [HAA.out] at hx3_0
      have hyHXB_3 := hx3_0
      have HXB_3 := Lib.hid hyHXB_3
      obtain ⟨aHXB_3, cHXB_3, rfl, qHXB_31, qHXB_32, _⟩ := hyHXB_3
      clear hx3_0
      rw [HE.out]
      go_wp2_with fail
      refine rsame4_any A A _ _ _ (by first | exact HXA_3.out | exact HXA_3.out.grow ((Grow.refl _).alloc _) | exact HXA_3.out.grow (((Grow.refl _).alloc _).alloc _) | exact HXA_3.out.grow ((((Grow.refl _).alloc _).alloc _).alloc _) | exact HXA_3.out.grow (((((Grow.refl _).alloc _).alloc _).alloc _).alloc _) | exact HXA_3.out.grow ((Grow.refl _).drewN _)) (by first | exact HXB_3.out | exact HXB_3.out.grow ((Grow.refl _).alloc _) | exact HXB_3.out.grow (((Grow.refl _).alloc _).alloc _) | exact HXB_3.out.grow ((((Grow.refl _).alloc _).alloc _).alloc _) | exact HXB_3.out.grow (((((Grow.refl _).alloc _).alloc _).alloc _).alloc _) | exact HXB_3.out.grow ((Grow.refl _).drewN _)) _ ?_
      intro wz4 hg4 
      have hgr4 : Grow wz3 wz4 := by first | exact hg4 | exact Grow.trans ((Grow.refl _).alloc _) hg4 | exact Grow.trans (((Grow.refl _).alloc _).alloc _) hg4 | exact Grow.trans ((((Grow.refl _).alloc _).alloc _).alloc _) hg4 | exact Grow.trans (((((Grow.refl _).alloc _).alloc _).alloc _).alloc _) hg4 | exact Grow.trans ((Grow.refl _).drewN _) hg4
      have HP_4 := Lib.hid (HP_3.out.grow hgr4)
      have HXA_4 := Lib.hid (HXA_3.out.grow hgr4)
      have HXB_4 := Lib.hid (HXB_3.out.grow hgr4)
      have GCH4 := Lib.hid (GCH3.out.trans hgr4)
      have hbx_4 := hgr4.blk HBX0_3.out
      clear ex0 ex1 zx
      obtain ⟨ex0, ex1⟩ := box2 hbx_4
      have zx := lt_of_block hbx_4
      have HBX0_4 := Lib.hid hbx_4
      clear hbx_4
      clear hg4 hgr4 HP_3 HXA_3 HXB_3 GCH3 HBX0_3
      rw [show decide (A = A) = true from decide_eq_true rfl]
      go_wp2_with fail
      refine ssame_any _ _ ?_
      intro wz5 hg5 
      have hgr5 : Grow wz4 wz5 := by first | exact hg5 | exact Grow.trans ((Grow.refl _).alloc _) hg5 | exact Grow.trans (((Grow.refl _).alloc _).alloc _) hg5 | exact Grow.trans ((((Grow.refl _).alloc _).alloc _).alloc _) hg5 | exact Grow.trans (((((Grow.refl _).alloc _).alloc _).alloc _).alloc _) hg5 | exact Grow.trans ((Grow.refl _).drewN _) hg5
      have HP_5 := Lib.hid (HP_4.out.grow hgr5)
      have HXA_5 := Lib.hid (HXA_4.out.grow hgr5)
      have HXB_5 := Lib.hid (HXB_4.out.grow hgr5)
      have GCH5 := Lib.hid (GCH4.out.trans hgr5)
      have hbx_5 := hgr5.blk HBX0_4.out
      clear ex0 ex1 zx
      obtain ⟨ex0, ex1⟩ := box2 hbx_5
      have zx := lt_of_block hbx_5
      have HBX0_5 := Lib.hid hbx_5
      clear hbx_5
      clear hg5 hgr5 HP_4 HXA_4 HXB_4 GCH4 HBX0_4
      go_wp2_with fail
      first | exact HR.out _ (GCH5.out) | exact HR.out _ (Grow.trans GCH5.out ((Grow.refl _).alloc _)) | exact HR.out _ (Grow.trans GCH5.out (((Grow.refl _).alloc _).alloc _)) | exact HR.out _ (Grow.trans GCH5.out ((((Grow.refl _).alloc _).alloc _).alloc _)) | exact HR.out _ (Grow.trans GCH5.out (((((Grow.refl _).alloc _).alloc _).alloc _).alloc _)) | exact HR.out _ (Grow.trans GCH5.out ((Grow.refl _).drewN _))
    · subst h0
      have HM := Lib.hid (HSUB.out rfl)
      have h2 := HTWO.out rfl
      subst h2
      clear HSUB HTWO
      go_enter Try.func5, Try.ntmps5
      go_wp2_with fail
      obtain ⟨wb0, hwb0⟩ : ∃ W, w.alloc (.cells #[.int .i64 x0, .int .i64 x1] 36) = W := ⟨_, rfl⟩
      rw [hwb0]
      have hgb0 : Grow w wb0 := hwb0 ▸ (Grow.refl w).alloc _
      have hsz0 : wb0.heap.size = w.heap.size + 1 := by rw [← hwb0, World.size_alloc]
      have hbb0 : wb0.heap[w.heap.size]? = some (.cells #[.int .i64 x0, .int .i64 x1] 36 (0, 0)) := by have h := heap_alloc_new w (.cells #[.int .i64 x0, .int .i64 x1] 36); rw [hwb0] at h; exact h
      clear hwb0
      have hgr1 : Grow w wb0 := by first | exact hgb0 | exact Grow.trans ((Grow.refl _).alloc _) hgb0 | exact Grow.trans (((Grow.refl _).alloc _).alloc _) hgb0 | exact Grow.trans ((((Grow.refl _).alloc _).alloc _).alloc _) hgb0 | exact Grow.trans (((((Grow.refl _).alloc _).alloc _).alloc _).alloc _) hgb0 | exact Grow.trans ((Grow.refl _).drewN _) hgb0
      have HP_1 := Lib.hid (HP_.out.grow hgr1)
      have GCH1 := Lib.hid hgr1
      clear hgb0 hgr1 HP_
      obtain ⟨ex0, ex1⟩ := box2 hbb0
      have zx := lt_of_block hbb0
      have HBB0 := Lib.hid hbb0
      clear hbb0
      clear hsz0
      refine long4_any p _ _ (by first | exact HP_1.out | exact HP_1.out.grow ((Grow.refl _).alloc _) | exact HP_1.out.grow (((Grow.refl _).alloc _).alloc _) | exact HP_1.out.grow ((((Grow.refl _).alloc _).alloc _).alloc _) | exact HP_1.out.grow (((((Grow.refl _).alloc _).alloc _).alloc _).alloc _) | exact HP_1.out.grow ((Grow.refl _).drewN _)) _ ?_
      rw [HD0.out]
      go_wp2_with fail
      refine Candidates_any p x0 x1 _ _ (by first | exact HP_1.out | exact HP_1.out.grow ((Grow.refl _).alloc _) | exact HP_1.out.grow (((Grow.refl _).alloc _).alloc _) | exact HP_1.out.grow ((((Grow.refl _).alloc _).alloc _).alloc _) | exact HP_1.out.grow (((((Grow.refl _).alloc _).alloc _).alloc _).alloc _) | exact HP_1.out.grow ((Grow.refl _).drewN _)) _ ?_
      intro wz2 x2_0 hg2 hx2_0
      have hgr2 : Grow wb0 wz2 := by first | exact hg2 | exact Grow.trans ((Grow.refl _).alloc _) hg2 | exact Grow.trans (((Grow.refl _).alloc _).alloc _) hg2 | exact Grow.trans ((((Grow.refl _).alloc _).alloc _).alloc _) hg2 | exact Grow.trans (((((Grow.refl _).alloc _).alloc _).alloc _).alloc _) hg2 | exact Grow.trans ((Grow.refl _).drewN _) hg2
      have HP_2 := Lib.hid (HP_1.out.grow hgr2)
      have GCH2 := Lib.hid (GCH1.out.trans hgr2)
      have hbx_2 := hgr2.blk HBB0.out
      clear ex0 ex1 zx
      obtain ⟨ex0, ex1⟩ := box2 hbx_2
      have zx := lt_of_block hbx_2
      have HBX0_2 := Lib.hid hbx_2
      clear hbx_2
      clear hg2 hgr2 HP_1 GCH1 HBB0
      rw [HAA.out] at hx2_0
      have hyHXA_2 := hx2_0
      have HXA_2 := Lib.hid hyHXA_2
      obtain ⟨aHXA_2, cHXA_2, rfl, qHXA_21, qHXA_22, _⟩ := hyHXA_2
      clear hx2_0
      rw [HE.out]
      go_wp2_with fail
      refine rCandidates_any p x0 x1 _ _ (by first | exact HP_2.out | exact HP_2.out.grow ((Grow.refl _).alloc _) | exact HP_2.out.grow (((Grow.refl _).alloc _).alloc _) | exact HP_2.out.grow ((((Grow.refl _).alloc _).alloc _).alloc _) | exact HP_2.out.grow (((((Grow.refl _).alloc _).alloc _).alloc _).alloc _) | exact HP_2.out.grow ((Grow.refl _).drewN _)) _ ?_
      intro wz3 x3_0 hg3 hx3_0
      have hgr3 : Grow wz2 wz3 := by first | exact hg3 | exact Grow.trans ((Grow.refl _).alloc _) hg3 | exact Grow.trans (((Grow.refl _).alloc _).alloc _) hg3 | exact Grow.trans ((((Grow.refl _).alloc _).alloc _).alloc _) hg3 | exact Grow.trans (((((Grow.refl _).alloc _).alloc _).alloc _).alloc _) hg3 | exact Grow.trans ((Grow.refl _).drewN _) hg3
      have HP_3 := Lib.hid (HP_2.out.grow hgr3)
      have HXA_3 := Lib.hid (HXA_2.out.grow hgr3)
      have GCH3 := Lib.hid (GCH2.out.trans hgr3)
      have hbx_3 := hgr3.blk HBX0_2.out
      clear ex0 ex1 zx
      obtain ⟨ex0, ex1⟩ := box2 hbx_3
      have zx := lt_of_block hbx_3
      have HBX0_3 := Lib.hid hbx_3
      clear hbx_3
      clear hg3 hgr3 HP_2 HXA_2 GCH2 HBX0_2
      rw [HAA.out] at hx3_0
      have hyHXB_3 := hx3_0
      have HXB_3 := Lib.hid hyHXB_3
      obtain ⟨aHXB_3, cHXB_3, rfl, qHXB_31, qHXB_32, _⟩ := hyHXB_3
      clear hx3_0
      rw [HE.out]
      go_wp2_with fail
      refine rsame4_any A A _ _ _ (by first | exact HXA_3.out | exact HXA_3.out.grow ((Grow.refl _).alloc _) | exact HXA_3.out.grow (((Grow.refl _).alloc _).alloc _) | exact HXA_3.out.grow ((((Grow.refl _).alloc _).alloc _).alloc _) | exact HXA_3.out.grow (((((Grow.refl _).alloc _).alloc _).alloc _).alloc _) | exact HXA_3.out.grow ((Grow.refl _).drewN _)) (by first | exact HXB_3.out | exact HXB_3.out.grow ((Grow.refl _).alloc _) | exact HXB_3.out.grow (((Grow.refl _).alloc _).alloc _) | exact HXB_3.out.grow ((((Grow.refl _).alloc _).alloc _).alloc _) | exact HXB_3.out.grow (((((Grow.refl _).alloc _).alloc _).alloc _).alloc _) | exact HXB_3.out.grow ((Grow.refl _).drewN _)) _ ?_
      intro wz4 hg4 
      have hgr4 : Grow wz3 wz4 := by first | exact hg4 | exact Grow.trans ((Grow.refl _).alloc _) hg4 | exact Grow.trans (((Grow.refl _).alloc _).alloc _) hg4 | exact Grow.trans ((((Grow.refl _).alloc _).alloc _).alloc _) hg4 | exact Grow.trans (((((Grow.refl _).alloc _).alloc _).alloc _).alloc _) hg4 | exact Grow.trans ((Grow.refl _).drewN _) hg4
      have HP_4 := Lib.hid (HP_3.out.grow hgr4)
      have HXA_4 := Lib.hid (HXA_3.out.grow hgr4)
      have HXB_4 := Lib.hid (HXB_3.out.grow hgr4)
      have GCH4 := Lib.hid (GCH3.out.trans hgr4)
      have hbx_4 := hgr4.blk HBX0_3.out
      clear ex0 ex1 zx
      obtain ⟨ex0, ex1⟩ := box2 hbx_4
      have zx := lt_of_block hbx_4
      have HBX0_4 := Lib.hid hbx_4
      clear hbx_4
      clear hg4 hgr4 HP_3 HXA_3 HXB_3 GCH3 HBX0_3
      rw [show decide (A = A) = true from decide_eq_true rfl]
      go_wp2_with fail
      refine Candidates_any p x0 2 _ _ (by first | exact HP_4.out | exact HP_4.out.grow ((Grow.refl _).alloc _) | exact HP_4.out.grow (((Grow.refl _).alloc _).alloc _) | exact HP_4.out.grow ((((Grow.refl _).alloc _).alloc _).alloc _) | exact HP_4.out.grow (((((Grow.refl _).alloc _).alloc _).alloc _).alloc _) | exact HP_4.out.grow ((Grow.refl _).drewN _)) _ ?_
      intro wz5 x5_0 hg5 hx5_0
      have hgr5 : Grow wz4 wz5 := by first | exact hg5 | exact Grow.trans ((Grow.refl _).alloc _) hg5 | exact Grow.trans (((Grow.refl _).alloc _).alloc _) hg5 | exact Grow.trans ((((Grow.refl _).alloc _).alloc _).alloc _) hg5 | exact Grow.trans (((((Grow.refl _).alloc _).alloc _).alloc _).alloc _) hg5 | exact Grow.trans ((Grow.refl _).drewN _) hg5
      have HP_5 := Lib.hid (HP_4.out.grow hgr5)
      have HXA_5 := Lib.hid (HXA_4.out.grow hgr5)
      have HXB_5 := Lib.hid (HXB_4.out.grow hgr5)
      have GCH5 := Lib.hid (GCH4.out.trans hgr5)
      have hbx_5 := hgr5.blk HBX0_4.out
      clear ex0 ex1 zx
      obtain ⟨ex0, ex1⟩ := box2 hbx_5
      have zx := lt_of_block hbx_5
      have HBX0_5 := Lib.hid hbx_5
      clear hbx_5
      clear hg5 hgr5 HP_4 HXA_4 HXB_4 GCH4 HBX0_4
      rw [HBB.out] at hx5_0
      have hyHXC_5 := hx5_0
      have HXC_5 := Lib.hid hyHXC_5
      obtain ⟨aHXC_5, cHXC_5, rfl, qHXC_51, qHXC_52, _⟩ := hyHXC_5
      clear hx5_0
      rw [HE2.out]
      go_wp2_with fail
      go_loopw [11, 12] (fun kk ii wr => ∃ i k : Nat, i ≤ B.length ∧ k ≤ A.length ∧ ii = .int .i64 i ∧ kk = .int .i64 k ∧ meet (B.drop i) (A.drop k) = [] ∧ Grow wz5 wr) (fun _ ii _ => B.length - (intOf ii).toNat)
      case atStart => exact ⟨0, 0, by omega, by omega, rfl, rfl, HM.out, Grow.refl _⟩
      case round =>
        obtain ⟨i, k, hi, hk, rfl, rfl, hme, hgr⟩ := hrel
        have HME := Lib.hid hme
        have HGR := Lib.hid hgr
        have hzr := hgr.sz
        clear hme hgr HM
        by_cases hlt : i < B.length
        rotate_left
        · have hkk : k = A.length := meet_end HME.out (by omega) hk
          have t1 : ((k : Int) == (A.length : Int)) = true := by simp; omega
          have t2 : ¬ (i : Int) < (B.length : Int) := by omega
          clear hkk
          go_wp2_with fail
          have HG0 := Lib.hid (GCH5.out.trans HGR.out)
          refine ssame_any _ _ ?_
          intro wz6 hg6 
          have hgr6 : Grow wr wz6 := by first | exact hg6 | exact Grow.trans ((Grow.refl _).alloc _) hg6 | exact Grow.trans (((Grow.refl _).alloc _).alloc _) hg6 | exact Grow.trans ((((Grow.refl _).alloc _).alloc _).alloc _) hg6 | exact Grow.trans (((((Grow.refl _).alloc _).alloc _).alloc _).alloc _) hg6 | exact Grow.trans ((Grow.refl _).drewN _) hg6
          have GCH6 := Lib.hid (HG0.out.trans hgr6)
          clear hg6 hgr6 HG0
          go_wp2_with fail
          first | exact HR.out _ (GCH6.out) | exact HR.out _ (Grow.trans GCH6.out ((Grow.refl _).alloc _)) | exact HR.out _ (Grow.trans GCH6.out (((Grow.refl _).alloc _).alloc _)) | exact HR.out _ (Grow.trans GCH6.out ((((Grow.refl _).alloc _).alloc _).alloc _)) | exact HR.out _ (Grow.trans GCH6.out (((((Grow.refl _).alloc _).alloc _).alloc _).alloc _)) | exact HR.out _ (Grow.trans GCH6.out ((Grow.refl _).drewN _))
        have hi2 : (i : Int) < (B.length : Int) := by omega
        by_cases hlk : k < A.length
        rotate_left
        · have t1 : ((k : Int) == (A.length : Int)) = true := by simp; omega
          have t2 : ¬ (k : Int) < (A.length : Int) := by omega
          go_wp2_with fail
          have HG0 := Lib.hid (GCH5.out.trans HGR.out)
          refine ssame_any _ _ ?_
          intro wz6 hg6 
          have hgr6 : Grow wr wz6 := by first | exact hg6 | exact Grow.trans ((Grow.refl _).alloc _) hg6 | exact Grow.trans (((Grow.refl _).alloc _).alloc _) hg6 | exact Grow.trans ((((Grow.refl _).alloc _).alloc _).alloc _) hg6 | exact Grow.trans (((((Grow.refl _).alloc _).alloc _).alloc _).alloc _) hg6 | exact Grow.trans ((Grow.refl _).drewN _) hg6
          have GCH6 := Lib.hid (HG0.out.trans hgr6)
          clear hg6 hgr6 HG0
          go_wp2_with fail
          first | exact HR.out _ (GCH6.out) | exact HR.out _ (Grow.trans GCH6.out ((Grow.refl _).alloc _)) | exact HR.out _ (Grow.trans GCH6.out (((Grow.refl _).alloc _).alloc _)) | exact HR.out _ (Grow.trans GCH6.out ((((Grow.refl _).alloc _).alloc _).alloc _)) | exact HR.out _ (Grow.trans GCH6.out (((((Grow.refl _).alloc _).alloc _).alloc _).alloc _)) | exact HR.out _ (Grow.trans GCH6.out ((Grow.refl _).drewN _))
        have hk2 : (k : Int) < (A.length : Int) := by omega
        obtain ⟨⟨o1, d1, a1, b1⟩, hx⟩ : ∃ x, B[i]? = some x := ⟨_, List.getElem?_eq_getElem hlt⟩
        obtain ⟨⟨o2, d2, a2, b2⟩, hy⟩ : ∃ x, A[k]? = some x := ⟨_, List.getElem?_eq_getElem hlk⟩
        obtain ⟨gb, ob, rfl, hgb, y0, y1, y2, y3⟩ := lines_at (HXC_5.out.grow HGR.out) hx
        obtain ⟨ga, oa, rfl, hga, z0, z1, z2, z3⟩ := lines_at (HXA_5.out.grow HGR.out) hy
        have HST := Lib.hid (meet_step hx hy HME.out)
        clear hx hy
        clear ex0 ex1 zx
        by_cases heq : (⟨o1, d1, a1, b1⟩ : Ln) = ⟨o2, d2, a2, b2⟩
        · have hst := HST.out
          rw [if_pos heq] at hst
          have HS2 := Lib.hid hst
          clear hst HST
          simp only [Ln.mk.injEq] at heq
          obtain ⟨rfl, rfl, rfl, rfl⟩ := heq
          go_wp2_with (go_quiet (fail))
          go_roundw
          case rel => exact ⟨i + 1, k + 1, by omega, by omega, by go_num, by go_num, HS2.out, HGR.out.drewN _⟩
          case measure => simp [intOf]; omega
        have hst := HST.out
        rw [if_neg heq] at hst
        have HS2 := Lib.hid hst
        clear hst HST
        have HNE := Lib.hid heq
        clear heq
        by_cases gq0 : o1 = o2
        rotate_left
        · have tq1 : (o1 == o2) = false := by simpa using gq0
          have tq2 : (o1 != o2) = true := by simpa using gq0
          go_wp2_with (go_quiet (fail))
          go_roundw
          case rel => exact ⟨i + 1, k, by omega, by omega, by go_num, rfl, HS2.out, HGR.out.drewN _⟩
          case measure => simp [intOf]; omega
        subst gq0
        by_cases gq1 : d1 = d2
        rotate_left
        · have tq1 : (d1 == d2) = false := by simpa using gq1
          have tq2 : (d1 != d2) = true := by simpa using gq1
          go_wp2_with (go_quiet (fail))
          go_roundw
          case rel => exact ⟨i + 1, k, by omega, by omega, by go_num, rfl, HS2.out, HGR.out.drewN _⟩
          case measure => simp [intOf]; omega
        subst gq1
        by_cases gq2 : a1 = a2
        rotate_left
        · have tq1 : (a1 == a2) = false := by simpa using gq2
          have tq2 : (a1 != a2) = true := by simpa using gq2
          go_wp2_with (go_quiet (fail))
          go_roundw
          case rel => exact ⟨i + 1, k, by omega, by omega, by go_num, rfl, HS2.out, HGR.out.drewN _⟩
          case measure => simp [intOf]; omega
        subst gq2
        by_cases gq3 : b1 = b2
        rotate_left
        · have tq1 : (b1 == b2) = false := by simpa using gq3
          have tq2 : (b1 != b2) = true := by simpa using gq3
          go_wp2_with (go_quiet (fail))
          go_roundw
          case rel => exact ⟨i + 1, k, by omega, by omega, by go_num, rfl, HS2.out, HGR.out.drewN _⟩
          case measure => simp [intOf]; omega
        subst gq3
        exact absurd rfl HNE.out
end Go.Proofs.Ytbccbokjecdaaaa
