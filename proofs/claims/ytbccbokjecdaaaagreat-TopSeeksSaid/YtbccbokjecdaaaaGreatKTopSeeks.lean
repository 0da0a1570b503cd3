/-
The statement TopSeeks: a repair that is proposed makes all tests pass, each mutant is seen exactly by the tests that break, and the tests which are enough see as many mutants, for all programs and tests. No condition.
-/
import Derived.Test.YtbccbokjecdaaaaGreatG09
import Derived.Test.YtbccbokjecdaaaaGreatG21
import Derived.Test.YtbccbokjecdaaaaGreatG19
import Derived.Deep.CutRange
import Derived.ProofKit
import Derived.Lib.SmallJoins
import Derived.Test.YtbccbokjecdaaaaGreatG23
namespace Go.Proofs.YtbccbokjecdaaaaGreat
open Go.RowKit

set_option maxRecDepth 100000 in
set_option maxHeartbeats 64000000 in
theorem topSeeks_any (p : List Ln) (l : List Tst) (w : World) (vp vl : Value) (hp : LinesAt w vp p) (hl : TestsAt w vl l) (R : Ending → World → Prop) (hR : ∀ w', Grow w w' → R (.returned (.bool true)) w') :
    Calls Tryz.prog 12 #[vp, vl] w R := by
  have HR := Lib.hid hR
  have HP_ := Lib.hid hp
  obtain ⟨adp, cpp, rfl, qp1, qp2, _⟩ := hp
  have HL_ := Lib.hid hl
  obtain ⟨⟨adl, cpl, rfl, ql1, ql2, _⟩, _⟩ := hl
  clear hR
  by_cases gd0 : 100 < p.length
  · have hd0 : decide (100 < p.length) = true := decide_eq_true gd0
    have HD0 := Lib.hid hd0
    clear hd0 gd0
    go_enter Tryz.func12, Tryz.ntmps12
    go_wp2_with fail
    refine near_any 3 0 0 0 5 0 0 0 _ _ ?_
    intro wz1 hg1 
    have hgr1 : Grow w wz1 := by first | exact hg1 | exact Grow.trans ((Grow.refl _).alloc _) hg1 | exact Grow.trans (((Grow.refl _).alloc _).alloc _) hg1 | exact Grow.trans ((((Grow.refl _).alloc _).alloc _).alloc _) hg1 | exact Grow.trans (((((Grow.refl _).alloc _).alloc _).alloc _).alloc _) hg1 | exact Grow.trans ((Grow.refl _).drewN _) hg1
    have HP_1 := Lib.hid (HP_.out.grow hgr1)
    have HL_1 := Lib.hid (HL_.out.grow hgr1)
    have GCH1 := Lib.hid hgr1
    clear hg1 hgr1 HP_ HL_
    rw [near_top.1, near_top.2]
    go_wp2_with fail
    refine long4_any p _ _ (by first | exact HP_1.out | exact HP_1.out.grow ((Grow.refl _).alloc _) | exact HP_1.out.grow (((Grow.refl _).alloc _).alloc _) | exact HP_1.out.grow ((((Grow.refl _).alloc _).alloc _).alloc _) | exact HP_1.out.grow (((((Grow.refl _).alloc _).alloc _).alloc _).alloc _) | exact HP_1.out.grow ((Grow.refl _).drewN _)) _ ?_
    rw [HD0.out]
    go_wp2_with fail
    first | exact HR.out _ (GCH1.out) | exact HR.out _ (Grow.trans GCH1.out ((Grow.refl _).alloc _)) | exact HR.out _ (Grow.trans GCH1.out (((Grow.refl _).alloc _).alloc _)) | exact HR.out _ (Grow.trans GCH1.out ((((Grow.refl _).alloc _).alloc _).alloc _)) | exact HR.out _ (Grow.trans GCH1.out (((((Grow.refl _).alloc _).alloc _).alloc _).alloc _)) | exact HR.out _ (Grow.trans GCH1.out ((Grow.refl _).drewN _))
  · have hd0 : decide (100 < p.length) = false := decide_eq_false gd0
    have HD0 := Lib.hid hd0
    clear hd0
    obtain ⟨mb, hmb⟩ : ∃ z, manyB l = z := ⟨_, rfl⟩
    have HMB := Lib.hid hmb
    clear hmb
    cases mb with
    | true =>
      go_enter Tryz.func12, Tryz.ntmps12
      go_wp2_with fail
      refine near_any 3 0 0 0 5 0 0 0 _ _ ?_
      intro wz1 hg1 
      have hgr1 : Grow w wz1 := by first | exact hg1 | exact Grow.trans ((Grow.refl _).alloc _) hg1 | exact Grow.trans (((Grow.refl _).alloc _).alloc _) hg1 | exact Grow.trans ((((Grow.refl _).alloc _).alloc _).alloc _) hg1 | exact Grow.trans (((((Grow.refl _).alloc _).alloc _).alloc _).alloc _) hg1 | exact Grow.trans ((Grow.refl _).drewN _) hg1
      have HP_1 := Lib.hid (HP_.out.grow hgr1)
      have HL_1 := Lib.hid (HL_.out.grow hgr1)
      have GCH1 := Lib.hid hgr1
      clear hg1 hgr1 HP_ HL_
      rw [near_top.1, near_top.2]
      go_wp2_with fail
      refine long4_any p _ _ (by first | exact HP_1.out | exact HP_1.out.grow ((Grow.refl _).alloc _) | exact HP_1.out.grow (((Grow.refl _).alloc _).alloc _) | exact HP_1.out.grow ((((Grow.refl _).alloc _).alloc _).alloc _) | exact HP_1.out.grow (((((Grow.refl _).alloc _).alloc _).alloc _).alloc _) | exact HP_1.out.grow ((Grow.refl _).drewN _)) _ ?_
      rw [HD0.out]
      go_wp2_with fail
      refine many_any l _ _ (by first | exact HL_1.out | exact HL_1.out.grow ((Grow.refl _).alloc _) | exact HL_1.out.grow (((Grow.refl _).alloc _).alloc _) | exact HL_1.out.grow ((((Grow.refl _).alloc _).alloc _).alloc _) | exact HL_1.out.grow (((((Grow.refl _).alloc _).alloc _).alloc _).alloc _) | exact HL_1.out.grow ((Grow.refl _).drewN _)) _ ?_
      intro wz2 hg2 
      have hgr2 : Grow wz1 wz2 := by first | exact hg2 | exact Grow.trans ((Grow.refl _).alloc _) hg2 | exact Grow.trans (((Grow.refl _).alloc _).alloc _) hg2 | exact Grow.trans ((((Grow.refl _).alloc _).alloc _).alloc _) hg2 | exact Grow.trans (((((Grow.refl _).alloc _).alloc _).alloc _).alloc _) hg2 | exact Grow.trans ((Grow.refl _).drewN _) hg2
      have HP_2 := Lib.hid (HP_1.out.grow hgr2)
      have HL_2 := Lib.hid (HL_1.out.grow hgr2)
      have GCH2 := Lib.hid (GCH1.out.trans hgr2)
      clear hg2 hgr2 HP_1 HL_1 GCH1
      rw [HMB.out]
      go_wp2_with fail
      first | exact HR.out _ (GCH2.out) | exact HR.out _ (Grow.trans GCH2.out ((Grow.refl _).alloc _)) | exact HR.out _ (Grow.trans GCH2.out (((Grow.refl _).alloc _).alloc _)) | exact HR.out _ (Grow.trans GCH2.out ((((Grow.refl _).alloc _).alloc _).alloc _)) | exact HR.out _ (Grow.trans GCH2.out (((((Grow.refl _).alloc _).alloc _).alloc _).alloc _)) | exact HR.out _ (Grow.trans GCH2.out ((Grow.refl _).drewN _))
    | false =>
      obtain ⟨e, he⟩ : ∃ z, chkT p l = z := ⟨_, rfl⟩
      have HE := Lib.hid he
      obtain ⟨FL, hFL⟩ : ∃ z, ifOK (chkT p l) (whereL (fun t => !passM p t) l) = z := ⟨_, rfl⟩
      have HFL := Lib.hid hFL
      obtain ⟨se, hse⟩ : ∃ z, sgtE p l 0 = z := ⟨_, rfl⟩
      have HSE := Lib.hid hse
      have hsg := sgt_of (p := p) (ts := l)
      rw [hse, he] at hsg
      by_cases h0 : e = 0
      rotate_left
      · rw [if_neg h0] at hsg
        subst hsg
        have t1 : (se != 0) = true := by simpa using h0
        have HN0 := Lib.hid h0
        clear h0 hse he hFL
        go_enter Tryz.func12, Tryz.ntmps12
        go_wp2_with fail
        refine near_any 3 0 0 0 5 0 0 0 _ _ ?_
        intro wz1 hg1 
        have hgr1 : Grow w wz1 := by first | exact hg1 | exact Grow.trans ((Grow.refl _).alloc _) hg1 | exact Grow.trans (((Grow.refl _).alloc _).alloc _) hg1 | exact Grow.trans ((((Grow.refl _).alloc _).alloc _).alloc _) hg1 | exact Grow.trans (((((Grow.refl _).alloc _).alloc _).alloc _).alloc _) hg1 | exact Grow.trans ((Grow.refl _).drewN _) hg1
        have HP_1 := Lib.hid (HP_.out.grow hgr1)
        have HL_1 := Lib.hid (HL_.out.grow hgr1)
        have GCH1 := Lib.hid hgr1
        clear hg1 hgr1 HP_ HL_
        rw [near_top.1, near_top.2]
        go_wp2_with fail
        refine long4_any p _ _ (by first | exact HP_1.out | exact HP_1.out.grow ((Grow.refl _).alloc _) | exact HP_1.out.grow (((Grow.refl _).alloc _).alloc _) | exact HP_1.out.grow ((((Grow.refl _).alloc _).alloc _).alloc _) | exact HP_1.out.grow (((((Grow.refl _).alloc _).alloc _).alloc _).alloc _) | exact HP_1.out.grow ((Grow.refl _).drewN _)) _ ?_
        rw [HD0.out]
        go_wp2_with fail
        refine many_any l _ _ (by first | exact HL_1.out | exact HL_1.out.grow ((Grow.refl _).alloc _) | exact HL_1.out.grow (((Grow.refl _).alloc _).alloc _) | exact HL_1.out.grow ((((Grow.refl _).alloc _).alloc _).alloc _) | exact HL_1.out.grow (((((Grow.refl _).alloc _).alloc _).alloc _).alloc _) | exact HL_1.out.grow ((Grow.refl _).drewN _)) _ ?_
        intro wz2 hg2 
        have hgr2 : Grow wz1 wz2 := by first | exact hg2 | exact Grow.trans ((Grow.refl _).alloc _) hg2 | exact Grow.trans (((Grow.refl _).alloc _).alloc _) hg2 | exact Grow.trans ((((Grow.refl _).alloc _).alloc _).alloc _) hg2 | exact Grow.trans (((((Grow.refl _).alloc _).alloc _).alloc _).alloc _) hg2 | exact Grow.trans ((Grow.refl _).drewN _) hg2
        have HP_2 := Lib.hid (HP_1.out.grow hgr2)
        have HL_2 := Lib.hid (HL_1.out.grow hgr2)
        have GCH2 := Lib.hid (GCH1.out.trans hgr2)
        clear hg2 hgr2 HP_1 HL_1 GCH1
        rw [HMB.out]
        go_wp2_with fail
        refine Failing_any p l _ _ _ (by first | exact HP_2.out | exact HP_2.out.grow ((Grow.refl _).alloc _) | exact HP_2.out.grow (((Grow.refl _).alloc _).alloc _) | exact HP_2.out.grow ((((Grow.refl _).alloc _).alloc _).alloc _) | exact HP_2.out.grow (((((Grow.refl _).alloc _).alloc _).alloc _).alloc _) | exact HP_2.out.grow ((Grow.refl _).drewN _)) (by first | exact HL_2.out | exact HL_2.out.grow ((Grow.refl _).alloc _) | exact HL_2.out.grow (((Grow.refl _).alloc _).alloc _) | exact HL_2.out.grow ((((Grow.refl _).alloc _).alloc _).alloc _) | exact HL_2.out.grow (((((Grow.refl _).alloc _).alloc _).alloc _).alloc _) | exact HL_2.out.grow ((Grow.refl _).drewN _)) _ ?_
        intro wz3 x3_0 hg3 hx3_0
        have hgr3 : Grow wz2 wz3 := by first | exact hg3 | exact Grow.trans ((Grow.refl _).alloc _) hg3 | exact Grow.trans (((Grow.refl _).alloc _).alloc _) hg3 | exact Grow.trans ((((Grow.refl _).alloc _).alloc _).alloc _) hg3 | exact Grow.trans (((((Grow.refl _).alloc _).alloc _).alloc _).alloc _) hg3 | exact Grow.trans ((Grow.refl _).drewN _) hg3
        have HP_3 := Lib.hid (HP_2.out.grow hgr3)
        have HL_3 := Lib.hid (HL_2.out.grow hgr3)
        have GCH3 := Lib.hid (GCH2.out.trans hgr3)
        clear hg3 hgr3 HP_2 HL_2 GCH2
        rw [HFL.out] at hx3_0
        have hyHF_3 := hx3_0.slc encI_len
        have HF_3 := Lib.hid hyHF_3
        obtain ⟨aHF_3, cHF_3, rfl, qHF_31, qHF_32, _⟩ := hyHF_3
        clear hx3_0
        rw [HE.out]
        go_wp2_with fail
        refine Repair_any p l _ _ _ (by first | exact HP_3.out | exact HP_3.out.grow ((Grow.refl _).alloc _) | exact HP_3.out.grow (((Grow.refl _).alloc _).alloc _) | exact HP_3.out.grow ((((Grow.refl _).alloc _).alloc _).alloc _) | exact HP_3.out.grow (((((Grow.refl _).alloc _).alloc _).alloc _).alloc _) | exact HP_3.out.grow ((Grow.refl _).drewN _)) (by first | exact HL_3.out | exact HL_3.out.grow ((Grow.refl _).alloc _) | exact HL_3.out.grow (((Grow.refl _).alloc _).alloc _) | exact HL_3.out.grow ((((Grow.refl _).alloc _).alloc _).alloc _) | exact HL_3.out.grow (((((Grow.refl _).alloc _).alloc _).alloc _).alloc _) | exact HL_3.out.grow ((Grow.refl _).drewN _)) _ ?_
        intro wz4 v4 x4 n4 ok4 hg4 hx4 hr4
        have hgr4 : Grow wz3 wz4 := by first | exact hg4 | exact Grow.trans ((Grow.refl _).alloc _) hg4 | exact Grow.trans (((Grow.refl _).alloc _).alloc _) hg4 | exact Grow.trans ((((Grow.refl _).alloc _).alloc _).alloc _) hg4 | exact Grow.trans (((((Grow.refl _).alloc _).alloc _).alloc _).alloc _) hg4 | exact Grow.trans ((Grow.refl _).drewN _) hg4
        have HP_4 := Lib.hid (HP_3.out.grow hgr4)
        have HL_4 := Lib.hid (HL_3.out.grow hgr4)
        have HF_4 := Lib.hid (HF_3.out.grow hgr4)
        have GCH4 := Lib.hid (GCH3.out.trans hgr4)
        clear hg4 hgr4 HP_3 HL_3 HF_3 GCH3
        have HX_4 := Lib.hid hx4
        obtain ⟨aHX_4, cHX_4, rfl, qHX_41, qHX_42, jk4⟩ := hx4
        clear jk4
        obtain ⟨h1, h2, h3⟩ := rep_err (by rw [HSE.out]; exact HN0.out) hr4
        subst h1 h2 h3
        rw [HSE.out]
        clear hr4
        go_wp2_with fail
        first | exact HR.out _ (GCH4.out) | exact HR.out _ (Grow.trans GCH4.out ((Grow.refl _).alloc _)) | exact HR.out _ (Grow.trans GCH4.out (((Grow.refl _).alloc _).alloc _)) | exact HR.out _ (Grow.trans GCH4.out ((((Grow.refl _).alloc _).alloc _).alloc _)) | exact HR.out _ (Grow.trans GCH4.out (((((Grow.refl _).alloc _).alloc _).alloc _).alloc _)) | exact HR.out _ (Grow.trans GCH4.out ((Grow.refl _).drewN _))
      subst h0
      rw [if_pos rfl] at hsg
      obtain ⟨hv, hvt⟩ := chkT_ok.1 he
      have HFW := Lib.hid (show whereL (fun t => !passM p t) l = FL by rw [← hFL, he, ifOK_ok])
      have HVP := Lib.hid hv
      obtain ⟨M, hM⟩ : ∃ z, mutM p p.length = z := ⟨_, rfl⟩
      have HMM := Lib.hid hM
      have HMO := Lib.hid (show mutO p = M by unfold mutO; rw [hv, ifOK_ok, hM])
      have hMl := mutM_short p p.length
      rw [hM] at hMl
      have hp8 := (valP_ok.1 hv).1
      have hM2 : M.length ≤ 160 := by omega
      obtain ⟨A, hA⟩ : ∃ z, keepE (alB p l) M = z := ⟨_, rfl⟩
      have HAK := Lib.hid hA
      have HAO := Lib.hid (show aliveO p l = A by unfold aliveO aliveM; rw [he, ifOK_ok, hM, hA])
      have hAM : A.length ≤ M.length := by rw [← hA]; exact List.length_filter_le _ _
      have hAM2 : ¬ (A.length : Int) > (M.length : Int) := by omega
      have hAM3 : decide (M.length < A.length) = false := decide_eq_false (by omega)
      obtain ⟨EN, hEN⟩ : ∃ z, enM p l = z := ⟨_, rfl⟩
      have HNK := Lib.hid hEN
      have HNO := Lib.hid (show enO p l = EN by unfold enO; rw [he, ifOK_ok, hEN])
      have hENl := enM_len p l
      rw [hEN] at hENl
      have hEN2 : (EN.length : Int) ≤ (l.length : Int) := by omega
      have HMK := Lib.hid (fun (m : Ed) (h : m ∈ M) => mutant_kills (ts := l) hv hvt (m := m) (by rw [hM]; exact h))
      have hfn := fail_none (p := p) (ts := l)
      rw [HFW.out] at hfn
      have hse8 : (8 : Int) ≠ 0 := by decide
      clear hv hvt hM hA hEN hMl hENl hFL
      have hcs : (se = 8 ∧ (FL.length : Int) = 0) ∨ (se = 0 ∧ ¬ (FL.length : Int) = 0) := by
        cases hap : allPass p l with
        | true => rw [hap, if_pos rfl] at hsg; exact .inl ⟨hsg, by have := hfn.2 hap; omega⟩
        | false => rw [hap, if_neg (by decide)] at hsg; exact .inr ⟨hsg, fun h => by rw [hfn.1 (by omega)] at hap; cases hap⟩
      have HCS := Lib.hid hcs
      clear hcs hsg hfn hse he
      go_enter Tryz.func12, Tryz.ntmps12
      go_wp2_with fail
      refine near_any 3 0 0 0 5 0 0 0 _ _ ?_
      intro wz1 hg1 
      have hgr1 : Grow w wz1 := by first | exact hg1 | exact Grow.trans ((Grow.refl _).alloc _) hg1 | exact Grow.trans (((Grow.refl _).alloc _).alloc _) hg1 | exact Grow.trans ((((Grow.refl _).alloc _).alloc _).alloc _) hg1 | exact Grow.trans (((((Grow.refl _).alloc _).alloc _).alloc _).alloc _) hg1 | exact Grow.trans ((Grow.refl _).drewN _) hg1
      have HP_1 := Lib.hid (HP_.out.grow hgr1)
      have HL_1 := Lib.hid (HL_.out.grow hgr1)
      have GCH1 := Lib.hid hgr1
      clear hg1 hgr1 HP_ HL_
      rw [near_top.1, near_top.2]
      go_wp2_with fail
      refine long4_any p _ _ (by first | exact HP_1.out | exact HP_1.out.grow ((Grow.refl _).alloc _) | exact HP_1.out.grow (((Grow.refl _).alloc _).alloc _) | exact HP_1.out.grow ((((Grow.refl _).alloc _).alloc _).alloc _) | exact HP_1.out.grow (((((Grow.refl _).alloc _).alloc _).alloc _).alloc _) | exact HP_1.out.grow ((Grow.refl _).drewN _)) _ ?_
      rw [HD0.out]
      go_wp2_with fail
      refine many_any l _ _ (by first | exact HL_1.out | exact HL_1.out.grow ((Grow.refl _).alloc _) | exact HL_1.out.grow (((Grow.refl _).alloc _).alloc _) | exact HL_1.out.grow ((((Grow.refl _).alloc _).alloc _).alloc _) | exact HL_1.out.grow (((((Grow.refl _).alloc _).alloc _).alloc _).alloc _) | exact HL_1.out.grow ((Grow.refl _).drewN _)) _ ?_
      intro wz2 hg2 
      have hgr2 : Grow wz1 wz2 := by first | exact hg2 | exact Grow.trans ((Grow.refl _).alloc _) hg2 | exact Grow.trans (((Grow.refl _).alloc _).alloc _) hg2 | exact Grow.trans ((((Grow.refl _).alloc _).alloc _).alloc _) hg2 | exact Grow.trans (((((Grow.refl _).alloc _).alloc _).alloc _).alloc _) hg2 | exact Grow.trans ((Grow.refl _).drewN _) hg2
      have HP_2 := Lib.hid (HP_1.out.grow hgr2)
      have HL_2 := Lib.hid (HL_1.out.grow hgr2)
      have GCH2 := Lib.hid (GCH1.out.trans hgr2)
      clear hg2 hgr2 HP_1 HL_1 GCH1
      rw [HMB.out]
      go_wp2_with fail
      refine Failing_any p l _ _ _ (by first | exact HP_2.out | exact HP_2.out.grow ((Grow.refl _).alloc _) | exact HP_2.out.grow (((Grow.refl _).alloc _).alloc _) | exact HP_2.out.grow ((((Grow.refl _).alloc _).alloc _).alloc _) | exact HP_2.out.grow (((((Grow.refl _).alloc _).alloc _).alloc _).alloc _) | exact HP_2.out.grow ((Grow.refl _).drewN _)) (by first | exact HL_2.out | exact HL_2.out.grow ((Grow.refl _).alloc _) | exact HL_2.out.grow (((Grow.refl _).alloc _).alloc _) | exact HL_2.out.grow ((((Grow.refl _).alloc _).alloc _).alloc _) | exact HL_2.out.grow (((((Grow.refl _).alloc _).alloc _).alloc _).alloc _) | exact HL_2.out.grow ((Grow.refl _).drewN _)) _ ?_
      intro wz3 x3_0 hg3 hx3_0
      have hgr3 : Grow wz2 wz3 := by first | exact hg3 | exact Grow.trans ((Grow.refl _).alloc _) hg3 | exact Grow.trans (((Grow.refl _).alloc _).alloc _) hg3 | exact Grow.trans ((((Grow.refl _).alloc _).alloc _).alloc _) hg3 | exact Grow.trans (((((Grow.refl _).alloc _).alloc _).alloc _).alloc _) hg3 | exact Grow.trans ((Grow.refl _).drewN _) hg3
      have HP_3 := Lib.hid (HP_2.out.grow hgr3)
      have HL_3 := Lib.hid (HL_2.out.grow hgr3)
      have GCH3 := Lib.hid (GCH2.out.trans hgr3)
      clear hg3 hgr3 HP_2 HL_2 GCH2
      rw [HFL.out] at hx3_0
      have hyHF_3 := hx3_0.slc encI_len
      have HF_3 := Lib.hid hyHF_3
      obtain ⟨aHF_3, cHF_3, rfl, qHF_31, qHF_32, _⟩ := hyHF_3
      clear hx3_0
      rw [HE.out]
      go_wp2_with fail
      refine Repair_any p l _ _ _ (by first | exact HP_3.out | exact HP_3.out.grow ((Grow.refl _).alloc _) | exact HP_3.out.grow (((Grow.refl _).alloc _).alloc _) | exact HP_3.out.grow ((((Grow.refl _).alloc _).alloc _).alloc _) | exact HP_3.out.grow (((((Grow.refl _).alloc _).alloc _).alloc _).alloc _) | exact HP_3.out.grow ((Grow.refl _).drewN _)) (by first | exact HL_3.out | exact HL_3.out.grow ((Grow.refl _).alloc _) | exact HL_3.out.grow (((Grow.refl _).alloc _).alloc _) | exact HL_3.out.grow ((((Grow.refl _).alloc _).alloc _).alloc _) | exact HL_3.out.grow (((((Grow.refl _).alloc _).alloc _).alloc _).alloc _) | exact HL_3.out.grow ((Grow.refl _).drewN _)) _ ?_
      intro wz4 v4 x4 n4 ok4 hg4 hx4 hr4
      have hgr4 : Grow wz3 wz4 := by first | exact hg4 | exact Grow.trans ((Grow.refl _).alloc _) hg4 | exact Grow.trans (((Grow.refl _).alloc _).alloc _) hg4 | exact Grow.trans ((((Grow.refl _).alloc _).alloc _).alloc _) hg4 | exact Grow.trans (((((Grow.refl _).alloc _).alloc _).alloc _).alloc _) hg4 | exact Grow.trans ((Grow.refl _).drewN _) hg4
      have HP_4 := Lib.hid (HP_3.out.grow hgr4)
      have HL_4 := Lib.hid (HL_3.out.grow hgr4)
      have HF_4 := Lib.hid (HF_3.out.grow hgr4)
      have GCH4 := Lib.hid (GCH3.out.trans hgr4)
      clear hg4 hgr4 HP_3 HL_3 HF_3 GCH3
      have HX_4 := Lib.hid hx4
      obtain ⟨aHX_4, cHX_4, rfl, qHX_41, qHX_42, jk4⟩ := hx4
      clear jk4
      rw [HSE.out]
      have HRP := Lib.hid hr4
      clear hr4
      go_upto_region 11 with fail
      go_cut [99] from 86 to 99 (fun s wx => s = .bool false ∧ wx = wz4)
      case first =>
        rcases HCS.out with ⟨rfl, hf⟩ | ⟨rfl, hf⟩
        · have hf2 : ((FL.length : Int) == 0) = true := by simpa using hf
          go_wp2_with fail
          go_meet; exact ⟨rfl, rfl⟩
        · have hf2 : ((FL.length : Int) == 0) = false := beq_eq_false_iff_ne.2 hf
          go_wp2_with fail
          go_meet; exact ⟨rfl, rfl⟩
      case rest =>
      obtain ⟨rfl, rfl⟩ := hcut
      obtain ⟨w5, rfl⟩ : ∃ z : World, z = wc := ⟨_, rfl⟩
      go_upto_if 100 with fail
      go_cut [16, 17, 18, 19, 20, 21, 22, 23] from 101 to 158 (fun _ _ _ _ _ _ _ _ wx => Grow w5 wx)
      case first =>
        cases ok4 with
        | false =>
          go_wp2_with fail
          go_meet; exact Grow.refl _
        | true =>
          obtain ⟨hc0, hg0, _, hn0, hn3, hln⟩ := rep_good HRP.out
          obtain ⟨hcd, hcx⟩ := chkT_do hc0
          have HCD := Lib.hid hcd
          have HCX := Lib.hid hcx
          have hgd : allPass (doM p x4) l = true := hg0
          have HGD := Lib.hid hgd
          have hfq := fail_none (p := doM p x4) (ts := l)
          obtain ⟨FQ, hFQ⟩ : ∃ z, whereL (fun t => !passM (doM p x4) t) l = z := ⟨_, rfl⟩
          rw [hFQ] at hfq
          have HFQ := Lib.hid (show ifOK (chkT (doM p x4) l) (whereL (fun t => !passM (doM p x4) t) l) = FQ by rw [hcd, ifOK_ok, hFQ])
          have hfq0 : (FQ.length : Int) = 0 := by have := hfq.2 hgd; omega
          have hfq1 : ((FQ.length : Int) != 0) = false := by rw [hfq0]; rfl
          have HDX := Lib.hid (show (if chkX p x4 [] = 0 then doM p x4 else []) = doM p x4 by rw [hcx, if_pos rfl])
          have hnn0 : ¬ n4 < 0 := by omega
          have hnn3 : ¬ n4 > 3 := by omega
          have HLN := Lib.hid hln
          have HW0 := Lib.hid (Grow.refl w5)
          clear hc0 hg0 hcd hcx hgd hfq hFQ hn0 hn3 hln
          go_wp2_with fail
          refine Do_any p x4 _ _ _ (by first | exact HP_4.out | exact HP_4.out.grow ((Grow.refl _).alloc _) | exact HP_4.out.grow (((Grow.refl _).alloc _).alloc _) | exact HP_4.out.grow ((((Grow.refl _).alloc _).alloc _).alloc _) | exact HP_4.out.grow (((((Grow.refl _).alloc _).alloc _).alloc _).alloc _) | exact HP_4.out.grow ((Grow.refl _).drewN _)) (by first | exact HX_4.out | exact HX_4.out.grow ((Grow.refl _).alloc _) | exact HX_4.out.grow (((Grow.refl _).alloc _).alloc _) | exact HX_4.out.grow ((((Grow.refl _).alloc _).alloc _).alloc _) | exact HX_4.out.grow (((((Grow.refl _).alloc _).alloc _).alloc _).alloc _) | exact HX_4.out.grow ((Grow.refl _).drewN _)) _ ?_
          intro wz5 x5_0 hg5 hx5_0
          have hgr5 : Grow w5 wz5 := by first | exact hg5 | exact Grow.trans ((Grow.refl _).alloc _) hg5 | exact Grow.trans (((Grow.refl _).alloc _).alloc _) hg5 | exact Grow.trans ((((Grow.refl _).alloc _).alloc _).alloc _) hg5 | exact Grow.trans (((((Grow.refl _).alloc _).alloc _).alloc _).alloc _) hg5 | exact Grow.trans ((Grow.refl _).drewN _) hg5
          have HP_5 := Lib.hid (HP_4.out.grow hgr5)
          have HL_5 := Lib.hid (HL_4.out.grow hgr5)
          have HF_5 := Lib.hid (HF_4.out.grow hgr5)
          have HX_5 := Lib.hid (HX_4.out.grow hgr5)
          have GCH5 := Lib.hid (HW0.out.trans hgr5)
          clear hg5 hgr5 HP_4 HL_4 HF_4 HX_4 HW0
          rw [HDX.out] at hx5_0
          have hyHQ_5 := hx5_0
          have HQ_5 := Lib.hid hyHQ_5
          obtain ⟨aHQ_5, cHQ_5, rfl, qHQ_51, qHQ_52, _⟩ := hyHQ_5
          clear hx5_0
          rw [HCX.out]
          go_wp2_with fail
          refine Failing_any (doM p x4) l _ _ _ (by first | exact HQ_5.out | exact HQ_5.out.grow ((Grow.refl _).alloc _) | exact HQ_5.out.grow (((Grow.refl _).alloc _).alloc _) | exact HQ_5.out.grow ((((Grow.refl _).alloc _).alloc _).alloc _) | exact HQ_5.out.grow (((((Grow.refl _).alloc _).alloc _).alloc _).alloc _) | exact HQ_5.out.grow ((Grow.refl _).drewN _)) (by first | exact HL_5.out | exact HL_5.out.grow ((Grow.refl _).alloc _) | exact HL_5.out.grow (((Grow.refl _).alloc _).alloc _) | exact HL_5.out.grow ((((Grow.refl _).alloc _).alloc _).alloc _) | exact HL_5.out.grow (((((Grow.refl _).alloc _).alloc _).alloc _).alloc _) | exact HL_5.out.grow ((Grow.refl _).drewN _)) _ ?_
          intro wz6 x6_0 hg6 hx6_0
          have hgr6 : Grow wz5 wz6 := by first | exact hg6 | exact Grow.trans ((Grow.refl _).alloc _) hg6 | exact Grow.trans (((Grow.refl _).alloc _).alloc _) hg6 | exact Grow.trans ((((Grow.refl _).alloc _).alloc _).alloc _) hg6 | exact Grow.trans (((((Grow.refl _).alloc _).alloc _).alloc _).alloc _) hg6 | exact Grow.trans ((Grow.refl _).drewN _) hg6
          have HP_6 := Lib.hid (HP_5.out.grow hgr6)
          have HL_6 := Lib.hid (HL_5.out.grow hgr6)
          have HF_6 := Lib.hid (HF_5.out.grow hgr6)
          have HX_6 := Lib.hid (HX_5.out.grow hgr6)
          have HQ_6 := Lib.hid (HQ_5.out.grow hgr6)
          have GCH6 := Lib.hid (GCH5.out.trans hgr6)
          clear hg6 hgr6 HP_5 HL_5 HF_5 HX_5 HQ_5 GCH5
          rw [HFQ.out] at hx6_0
          have hyHG_6 := hx6_0.slc encI_len
          have HG_6 := Lib.hid hyHG_6
          obtain ⟨aHG_6, cHG_6, rfl, qHG_61, qHG_62, _⟩ := hyHG_6
          clear hx6_0
          rw [HCD.out]
          rcases HLN.out with hl1 | ⟨hl3, hl2⟩
          · have hl4 : (x4.length : Int) = 1 := by omega
            have hl5 : ((x4.length : Int) != 1) = false := by rw [hl4]; rfl
            clear hl1
            go_wp2_with fail
            refine Repair_any (doM p x4) l _ _ _ (by first | exact HQ_6.out | exact HQ_6.out.grow ((Grow.refl _).alloc _) | exact HQ_6.out.grow (((Grow.refl _).alloc _).alloc _) | exact HQ_6.out.grow ((((Grow.refl _).alloc _).alloc _).alloc _) | exact HQ_6.out.grow (((((Grow.refl _).alloc _).alloc _).alloc _).alloc _) | exact HQ_6.out.grow ((Grow.refl _).drewN _)) (by first | exact HL_6.out | exact HL_6.out.grow ((Grow.refl _).alloc _) | exact HL_6.out.grow (((Grow.refl _).alloc _).alloc _) | exact HL_6.out.grow ((((Grow.refl _).alloc _).alloc _).alloc _) | exact HL_6.out.grow (((((Grow.refl _).alloc _).alloc _).alloc _).alloc _) | exact HL_6.out.grow ((Grow.refl _).drewN _)) _ ?_
            intro wz7 v7 x7 n7 ok7 hg7 hx7 hr7
            have hgr7 : Grow wz6 wz7 := by first | exact hg7 | exact Grow.trans ((Grow.refl _).alloc _) hg7 | exact Grow.trans (((Grow.refl _).alloc _).alloc _) hg7 | exact Grow.trans ((((Grow.refl _).alloc _).alloc _).alloc _) hg7 | exact Grow.trans (((((Grow.refl _).alloc _).alloc _).alloc _).alloc _) hg7 | exact Grow.trans ((Grow.refl _).drewN _) hg7
            have HP_7 := Lib.hid (HP_6.out.grow hgr7)
            have HL_7 := Lib.hid (HL_6.out.grow hgr7)
            have HF_7 := Lib.hid (HF_6.out.grow hgr7)
            have HX_7 := Lib.hid (HX_6.out.grow hgr7)
            have HQ_7 := Lib.hid (HQ_6.out.grow hgr7)
            have HG_7 := Lib.hid (HG_6.out.grow hgr7)
            have GCH7 := Lib.hid (GCH6.out.trans hgr7)
            clear hg7 hgr7 HP_6 HL_6 HF_6 HX_6 HQ_6 HG_6 GCH6
            have HY_7 := Lib.hid hx7
            obtain ⟨aHY_7, cHY_7, rfl, qHY_71, qHY_72, jk7⟩ := hx7
            clear jk7
            obtain ⟨h1, h2⟩ := rep_again HCD.out HGD.out hr7
            subst h2
            rw [h1]
            clear hr7 h1
            go_wp2_with fail
            go_meet; exact GCH7.out
          · have hl4 : (x4.length : Int) = 2 := by omega
            subst hl3
            have hl5 : ((x4.length : Int) != 2) = false := by rw [hl4]; rfl
            have hl6 : ((x4.length : Int) != 1) = true := by rw [hl4]; rfl
            clear hl2
            go_wp2_with fail
            refine Repair_any (doM p x4) l _ _ _ (by first | exact HQ_6.out | exact HQ_6.out.grow ((Grow.refl _).alloc _) | exact HQ_6.out.grow (((Grow.refl _).alloc _).alloc _) | exact HQ_6.out.grow ((((Grow.refl _).alloc _).alloc _).alloc _) | exact HQ_6.out.grow (((((Grow.refl _).alloc _).alloc _).alloc _).alloc _) | exact HQ_6.out.grow ((Grow.refl _).drewN _)) (by first | exact HL_6.out | exact HL_6.out.grow ((Grow.refl _).alloc _) | exact HL_6.out.grow (((Grow.refl _).alloc _).alloc _) | exact HL_6.out.grow ((((Grow.refl _).alloc _).alloc _).alloc _) | exact HL_6.out.grow (((((Grow.refl _).alloc _).alloc _).alloc _).alloc _) | exact HL_6.out.grow ((Grow.refl _).drewN _)) _ ?_
            intro wz7 v7 x7 n7 ok7 hg7 hx7 hr7
            have hgr7 : Grow wz6 wz7 := by first | exact hg7 | exact Grow.trans ((Grow.refl _).alloc _) hg7 | exact Grow.trans (((Grow.refl _).alloc _).alloc _) hg7 | exact Grow.trans ((((Grow.refl _).alloc _).alloc _).alloc _) hg7 | exact Grow.trans (((((Grow.refl _).alloc _).alloc _).alloc _).alloc _) hg7 | exact Grow.trans ((Grow.refl _).drewN _) hg7
            have HP_7 := Lib.hid (HP_6.out.grow hgr7)
            have HL_7 := Lib.hid (HL_6.out.grow hgr7)
            have HF_7 := Lib.hid (HF_6.out.grow hgr7)
            have HX_7 := Lib.hid (HX_6.out.grow hgr7)
            have HQ_7 := Lib.hid (HQ_6.out.grow hgr7)
            have HG_7 := Lib.hid (HG_6.out.grow hgr7)
            have GCH7 := Lib.hid (GCH6.out.trans hgr7)
            clear hg7 hgr7 HP_6 HL_6 HF_6 HX_6 HQ_6 HG_6 GCH6
            have HY_7 := Lib.hid hx7
            obtain ⟨aHY_7, cHY_7, rfl, qHY_71, qHY_72, jk7⟩ := hx7
            clear jk7
            obtain ⟨h1, h2⟩ := rep_again HCD.out HGD.out hr7
            subst h2
            rw [h1]
            clear hr7 h1
            go_wp2_with fail
            go_meet; exact GCH7.out
      case rest =>
      have hgr5 : Grow w5 wc := by first | exact hcut | exact Grow.trans ((Grow.refl _).alloc _) hcut | exact Grow.trans (((Grow.refl _).alloc _).alloc _) hcut | exact Grow.trans ((((Grow.refl _).alloc _).alloc _).alloc _) hcut | exact Grow.trans (((((Grow.refl _).alloc _).alloc _).alloc _).alloc _) hcut | exact Grow.trans ((Grow.refl _).drewN _) hcut
      have HP_5 := Lib.hid (HP_4.out.grow hgr5)
      have HL_5 := Lib.hid (HL_4.out.grow hgr5)
      have HF_5 := Lib.hid (HF_4.out.grow hgr5)
      have HX_5 := Lib.hid (HX_4.out.grow hgr5)
      have GCH5 := Lib.hid (GCH4.out.trans hgr5)
      clear hcut hgr5 HP_4 HL_4 HF_4 HX_4 GCH4
      go_wp2_with fail
      refine Mutants_any p _ _ (by first | exact HP_5.out | exact HP_5.out.grow ((Grow.refl _).alloc _) | exact HP_5.out.grow (((Grow.refl _).alloc _).alloc _) | exact HP_5.out.grow ((((Grow.refl _).alloc _).alloc _).alloc _) | exact HP_5.out.grow (((((Grow.refl _).alloc _).alloc _).alloc _).alloc _) | exact HP_5.out.grow ((Grow.refl _).drewN _)) _ ?_
      intro wz6 x6_0 hg6 hx6_0
      have hgr6 : Grow wc wz6 := by first | exact hg6 | exact Grow.trans ((Grow.refl _).alloc _) hg6 | exact Grow.trans (((Grow.refl _).alloc _).alloc _) hg6 | exact Grow.trans ((((Grow.refl _).alloc _).alloc _).alloc _) hg6 | exact Grow.trans (((((Grow.refl _).alloc _).alloc _).alloc _).alloc _) hg6 | exact Grow.trans ((Grow.refl _).drewN _) hg6
      have HP_6 := Lib.hid (HP_5.out.grow hgr6)
      have HL_6 := Lib.hid (HL_5.out.grow hgr6)
      have HF_6 := Lib.hid (HF_5.out.grow hgr6)
      have HX_6 := Lib.hid (HX_5.out.grow hgr6)
      have GCH6 := Lib.hid (GCH5.out.trans hgr6)
      clear hg6 hgr6 HP_5 HL_5 HF_5 HX_5 GCH5
      rw [HMO.out] at hx6_0
      have hyHM_6 := hx6_0
      have HM_6 := Lib.hid hyHM_6
      obtain ⟨aHM_6, cHM_6, rfl, qHM_61, qHM_62, _⟩ := hyHM_6
      clear hx6_0
      rw [HVP.out]
      go_wp2_with fail
      refine Alive_any p l _ _ _ (by first | exact HP_6.out | exact HP_6.out.grow ((Grow.refl _).alloc _) | exact HP_6.out.grow (((Grow.refl _).alloc _).alloc _) | exact HP_6.out.grow ((((Grow.refl _).alloc _).alloc _).alloc _) | exact HP_6.out.grow (((((Grow.refl _).alloc _).alloc _).alloc _).alloc _) | exact HP_6.out.grow ((Grow.refl _).drewN _)) (by first | exact HL_6.out | exact HL_6.out.grow ((Grow.refl _).alloc _) | exact HL_6.out.grow (((Grow.refl _).alloc _).alloc _) | exact HL_6.out.grow ((((Grow.refl _).alloc _).alloc _).alloc _) | exact HL_6.out.grow (((((Grow.refl _).alloc _).alloc _).alloc _).alloc _) | exact HL_6.out.grow ((Grow.refl _).drewN _)) _ ?_
      intro wz7 x7_0 hg7 hx7_0
      have hgr7 : Grow wz6 wz7 := by first | exact hg7 | exact Grow.trans ((Grow.refl _).alloc _) hg7 | exact Grow.trans (((Grow.refl _).alloc _).alloc _) hg7 | exact Grow.trans ((((Grow.refl _).alloc _).alloc _).alloc _) hg7 | exact Grow.trans (((((Grow.refl _).alloc _).alloc _).alloc _).alloc _) hg7 | exact Grow.trans ((Grow.refl _).drewN _) hg7
      have HP_7 := Lib.hid (HP_6.out.grow hgr7)
      have HL_7 := Lib.hid (HL_6.out.grow hgr7)
      have HF_7 := Lib.hid (HF_6.out.grow hgr7)
      have HX_7 := Lib.hid (HX_6.out.grow hgr7)
      have HM_7 := Lib.hid (HM_6.out.grow hgr7)
      have GCH7 := Lib.hid (GCH6.out.trans hgr7)
      clear hg7 hgr7 HP_6 HL_6 HF_6 HX_6 HM_6 GCH6
      rw [HAO.out] at hx7_0
      have hyHA_7 := hx7_0
      have HA_7 := Lib.hid hyHA_7
      obtain ⟨aHA_7, cHA_7, rfl, qHA_71, qHA_72, _⟩ := hyHA_7
      clear hx7_0
      rw [HE.out]
      go_wp2_with fail
      refine Enough_any p l _ _ _ (by first | exact HP_7.out | exact HP_7.out.grow ((Grow.refl _).alloc _) | exact HP_7.out.grow (((Grow.refl _).alloc _).alloc _) | exact HP_7.out.grow ((((Grow.refl _).alloc _).alloc _).alloc _) | exact HP_7.out.grow (((((Grow.refl _).alloc _).alloc _).alloc _).alloc _) | exact HP_7.out.grow ((Grow.refl _).drewN _)) (by first | exact HL_7.out | exact HL_7.out.grow ((Grow.refl _).alloc _) | exact HL_7.out.grow (((Grow.refl _).alloc _).alloc _) | exact HL_7.out.grow ((((Grow.refl _).alloc _).alloc _).alloc _) | exact HL_7.out.grow (((((Grow.refl _).alloc _).alloc _).alloc _).alloc _) | exact HL_7.out.grow ((Grow.refl _).drewN _)) _ ?_
      intro wz8 x8_0 hg8 hx8_0
      have hgr8 : Grow wz7 wz8 := by first | exact hg8 | exact Grow.trans ((Grow.refl _).alloc _) hg8 | exact Grow.trans (((Grow.refl _).alloc _).alloc _) hg8 | exact Grow.trans ((((Grow.refl _).alloc _).alloc _).alloc _) hg8 | exact Grow.trans (((((Grow.refl _).alloc _).alloc _).alloc _).alloc _) hg8 | exact Grow.trans ((Grow.refl _).drewN _) hg8
      have HP_8 := Lib.hid (HP_7.out.grow hgr8)
      have HL_8 := Lib.hid (HL_7.out.grow hgr8)
      have HF_8 := Lib.hid (HF_7.out.grow hgr8)
      have HX_8 := Lib.hid (HX_7.out.grow hgr8)
      have HM_8 := Lib.hid (HM_7.out.grow hgr8)
      have HA_8 := Lib.hid (HA_7.out.grow hgr8)
      have GCH8 := Lib.hid (GCH7.out.trans hgr8)
      clear hg8 hgr8 HP_7 HL_7 HF_7 HX_7 HM_7 HA_7 GCH7
      rw [HNO.out] at hx8_0
      have hyHN_8 := hx8_0
      have HN_8 := Lib.hid hyHN_8
      obtain ⟨aHN_8, cHN_8, rfl, qHN_81, qHN_82, _⟩ := hyHN_8
      clear hx8_0
      rw [HE.out]
      go_wp2_with fail
      go_loopw [30, 31] (fun kv jv wr => ∃ j : Nat, j ≤ M.length ∧ jv = .int .i64 j ∧ kv = .int .i64 ((keepE (alB p l) (M.take j)).length : Int) ∧ Grow wz8 wr) (fun _ jv _ => M.length - (intOf jv).toNat)
      case atStart => exact ⟨0, Nat.zero_le _, rfl, rfl, Grow.refl _⟩
      case round =>
        obtain ⟨j, hj, rfl, rfl, hg⟩ := hrel
        have HG := Lib.hid hg
        have hqA : (keepE (alB p l) (M.take j)).length ≤ A.length := by
          rw [← HAK.out]
          have hs : (M.take j).Sublist M := List.take_sublist _ _
          exact (hs.filter _).length_le
        have HKT := Lib.hid (fun (m : Ed) (h : M[j]? = some m) => keep_take (F := alB p l) h)
        have HKA := Lib.hid (fun (m : Ed) (h : M[j]? = some m) => keep_at (F := alB p l) h)
        obtain ⟨q, hq⟩ : ∃ q, (keepE (alB p l) (M.take j)).length = q := ⟨_, rfl⟩
        rw [hq] at HKT HKA hqA ⊢
        have HQ := Lib.hid hq
        clear hg hq
        by_cases hlt : j < M.length
        · have hj2 : (j : Int) < (M.length : Int) := by omega
          have hj3 : (j : Int) < 200 := by omega
          obtain ⟨⟨t, op, d, a, b⟩, hx⟩ : ∃ x, M[j]? = some x := ⟨_, List.getElem?_eq_getElem hlt⟩
          obtain ⟨gM, oM, rfl, hgM, e0, e1, e2, e3, e4⟩ := edits_at (HM_8.out.grow HG.out) hx
          obtain ⟨hk0, hkO, halb⟩ := HMK.out _ (List.mem_of_getElem? hx)
          obtain ⟨Lk, hLk⟩ : ∃ z, kilO p l ⟨t, ⟨op, d, a, b⟩⟩ = z := ⟨_, rfl⟩
          rw [hLk] at hkO halb
          have HSEEN := Lib.hid (fun h : 0 < Lk.length => show Lk.any (fun i => EN.contains i) = true by rw [hkO, ← HNK.out]; exact kills_seen (by rw [HMM.out]; exact List.mem_of_getElem? hx) (by rw [← hkO]; exact h))
          have HPASS := Lib.hid (fun (i : Int) (h : i ∈ Lk) => show FL.contains i = false by rw [← HFW.out]; exact kills_pass hk0 (by rw [← hkO]; exact h))
          have HK0 := Lib.hid hk0
          have HLK := Lib.hid hLk
          have hkt := HKT.out _ hx
          have hka := HKA.out _ hx
          have HKTX := Lib.hid hkt
          rw [halb] at hkt hka
          have HKT2 := Lib.hid hkt
          have HKA2 := Lib.hid hka
          clear hx hk0 hkO hLk halb hkt hka HKT HKA HKTX
          go_wp2_with fail
          refine Kills_any p l t op d a b _ _ _ (HP_8.out.grow HG.out) (HL_8.out.grow HG.out) _ ?_
          intro w3 v3 hg3 hv3
          rw [HK0.out]
          rw [HLK.out] at hv3
          have HV3 := Lib.hid hv3
          obtain ⟨a3, c3, rfl, s1, s2, jk3⟩ := hv3
          have m0 := hg3.cell e0
          have m1 := hg3.cell e1
          have m2 := hg3.cell e2
          have m3 := hg3.cell e3
          have m4 := hg3.cell e4
          have hgM3 : gM < w3.heap.size := Nat.lt_of_lt_of_le hgM hg3.sz
          have HG3 := Lib.hid (HG.out.trans hg3)
          clear hg3 jk3 e0 e1 e2 e3 e4
          go_wp2_with fail
          by_cases hl0 : Lk.length = 0
          · have hkf := HKA2.out
            have hd0 : decide (0 < Lk.length) = false := decide_eq_false (by omega)
            rw [hd0] at hkf
            have hat := hkf.1 rfl
            rw [HAK.out] at hat
            have hqa : q < A.length := (List.getElem?_eq_some_iff.1 hat).1
            have hqa2 : (q : Int) < (A.length : Int) := by omega
            have hkt := HKT2.out
            rw [hd0, if_neg (by decide)] at hkt
            have HKTL := Lib.hid hkt
            obtain ⟨gA, oA, rfl, hgA, a0, a1, a2, a3x, a4⟩ := edits_at (HA_8.out.grow HG3.out) hat
            have a3 := a3x
            clear hkf hat hd0 hkt a3x
            refine wp_region_held_drew (S := fun X => Grow w3 X) (by kernel_rfl) ((Grow.refl w3).drew) (fun hH => ?_)
            refine wpAnyH_take (i := 0) (v := .int .i64 (q : Int)) rfl (by kernel_rfl) (by kernel_rfl) (by kernel_rfl) (fun _ _ _ h => h) (Or.inl ⟨by rfl, ?_⟩) hH ?_
            · intro w9 hw9
              go_simp
            simp only [List.getElem_toArray, List.getElem_cons_zero, Act.put, List.setIfInBounds_toArray, List.set_cons_zero, List.set_cons_succ]
            refine wpAnyH_take (i := 1) (v := .slice (some ⟨gA, oA, none⟩) A.length cHA_7) rfl (by kernel_rfl) (by kernel_rfl) (by kernel_rfl) (fun _ _ _ h => h) (Or.inl ⟨by rfl, ?_⟩) hH ?_
            · intro w9 hw9
              go_simp
            simp only [List.getElem_toArray, List.getElem_cons_succ, List.getElem_cons_zero, Act.put, List.setIfInBounds_toArray, List.set_cons_zero, List.set_cons_succ]
            refine wpAnyH_take (i := 2) (v := .int .i64 (A.length : Int)) rfl (by kernel_rfl) (by kernel_rfl) (by kernel_rfl) (fun _ _ _ h => h) (Or.inl ⟨by rfl, ?_⟩) hH ?_
            · intro w9 hw9
              go_simp
            simp only [List.getElem_toArray, List.getElem_cons_succ, List.getElem_cons_zero, Act.put, List.setIfInBounds_toArray, List.set_cons_zero, List.set_cons_succ]
            refine wpAnyH_take (i := 3) (v := .bool true) rfl (by kernel_rfl) (by kernel_rfl) (by kernel_rfl) (fun _ _ _ h => h) (Or.inl ⟨by rfl, ?_⟩) hH ?_
            · intro w9 hw9
              go_simp
            simp only [List.getElem_toArray, List.getElem_cons_succ, List.getElem_cons_zero, Act.put, List.setIfInBounds_toArray, List.set_cons_zero, List.set_cons_succ]
            refine wpAnyH_take (i := 4) (v := .bool true) rfl (by kernel_rfl) (by kernel_rfl) (by kernel_rfl) (fun _ _ _ h => h) (Or.inl ⟨by rfl, ?_⟩) hH ?_
            · intro w9 hw9
              go_simp
            simp only [List.getElem_toArray, List.getElem_cons_succ, List.getElem_cons_zero, Act.put, List.setIfInBounds_toArray, List.set_cons_zero, List.set_cons_succ]
            refine wpAnyH_take (i := 5) (v := .slice (some ⟨gA, oA, none⟩) A.length cHA_7) rfl (by kernel_rfl) (by kernel_rfl) (by kernel_rfl) (fun _ _ _ h => h) (Or.inl ⟨by rfl, ?_⟩) hH ?_
            · intro w9 hw9
              go_simp
            simp only [List.getElem_toArray, List.getElem_cons_succ, List.getElem_cons_zero, Act.put, List.setIfInBounds_toArray, List.set_cons_zero, List.set_cons_succ]
            refine wpAnyH_take (i := 6) (v := .int .i64 (q : Int)) rfl (by kernel_rfl) (by kernel_rfl) (by kernel_rfl) (fun _ _ _ h => h) (Or.inl ⟨by rfl, ?_⟩) hH ?_
            · intro w9 hw9
              go_simp
            simp only [List.getElem_toArray, List.getElem_cons_succ, List.getElem_cons_zero, Act.put, List.setIfInBounds_toArray, List.set_cons_zero, List.set_cons_succ]
            refine wpAnyH_take (i := 7) (v := .pointer (some ⟨gA, oA + q * 5, none⟩)) rfl (by kernel_rfl) (by kernel_rfl) (by kernel_rfl) (fun _ _ _ h => h) (Or.inl ⟨by rfl, ?_⟩) hH ?_
            · intro w9 hw9
              have hszz := hw9.sz
              go_simp
            simp only [List.getElem_toArray, List.getElem_cons_succ, List.getElem_cons_zero, Act.put, List.setIfInBounds_toArray, List.set_cons_zero, List.set_cons_succ]
            refine wpAnyH_take (i := 8) (v := .agg #[.int .i64 t, .int .i64 op, .int .i64 d, .int .i64 a, .int .i64 b]) rfl (by kernel_rfl) (by kernel_rfl) (by kernel_rfl) (fun _ _ _ h => h) (Or.inl ⟨by rfl, ?_⟩) hH ?_
            · intro w9 hw9
              have u0 := hw9.cell a0
              have u1 := hw9.cell a1
              have u2 := hw9.cell a2
              have u3 := hw9.cell a3
              have u4 := hw9.cell a4
              go_simp
            simp only [List.getElem_toArray, List.getElem_cons_succ, List.getElem_cons_zero, Act.put, List.setIfInBounds_toArray, List.set_cons_zero, List.set_cons_succ]
            refine wpAnyH_take (i := 9) (v := .slice (some ⟨gM, oM, none⟩) M.length cHM_6) rfl (by kernel_rfl) (by kernel_rfl) (by kernel_rfl) (fun _ _ _ h => h) (Or.inl ⟨by rfl, ?_⟩) hH ?_
            · intro w9 hw9
              go_simp
            simp only [List.getElem_toArray, List.getElem_cons_succ, List.getElem_cons_zero, Act.put, List.setIfInBounds_toArray, List.set_cons_zero, List.set_cons_succ]
            refine wpAnyH_take (i := 10) (v := .int .i64 (j : Int)) rfl (by kernel_rfl) (by kernel_rfl) (by kernel_rfl) (fun _ _ _ h => h) (Or.inl ⟨by rfl, ?_⟩) hH ?_
            · intro w9 hw9
              go_simp
            simp only [List.getElem_toArray, List.getElem_cons_succ, List.getElem_cons_zero, Act.put, List.setIfInBounds_toArray, List.set_cons_zero, List.set_cons_succ]
            refine wpAnyH_take (i := 11) (v := .pointer (some ⟨gM, oM + j * 5, none⟩)) rfl (by kernel_rfl) (by kernel_rfl) (by kernel_rfl) (fun _ _ _ h => h) (Or.inl ⟨by rfl, ?_⟩) hH ?_
            · intro w9 hw9
              have hszz := hw9.sz
              go_simp
            simp only [List.getElem_toArray, List.getElem_cons_succ, List.getElem_cons_zero, Act.put, List.setIfInBounds_toArray, List.set_cons_zero, List.set_cons_succ]
            refine wpAnyH_take (i := 12) (v := .agg #[.int .i64 t, .int .i64 op, .int .i64 d, .int .i64 a, .int .i64 b]) rfl (by kernel_rfl) (by kernel_rfl) (by kernel_rfl) (fun _ _ _ h => h) (Or.inl ⟨by rfl, ?_⟩) hH ?_
            · intro w9 hw9
              have u0 := hw9.cell m0
              have u1 := hw9.cell m1
              have u2 := hw9.cell m2
              have u3 := hw9.cell m3
              have u4 := hw9.cell m4
              go_simp
            simp only [List.getElem_toArray, List.getElem_cons_succ, List.getElem_cons_zero, Act.put, List.setIfInBounds_toArray, List.set_cons_zero, List.set_cons_succ]
            refine wpAnyH_take (i := 13) (v := .bool true) rfl (by kernel_rfl) (by kernel_rfl) (by kernel_rfl) (fun _ _ _ h => h) (Or.inl ⟨by rfl, ?_⟩) hH ?_
            · intro w9 hw9
              go_simp
            simp only [List.getElem_toArray, List.getElem_cons_succ, List.getElem_cons_zero, Act.put, List.setIfInBounds_toArray, List.set_cons_zero, List.set_cons_succ]
            refine wpAnyH_take (i := 14) (v := .bool true) rfl (by kernel_rfl) (by kernel_rfl) (by kernel_rfl) (fun _ _ _ h => h) (Or.inl ⟨by rfl, ?_⟩) hH ?_
            · intro w9 hw9
              go_simp
            simp only [List.getElem_toArray, List.getElem_cons_succ, List.getElem_cons_zero, Act.put, List.setIfInBounds_toArray, List.set_cons_zero, List.set_cons_succ]
            refine wpAnyH_take (i := 15) (v := .bool true) rfl (by kernel_rfl) (by kernel_rfl) (by kernel_rfl) (fun _ _ _ h => h) (Or.inl ⟨by rfl, ?_⟩) hH ?_
            · intro w9 hw9
              go_simp
            simp only [List.getElem_toArray, List.getElem_cons_succ, List.getElem_cons_zero, Act.put, List.setIfInBounds_toArray, List.set_cons_zero, List.set_cons_succ]
            refine wpAnyH_done (by kernel_rfl) ?_ _
            clear hH
            clear a0 a1 a2 a3 a4 m0 m1 m2 m3 m4
            go_wp2_with fail
            obtain ⟨wo, hwo⟩ : ∃ z : World, z = wr := ⟨_, rfl⟩
            clear hwo
            go_loopw [35, 36] (fun sv nv wr => ∃ n : Nat, n ≤ Lk.length ∧ nv = .int .i64 n ∧ sv = .bool ((Lk.take n).any fun i => EN.contains i) ∧ Grow w3 wr) (fun _ nv _ => Lk.length - (intOf nv).toNat)
            case atStart => exact ⟨0, Nat.zero_le _, rfl, rfl, (by first | exact Grow.refl _ | exact (Grow.refl _).drew)⟩
            case round =>
              obtain ⟨n, hn, rfl, rfl, hg⟩ := hrel
              have HGN := Lib.hid hg
              clear hg
              obtain ⟨sv, hsv⟩ : ∃ z, ((Lk.take n).any fun i => EN.contains i) = z := ⟨_, rfl⟩
              rw [hsv]
              have HSV := Lib.hid hsv
              clear hsv
              have hnl : ¬ (n : Int) < (Lk.length : Int) := by omega
              have hl1 : (Lk.length : Int) = 0 := by omega
              have HQ2 := Lib.hid (show (keepE (alB p l) (M.take (j + 1))).length = q + 1 from HKTL.out)
              clear hn
              go_wp2_with fail
              clear hl1
              go_roundw
              case rel => exact ⟨j + 1, by omega, by go_num, by rw [HQ2.out]; go_num, HG3.out.trans HGN.out⟩
              case measure => simp [intOf]; omega
          · have hkf := HKA2.out
            have hd0 : decide (0 < Lk.length) = true := decide_eq_true (by omega)
            rw [hd0] at hkf
            have hat := hkf.2 rfl
            rw [HAK.out] at hat
            have hkt := HKT2.out
            rw [hd0, if_pos rfl, Nat.add_zero] at hkt
            have HKTL := Lib.hid hkt
            clear hkf hd0 hkt
            by_cases hqa : q < A.length
            · have hqa2 : (q : Int) < (A.length : Int) := by omega
              obtain ⟨⟨t2, op2, d2, a2, b2⟩, hy⟩ : ∃ x, A[q]? = some x := ⟨_, List.getElem?_eq_getElem hqa⟩
              have hdif : t2 ≠ t ∨ op2 ≠ op ∨ d2 ≠ d ∨ a2 ≠ a ∨ b2 ≠ b := by
                refine Classical.byContradiction fun hcon => hat ?_
                simp only [not_or, ne_eq, Classical.not_not] at hcon
                obtain ⟨rfl, rfl, rfl, rfl, rfl⟩ := hcon
                exact hy
              have hyy := edits_at (HA_8.out.grow HG3.out) hy
              obtain ⟨gA, oA, rfl, hgA, a0, a1, a2y, a3, a4⟩ := hyy
              clear hy hat
              refine wp_region_held_drew (S := fun X => Grow w3 X) (by kernel_rfl) ((Grow.refl w3).drew) (fun hH => ?_)
              refine wpAnyH_take (i := 0) (v := .int .i64 (q : Int)) rfl (by kernel_rfl) (by kernel_rfl) (by kernel_rfl) (fun _ _ _ h => h) (Or.inl ⟨by rfl, ?_⟩) hH ?_
              · intro w9 hw9
                go_simp
              simp only [List.getElem_toArray, List.getElem_cons_zero, Act.put, List.setIfInBounds_toArray, List.set_cons_zero, List.set_cons_succ]
              refine wpAnyH_take (i := 1) (v := .slice (some ⟨gA, oA, none⟩) A.length cHA_7) rfl (by kernel_rfl) (by kernel_rfl) (by kernel_rfl) (fun _ _ _ h => h) (Or.inl ⟨by rfl, ?_⟩) hH ?_
              · intro w9 hw9
                go_simp
              simp only [List.getElem_toArray, List.getElem_cons_succ, List.getElem_cons_zero, Act.put, List.setIfInBounds_toArray, List.set_cons_zero, List.set_cons_succ]
              refine wpAnyH_take (i := 2) (v := .int .i64 (A.length : Int)) rfl (by kernel_rfl) (by kernel_rfl) (by kernel_rfl) (fun _ _ _ h => h) (Or.inl ⟨by rfl, ?_⟩) hH ?_
              · intro w9 hw9
                go_simp
              simp only [List.getElem_toArray, List.getElem_cons_succ, List.getElem_cons_zero, Act.put, List.setIfInBounds_toArray, List.set_cons_zero, List.set_cons_succ]
              refine wpAnyH_take (i := 3) (v := .bool true) rfl (by kernel_rfl) (by kernel_rfl) (by kernel_rfl) (fun _ _ _ h => h) (Or.inl ⟨by rfl, ?_⟩) hH ?_
              · intro w9 hw9
                go_simp
              simp only [List.getElem_toArray, List.getElem_cons_succ, List.getElem_cons_zero, Act.put, List.setIfInBounds_toArray, List.set_cons_zero, List.set_cons_succ]
              refine wpAnyH_take (i := 4) (v := .bool true) rfl (by kernel_rfl) (by kernel_rfl) (by kernel_rfl) (fun _ _ _ h => h) (Or.inl ⟨by rfl, ?_⟩) hH ?_
              · intro w9 hw9
                go_simp
              simp only [List.getElem_toArray, List.getElem_cons_succ, List.getElem_cons_zero, Act.put, List.setIfInBounds_toArray, List.set_cons_zero, List.set_cons_succ]
              refine wpAnyH_take (i := 5) (v := .slice (some ⟨gA, oA, none⟩) A.length cHA_7) rfl (by kernel_rfl) (by kernel_rfl) (by kernel_rfl) (fun _ _ _ h => h) (Or.inl ⟨by rfl, ?_⟩) hH ?_
              · intro w9 hw9
                go_simp
              simp only [List.getElem_toArray, List.getElem_cons_succ, List.getElem_cons_zero, Act.put, List.setIfInBounds_toArray, List.set_cons_zero, List.set_cons_succ]
              refine wpAnyH_take (i := 6) (v := .int .i64 (q : Int)) rfl (by kernel_rfl) (by kernel_rfl) (by kernel_rfl) (fun _ _ _ h => h) (Or.inl ⟨by rfl, ?_⟩) hH ?_
              · intro w9 hw9
                go_simp
              simp only [List.getElem_toArray, List.getElem_cons_succ, List.getElem_cons_zero, Act.put, List.setIfInBounds_toArray, List.set_cons_zero, List.set_cons_succ]
              refine wpAnyH_take (i := 7) (v := .pointer (some ⟨gA, oA + q * 5, none⟩)) rfl (by kernel_rfl) (by kernel_rfl) (by kernel_rfl) (fun _ _ _ h => h) (Or.inl ⟨by rfl, ?_⟩) hH ?_
              · intro w9 hw9
                have hszz := hw9.sz
                go_simp
              simp only [List.getElem_toArray, List.getElem_cons_succ, List.getElem_cons_zero, Act.put, List.setIfInBounds_toArray, List.set_cons_zero, List.set_cons_succ]
              refine wpAnyH_take (i := 8) (v := .agg #[.int .i64 t2, .int .i64 op2, .int .i64 d2, .int .i64 a2, .int .i64 b2]) rfl (by kernel_rfl) (by kernel_rfl) (by kernel_rfl) (fun _ _ _ h => h) (Or.inl ⟨by rfl, ?_⟩) hH ?_
              · intro w9 hw9
                have u0 := hw9.cell a0
                have u1 := hw9.cell a1
                have u2 := hw9.cell a2y
                have u3 := hw9.cell a3
                have u4 := hw9.cell a4
                go_simp
              simp only [List.getElem_toArray, List.getElem_cons_succ, List.getElem_cons_zero, Act.put, List.setIfInBounds_toArray, List.set_cons_zero, List.set_cons_succ]
              refine wpAnyH_take (i := 9) (v := .slice (some ⟨gM, oM, none⟩) M.length cHM_6) rfl (by kernel_rfl) (by kernel_rfl) (by kernel_rfl) (fun _ _ _ h => h) (Or.inl ⟨by rfl, ?_⟩) hH ?_
              · intro w9 hw9
                go_simp
              simp only [List.getElem_toArray, List.getElem_cons_succ, List.getElem_cons_zero, Act.put, List.setIfInBounds_toArray, List.set_cons_zero, List.set_cons_succ]
              refine wpAnyH_take (i := 10) (v := .int .i64 (j : Int)) rfl (by kernel_rfl) (by kernel_rfl) (by kernel_rfl) (fun _ _ _ h => h) (Or.inl ⟨by rfl, ?_⟩) hH ?_
              · intro w9 hw9
                go_simp
              simp only [List.getElem_toArray, List.getElem_cons_succ, List.getElem_cons_zero, Act.put, List.setIfInBounds_toArray, List.set_cons_zero, List.set_cons_succ]
              refine wpAnyH_take (i := 11) (v := .pointer (some ⟨gM, oM + j * 5, none⟩)) rfl (by kernel_rfl) (by kernel_rfl) (by kernel_rfl) (fun _ _ _ h => h) (Or.inl ⟨by rfl, ?_⟩) hH ?_
              · intro w9 hw9
                have hszz := hw9.sz
                go_simp
              simp only [List.getElem_toArray, List.getElem_cons_succ, List.getElem_cons_zero, Act.put, List.setIfInBounds_toArray, List.set_cons_zero, List.set_cons_succ]
              refine wpAnyH_take (i := 12) (v := .agg #[.int .i64 t, .int .i64 op, .int .i64 d, .int .i64 a, .int .i64 b]) rfl (by kernel_rfl) (by kernel_rfl) (by kernel_rfl) (fun _ _ _ h => h) (Or.inl ⟨by rfl, ?_⟩) hH ?_
              · intro w9 hw9
                have u0 := hw9.cell m0
                have u1 := hw9.cell m1
                have u2 := hw9.cell m2
                have u3 := hw9.cell m3
                have u4 := hw9.cell m4
                go_simp
              simp only [List.getElem_toArray, List.getElem_cons_succ, List.getElem_cons_zero, Act.put, List.setIfInBounds_toArray, List.set_cons_zero, List.set_cons_succ]
              refine wpAnyH_take (i := 13) (v := .bool false) rfl (by kernel_rfl) (by kernel_rfl) (by kernel_rfl) (fun _ _ _ h => h) (Or.inl ⟨by rfl, ?_⟩) hH ?_
              · intro w9 hw9
                rcases hdif with hd | hd | hd | hd | hd
                · have tq1 : (t2 == t) = false := beq_eq_false_iff_ne.2 hd
                  go_simp
                · have tq1 : (op2 == op) = false := beq_eq_false_iff_ne.2 hd
                  go_simp
                · have tq1 : (d2 == d) = false := beq_eq_false_iff_ne.2 hd
                  go_simp
                · have tq1 : (a2 == a) = false := beq_eq_false_iff_ne.2 hd
                  go_simp
                · have tq1 : (b2 == b) = false := beq_eq_false_iff_ne.2 hd
                  go_simp
              simp only [List.getElem_toArray, List.getElem_cons_succ, List.getElem_cons_zero, Act.put, List.setIfInBounds_toArray, List.set_cons_zero, List.set_cons_succ]
              refine wpAnyH_take (i := 14) (v := .bool false) rfl (by kernel_rfl) (by kernel_rfl) (by kernel_rfl) (fun _ _ _ h => h) (Or.inl ⟨by rfl, ?_⟩) hH ?_
              · intro w9 hw9
                go_simp
              simp only [List.getElem_toArray, List.getElem_cons_succ, List.getElem_cons_zero, Act.put, List.setIfInBounds_toArray, List.set_cons_zero, List.set_cons_succ]
              refine wpAnyH_take (i := 15) (v := .bool false) rfl (by kernel_rfl) (by kernel_rfl) (by kernel_rfl) (fun _ _ _ h => h) (Or.inl ⟨by rfl, ?_⟩) hH ?_
              · intro w9 hw9
                go_simp
              simp only [List.getElem_toArray, List.getElem_cons_succ, List.getElem_cons_zero, Act.put, List.setIfInBounds_toArray, List.set_cons_zero, List.set_cons_succ]
              refine wpAnyH_done (by kernel_rfl) ?_ _
              clear hH
              clear a0 a1 a2y a3 a4 m0 m1 m2 m3 m4 hdif
              go_wp2_with fail
              obtain ⟨wo, hwo⟩ : ∃ z : World, z = wr := ⟨_, rfl⟩
              clear hwo
              go_loopw [35, 36] (fun sv nv wr => ∃ n : Nat, n ≤ Lk.length ∧ nv = .int .i64 n ∧ sv = .bool ((Lk.take n).any fun i => EN.contains i) ∧ Grow w3 wr) (fun _ nv _ => Lk.length - (intOf nv).toNat)
              case atStart => exact ⟨0, Nat.zero_le _, rfl, rfl, (by first | exact Grow.refl _ | exact (Grow.refl _).drew)⟩
              case round =>
                obtain ⟨n, hn, rfl, rfl, hg⟩ := hrel
                have HGN := Lib.hid hg
                clear hg
                obtain ⟨sv, hsv⟩ : ∃ z, ((Lk.take n).any fun i => EN.contains i) = z := ⟨_, rfl⟩
                rw [hsv]
                have HSV := Lib.hid hsv
                clear hsv
                by_cases hnl : n < Lk.length
                · have hn2 : (n : Int) < (Lk.length : Int) := by omega
                  obtain ⟨u, hu⟩ : ∃ x, Lk[n]? = some x := ⟨_, List.getElem?_eq_getElem hnl⟩
                  have HPU := Lib.hid (HPASS.out u (List.mem_of_getElem? hu))
                  have hat := any_take (fun i => EN.contains i) hu
                  rw [HSV.out] at hat
                  have HAT := Lib.hid hat
                  obtain ⟨gi, oi, rfl, hgi, i0⟩ := ints_at (HV3.out.grow HGN.out) hu
                  clear hu hat
                  cases sv with
                  | true =>
                    go_wp2_with fail
                    refine has4_any FL u _ _ (HF_8.out.grow (HG3.out.trans HGN.out)) _ ?_
                    intro w7 hgf
                    rw [HPU.out]
                    have HG7 := Lib.hid (HGN.out.trans hgf)
                    clear hgf
                    go_wp2_with fail
                    go_roundw
                    case rel => exact ⟨n + 1, by omega, by go_num, by rw [HAT.out]; rfl, HG7.out⟩
                    case measure => simp [intOf]; omega
                  | false =>
                    obtain ⟨ec, hec⟩ : ∃ z, EN.contains u = z := ⟨_, rfl⟩
                    have HEC := Lib.hid hec
                    rw [hec] at HAT
                    clear hec
                    go_wp2_with fail
                    refine has4_any EN u _ _ (HN_8.out.grow (HG3.out.trans HGN.out)) _ ?_
                    intro w6 hg6
                    rw [HEC.out]
                    have i1 := hg6.cell i0
                    have hgi6 : gi < w6.heap.size := Nat.lt_of_lt_of_le hgi hg6.sz
                    have HG6 := Lib.hid (HGN.out.trans hg6)
                    clear hg6
                    go_wp2_with fail
                    refine has4_any FL u _ _ (HF_8.out.grow (HG3.out.trans HG6.out)) _ ?_
                    intro w7 hgf
                    rw [HPU.out]
                    have HG7 := Lib.hid (HG6.out.trans hgf)
                    clear hgf
                    go_wp2_with fail
                    go_roundw
                    case rel => exact ⟨n + 1, by omega, by go_num, by rw [HAT.out]; rfl, HG7.out⟩
                    case measure => simp [intOf]; omega
                · have hne : n = Lk.length := by omega
                  have hn2 : ¬ (n : Int) < (Lk.length : Int) := by omega
                  have hsv := HSV.out
                  rw [hne, List.take_length, HSEEN.out (by omega)] at hsv
                  subst hsv
                  have HQ2 := Lib.hid (show (keepE (alB p l) (M.take (j + 1))).length = q from HKTL.out)
                  have hl1 : ¬ (Lk.length : Int) = 0 := by omega
                  have hl2 : ((Lk.length : Int) == 0) = false := beq_eq_false_iff_ne.2 hl1
                  clear hne
                  go_wp2_with fail
                  go_roundw
                  case rel => exact ⟨j + 1, by omega, by go_num, by rw [HQ2.out], HG3.out.trans HGN.out⟩
                  case measure => simp [intOf]; omega
            · have hqa2 : ¬ (q : Int) < (A.length : Int) := by omega
              clear hat
              refine wp_region_held_drew (S := fun X => Grow w3 X) (by kernel_rfl) ((Grow.refl w3).drew) (fun hH => ?_)
              refine wpAnyH_take (i := 0) (v := .int .i64 (q : Int)) rfl (by kernel_rfl) (by kernel_rfl) (by kernel_rfl) (fun _ _ _ h => h) (Or.inl ⟨by rfl, ?_⟩) hH ?_
              · intro w9 hw9
                go_simp
              simp only [List.getElem_toArray, List.getElem_cons_zero, Act.put, List.setIfInBounds_toArray, List.set_cons_zero, List.set_cons_succ]
              refine wpAnyH_take (i := 1) (v := .slice aHA_7 A.length cHA_7) rfl (by kernel_rfl) (by kernel_rfl) (by kernel_rfl) (fun _ _ _ h => h) (Or.inl ⟨by rfl, ?_⟩) hH ?_
              · intro w9 hw9
                go_simp
              simp only [List.getElem_toArray, List.getElem_cons_succ, List.getElem_cons_zero, Act.put, List.setIfInBounds_toArray, List.set_cons_zero, List.set_cons_succ]
              refine wpAnyH_take (i := 2) (v := .int .i64 (A.length : Int)) rfl (by kernel_rfl) (by kernel_rfl) (by kernel_rfl) (fun _ _ _ h => h) (Or.inl ⟨by rfl, ?_⟩) hH ?_
              · intro w9 hw9
                go_simp
              simp only [List.getElem_toArray, List.getElem_cons_succ, List.getElem_cons_zero, Act.put, List.setIfInBounds_toArray, List.set_cons_zero, List.set_cons_succ]
              refine wpAnyH_take (i := 3) (v := .bool false) rfl (by kernel_rfl) (by kernel_rfl) (by kernel_rfl) (fun _ _ _ h => h) (Or.inl ⟨by rfl, ?_⟩) hH ?_
              · intro w9 hw9
                go_simp
              simp only [List.getElem_toArray, List.getElem_cons_succ, List.getElem_cons_zero, Act.put, List.setIfInBounds_toArray, List.set_cons_zero, List.set_cons_succ]
              refine wpAnyH_take (i := 4) (v := .bool false) rfl (by kernel_rfl) (by kernel_rfl) (by kernel_rfl) (fun _ _ _ h => h) (Or.inl ⟨by rfl, ?_⟩) hH ?_
              · intro w9 hw9
                go_simp
              simp only [List.getElem_toArray, List.getElem_cons_succ, List.getElem_cons_zero, Act.put, List.setIfInBounds_toArray, List.set_cons_zero, List.set_cons_succ]
              refine wpAnyH_take (i := 5) (v := undef) rfl (by kernel_rfl) (by kernel_rfl) (by kernel_rfl) (fun _ _ _ h => h) (Or.inr ⟨by rfl, rfl⟩) hH ?_
              simp only [List.getElem_toArray, List.getElem_cons_succ, List.getElem_cons_zero, Act.put, List.setIfInBounds_toArray, List.set_cons_zero, List.set_cons_succ]
              refine wpAnyH_take (i := 6) (v := undef) rfl (by kernel_rfl) (by kernel_rfl) (by kernel_rfl) (fun _ _ _ h => h) (Or.inr ⟨by rfl, rfl⟩) hH ?_
              simp only [List.getElem_toArray, List.getElem_cons_succ, List.getElem_cons_zero, Act.put, List.setIfInBounds_toArray, List.set_cons_zero, List.set_cons_succ]
              refine wpAnyH_take (i := 7) (v := undef) rfl (by kernel_rfl) (by kernel_rfl) (by kernel_rfl) (fun _ _ _ h => h) (Or.inr ⟨by rfl, rfl⟩) hH ?_
              simp only [List.getElem_toArray, List.getElem_cons_succ, List.getElem_cons_zero, Act.put, List.setIfInBounds_toArray, List.set_cons_zero, List.set_cons_succ]
              refine wpAnyH_take (i := 8) (v := undef) rfl (by kernel_rfl) (by kernel_rfl) (by kernel_rfl) (fun _ _ _ h => h) (Or.inr ⟨by rfl, rfl⟩) hH ?_
              simp only [List.getElem_toArray, List.getElem_cons_succ, List.getElem_cons_zero, Act.put, List.setIfInBounds_toArray, List.set_cons_zero, List.set_cons_succ]
              refine wpAnyH_take (i := 9) (v := undef) rfl (by kernel_rfl) (by kernel_rfl) (by kernel_rfl) (fun _ _ _ h => h) (Or.inr ⟨by rfl, rfl⟩) hH ?_
              simp only [List.getElem_toArray, List.getElem_cons_succ, List.getElem_cons_zero, Act.put, List.setIfInBounds_toArray, List.set_cons_zero, List.set_cons_succ]
              refine wpAnyH_take (i := 10) (v := undef) rfl (by kernel_rfl) (by kernel_rfl) (by kernel_rfl) (fun _ _ _ h => h) (Or.inr ⟨by rfl, rfl⟩) hH ?_
              simp only [List.getElem_toArray, List.getElem_cons_succ, List.getElem_cons_zero, Act.put, List.setIfInBounds_toArray, List.set_cons_zero, List.set_cons_succ]
              refine wpAnyH_take (i := 11) (v := undef) rfl (by kernel_rfl) (by kernel_rfl) (by kernel_rfl) (fun _ _ _ h => h) (Or.inr ⟨by rfl, rfl⟩) hH ?_
              simp only [List.getElem_toArray, List.getElem_cons_succ, List.getElem_cons_zero, Act.put, List.setIfInBounds_toArray, List.set_cons_zero, List.set_cons_succ]
              refine wpAnyH_take (i := 12) (v := undef) rfl (by kernel_rfl) (by kernel_rfl) (by kernel_rfl) (fun _ _ _ h => h) (Or.inr ⟨by rfl, rfl⟩) hH ?_
              simp only [List.getElem_toArray, List.getElem_cons_succ, List.getElem_cons_zero, Act.put, List.setIfInBounds_toArray, List.set_cons_zero, List.set_cons_succ]
              refine wpAnyH_take (i := 13) (v := undef) rfl (by kernel_rfl) (by kernel_rfl) (by kernel_rfl) (fun _ _ _ h => h) (Or.inr ⟨by rfl, rfl⟩) hH ?_
              simp only [List.getElem_toArray, List.getElem_cons_succ, List.getElem_cons_zero, Act.put, List.setIfInBounds_toArray, List.set_cons_zero, List.set_cons_succ]
              refine wpAnyH_take (i := 14) (v := .bool false) rfl (by kernel_rfl) (by kernel_rfl) (by kernel_rfl) (fun _ _ _ h => h) (Or.inl ⟨by rfl, ?_⟩) hH ?_
              · intro w9 hw9
                go_simp
              simp only [List.getElem_toArray, List.getElem_cons_succ, List.getElem_cons_zero, Act.put, List.setIfInBounds_toArray, List.set_cons_zero, List.set_cons_succ]
              refine wpAnyH_take (i := 15) (v := .bool false) rfl (by kernel_rfl) (by kernel_rfl) (by kernel_rfl) (fun _ _ _ h => h) (Or.inl ⟨by rfl, ?_⟩) hH ?_
              · intro w9 hw9
                go_simp
              simp only [List.getElem_toArray, List.getElem_cons_succ, List.getElem_cons_zero, Act.put, List.setIfInBounds_toArray, List.set_cons_zero, List.set_cons_succ]
              refine wpAnyH_done (by kernel_rfl) ?_ _
              clear hH
              clear m0 m1 m2 m3 m4
              go_wp2_with fail
              obtain ⟨wo, hwo⟩ : ∃ z : World, z = wr := ⟨_, rfl⟩
              clear hwo
              go_loopw [35, 36] (fun sv nv wr => ∃ n : Nat, n ≤ Lk.length ∧ nv = .int .i64 n ∧ sv = .bool ((Lk.take n).any fun i => EN.contains i) ∧ Grow w3 wr) (fun _ nv _ => Lk.length - (intOf nv).toNat)
              case atStart => exact ⟨0, Nat.zero_le _, rfl, rfl, (by first | exact Grow.refl _ | exact (Grow.refl _).drew)⟩
              case round =>
                obtain ⟨n, hn, rfl, rfl, hg⟩ := hrel
                have HGN := Lib.hid hg
                clear hg
                obtain ⟨sv, hsv⟩ : ∃ z, ((Lk.take n).any fun i => EN.contains i) = z := ⟨_, rfl⟩
                rw [hsv]
                have HSV := Lib.hid hsv
                clear hsv
                by_cases hnl : n < Lk.length
                · have hn2 : (n : Int) < (Lk.length : Int) := by omega
                  obtain ⟨u, hu⟩ : ∃ x, Lk[n]? = some x := ⟨_, List.getElem?_eq_getElem hnl⟩
                  have HPU := Lib.hid (HPASS.out u (List.mem_of_getElem? hu))
                  have hat := any_take (fun i => EN.contains i) hu
                  rw [HSV.out] at hat
                  have HAT := Lib.hid hat
                  obtain ⟨gi, oi, rfl, hgi, i0⟩ := ints_at (HV3.out.grow HGN.out) hu
                  clear hu hat
                  cases sv with
                  | true =>
                    go_wp2_with fail
                    refine has4_any FL u _ _ (HF_8.out.grow (HG3.out.trans HGN.out)) _ ?_
                    intro w7 hgf
                    rw [HPU.out]
                    have HG7 := Lib.hid (HGN.out.trans hgf)
                    clear hgf
                    go_wp2_with fail
                    go_roundw
                    case rel => exact ⟨n + 1, by omega, by go_num, by rw [HAT.out]; rfl, HG7.out⟩
                    case measure => simp [intOf]; omega
                  | false =>
                    obtain ⟨ec, hec⟩ : ∃ z, EN.contains u = z := ⟨_, rfl⟩
                    have HEC := Lib.hid hec
                    rw [hec] at HAT
                    clear hec
                    go_wp2_with fail
                    refine has4_any EN u _ _ (HN_8.out.grow (HG3.out.trans HGN.out)) _ ?_
                    intro w6 hg6
                    rw [HEC.out]
                    have i1 := hg6.cell i0
                    have hgi6 : gi < w6.heap.size := Nat.lt_of_lt_of_le hgi hg6.sz
                    have HG6 := Lib.hid (HGN.out.trans hg6)
                    clear hg6
                    go_wp2_with fail
                    refine has4_any FL u _ _ (HF_8.out.grow (HG3.out.trans HG6.out)) _ ?_
                    intro w7 hgf
                    rw [HPU.out]
                    have HG7 := Lib.hid (HG6.out.trans hgf)
                    clear hgf
                    go_wp2_with fail
                    go_roundw
                    case rel => exact ⟨n + 1, by omega, by go_num, by rw [HAT.out]; rfl, HG7.out⟩
                    case measure => simp [intOf]; omega
                · have hne : n = Lk.length := by omega
                  have hn2 : ¬ (n : Int) < (Lk.length : Int) := by omega
                  have hsv := HSV.out
                  rw [hne, List.take_length, HSEEN.out (by omega)] at hsv
                  subst hsv
                  have HQ2 := Lib.hid (show (keepE (alB p l) (M.take (j + 1))).length = q from HKTL.out)
                  have hl1 : ¬ (Lk.length : Int) = 0 := by omega
                  have hl2 : ((Lk.length : Int) == 0) = false := beq_eq_false_iff_ne.2 hl1
                  clear hne
                  go_wp2_with fail
                  go_roundw
                  case rel => exact ⟨j + 1, by omega, by go_num, by rw [HQ2.out], HG3.out.trans HGN.out⟩
                  case measure => simp [intOf]; omega
        · have hjn : j = M.length := by omega
          have hq := HQ.out
          rw [hjn, List.take_length, HAK.out] at hq
          have hq2 : (q : Int) = (A.length : Int) := by omega
          have hj3 : ¬ (j : Int) < (M.length : Int) := by omega
          have HF := Lib.hid (HR.out wr (GCH8.out.trans HG.out))
          clear hq hjn HKT HKA
          go_wp2_with fail
          exact HF.out
end Go.Proofs.YtbccbokjecdaaaaGreat

namespace Go.Proofs.YtbccbokjecdaaaaGreat
open Go.ChangeShapes Go.WideShapes Go.ChangeAt Go.RowKit

theorem Tryz.own : ownKnob Tryz.prog.godebug = none := by kernel_rfl
theorem Tryz.laidOut : laidOutB Tryz.prog = true := by kernel_rfl

set_option maxRecDepth 100000 in
set_option maxHeartbeats 4000000 in
theorem topSeeks_lifted (os : Os) (started : os.Started) (H : Type) (enc : TypeId × Value → H) :
    ReturnsInHanded {} Tryz.checked os 12 .any (Rows.topSeeksSpec.pre6 enc Tryz.prog Tryz.f12 Rows.topSeeksRow.domain false) (Rows.topSeeksSpec.post enc Tryz.prog Tryz.f12 false true false false) := by
  refine returnsInHanded_of_change (C := Tryz.checked) Tryz.own started (by kernel_rfl) Tryz.func12
    (ChangeSpec.witness6 (enc := enc) (C := Tryz.checked) false ⟨#[], #[.slice none 0 0, .slice none 0 0], []⟩ 8 (by kernel_rfl) (by kernel_rfl) (by kernel_rfl) (by kernel_rfl)) ?_
  intro W base args ds gs before hval0 hW hcnd _
  have hval : ∀ (j : Nat) t v, Tryz.f12.params[j]? = some t → args[j]? = some v → Value.okWide Tryz.prog W .any base t v := hval0
  have hW' := hW
  obtain ⟨p, q, hA0, hV, rfl, hfz, hnd⟩ := hW
  have hA : DataW.TrodAll enc Tryz.prog W 0 (fun _ => true) true Tryz.f12.params.toList args.toList ds p := hA0
  rw [Tryz.params12] at hA hval
  obtain ⟨v0, v1, d0, d1, p0, p1, rfl, rfl, rfl, h0, h1⟩ := trodAll_two hA
  obtain ⟨rfl, rfl⟩ := trodVars_none hV
  have hk0 := h0
  have hk1 := h1
  obtain ⟨x0, hx0⟩ := arg_lines (hval 0 22 v0 rfl rfl) h0
  obtain ⟨x1, hx1⟩ := arg_tests (hval 1 23 v1 rfl rfl) h1
  clear hA0 hval0
  refine Calls.mono (topSeeks_any x0 x1 W v0 v1 hx0 hx1 (fun e W' => e = .returned (.bool true) ∧ Grow W W') (fun W' hg => ⟨rfl, hg⟩)) fun e W' ⟨he, hB⟩ => ?_
  subst he
  have hlt0 : ∀ x ∈ p0, x.block < W.heap.size := fun x hx => hW'.lt x (List.mem_append_left _ (List.mem_append_left _ (hx)))
  have ht0 := Below.trod Tryz.laidOut (by kernel_rfl) (of_decide_eq_true (by kernel_rfl)) hk0 hB hlt0
  have hlt1 : ∀ x ∈ p1, x.block < W.heap.size := fun x hx => hW'.lt x (List.mem_append_left _ (List.mem_append_right _ hx))
  have ht1 := Below.trod Tryz.laidOut (by kernel_rfl) (of_decide_eq_true (by kernel_rfl)) hk1 hB hlt1
  exact ⟨_, rfl, _, _, _, [], _, [], hW', trodAll_mk1 (shut_bool Tryz.underlying4 true), trodAll_mk2 ht0 ht1, rfl, hB.frame _, fun h => by cases h⟩

theorem topSeeks_holds : Rows.TopSeeksSaid :=
  OpenClaim.holds_of_wide 12 Tryz.f12 rfl rfl rfl rfl rfl rfl rfl ⟨rfl, rfl, rfl, rfl, rfl⟩ rfl rfl rfl rfl rfl (by kernel_rfl) Tryz.func12 (by kernel_rfl)
    (of_decide_eq_true (by kernel_rfl)) (by unfold Func.isWrapper; first | (rw [if_pos (by decide +kernel)]; kernel_rfl) | (rw [if_neg (by decide +kernel)]; exact ⟨rfl, rfl⟩))
    (fun os started H enc _ => topSeeks_lifted os started H enc)

end Go.Proofs.YtbccbokjecdaaaaGreat
