/- The walk of the statement CodeRenames. -/
import Derived.Test.YtmaphlbmmemgcaaLawA
import Derived.Test.YtmaphlbmmemgcaaRen
import Derived.Test.YtmaphlbmmemgcaaSame
import Derived.Test.YtmaphlbmmemgcaaOpen
namespace Go.Proofs.Ytmaphlbmmemgcaa
open Go.RowKit

theorem ren_facts {p : List Ln} {s ot : List Int} (h1 : renE p ot = 0) (h2 : movE s ot = 0) :
    chk p s = 0 ∧ chk (renM p ot) (movM s ot) = 0 ∧ ifOK (chk (renM p ot) (movM s ot)) (runM (renM p ot) (movM s ot)) = movL (runM p s) ot ∧ movE (runM p s) ot = 0 ∧ movM (runM p s) ot = movL (runM p s) ot := by
  have hv : valP p = 0 := by
    unfold renE at h1
    by_cases h : valP p = 0
    · exact h
    · rw [if_neg h] at h1; exact h1
  have ho : isOrd ot = true := by
    unfold renE at h1
    rw [if_pos hv] at h1
    cases h : isOrd ot with
    | true => rfl
    | false => rw [h] at h1; cases h1
  have hs : valS s = 0 := by
    unfold movE at h2
    by_cases h : valS s = 0
    · exact h
    · rw [if_neg h] at h2; exact h2
  have e1 : renM p ot = renP p ot := by unfold renM; rw [h1]; rfl
  have e2 : movM s ot = movL s ot := by unfold movM; rw [h2]; rfl
  have c1 : chk p s = 0 := chk_ok.2 ⟨hv, hs⟩
  have c2 : chk (renP p ot) (movL s ot) = 0 := chk_ok.2 ⟨valP_ren ho hv, valS_mov ho hs⟩
  have hr : valS (runM p s) = 0 := valS_runM p s hs
  have e3 : movE (runM p s) ot = 0 := by unfold movE; rw [if_pos hr, ho]; rfl
  refine ⟨c1, by rw [e1, e2]; exact c2, ?_, e3, by unfold movM; rw [e3]; rfl⟩
  rw [e1, e2, c2, ifOK_ok]
  exact runM_ren ho hv hs

set_option maxRecDepth 100000 in
set_option maxHeartbeats 4000000 in
theorem codeRenames_any (p : List Ln) (s : List Int) (ot : List Int) (w : World) (vp vs vot : Value) (hp : LinesAt w vp p) (hs : IntsAt w vs s) (hot : IntsAt w vot ot) (R : Ending → World → Prop) (hR : ∀ w', Grow w w' → R (.returned (.bool true)) w') :
    Calls Try.prog 14 #[vp, vs, vot] w R := by
  have HR := Lib.hid hR
  have HP_ := Lib.hid hp
  obtain ⟨adp, cpp, rfl, qp1, qp2, _⟩ := hp
  have HS_ := Lib.hid hs
  obtain ⟨ads, cps, rfl, qs1, qs2, _⟩ := hs
  have HOT_ := Lib.hid hot
  obtain ⟨adot, cpot, rfl, qot1, qot2, _⟩ := hot
  clear hR
  by_cases gd0 : 100 < p.length
  · have hd0 : decide (100 < p.length) = true := decide_eq_true gd0
    have HD0 := Lib.hid hd0
    clear hd0 gd0
    go_enter Try.func14, Try.ntmps14
    go_wp2_with fail
    refine long_any p _ _ (by first | exact HP_.out | exact HP_.out.grow ((Grow.refl _).alloc _) | exact HP_.out.grow (((Grow.refl _).alloc _).alloc _) | exact HP_.out.grow ((((Grow.refl _).alloc _).alloc _).alloc _) | exact HP_.out.grow (((((Grow.refl _).alloc _).alloc _).alloc _).alloc _) | exact HP_.out.grow ((Grow.refl _).drewN _)) _ ?_
    rw [HD0.out]
    go_wp2_with fail
    refine known_any _ _ ?_
    intro wz1 hg1 
    have hgr1 : Grow w wz1 := by first | exact hg1 | exact Grow.trans ((Grow.refl _).alloc _) hg1 | exact Grow.trans (((Grow.refl _).alloc _).alloc _) hg1 | exact Grow.trans ((((Grow.refl _).alloc _).alloc _).alloc _) hg1 | exact Grow.trans (((((Grow.refl _).alloc _).alloc _).alloc _).alloc _) hg1 | exact Grow.trans ((Grow.refl _).drewN _) hg1
    have HP_1 := Lib.hid (HP_.out.grow hgr1)
    have HS_1 := Lib.hid (HS_.out.grow hgr1)
    have HOT_1 := Lib.hid (HOT_.out.grow hgr1)
    have GCH1 := Lib.hid hgr1
    clear hg1 hgr1 HP_ HS_ HOT_
    go_wp2_with fail
    first | exact HR.out _ (GCH1.out) | exact HR.out _ (Grow.trans GCH1.out ((Grow.refl _).alloc _)) | exact HR.out _ (Grow.trans GCH1.out (((Grow.refl _).alloc _).alloc _)) | exact HR.out _ (Grow.trans GCH1.out ((((Grow.refl _).alloc _).alloc _).alloc _)) | exact HR.out _ (Grow.trans GCH1.out (((((Grow.refl _).alloc _).alloc _).alloc _).alloc _)) | exact HR.out _ (Grow.trans GCH1.out ((Grow.refl _).drewN _))
  · have hd0 : decide (100 < p.length) = false := decide_eq_false gd0
    have HD0 := Lib.hid hd0
    clear hd0
    by_cases gd1 : 100 < s.length
    · have hd1 : decide (100 < s.length) = true := decide_eq_true gd1
      have HD1 := Lib.hid hd1
      clear hd1 gd1
      go_enter Try.func14, Try.ntmps14
      go_wp2_with fail
      refine long_any p _ _ (by first | exact HP_.out | exact HP_.out.grow ((Grow.refl _).alloc _) | exact HP_.out.grow (((Grow.refl _).alloc _).alloc _) | exact HP_.out.grow ((((Grow.refl _).alloc _).alloc _).alloc _) | exact HP_.out.grow (((((Grow.refl _).alloc _).alloc _).alloc _).alloc _) | exact HP_.out.grow ((Grow.refl _).drewN _)) _ ?_
      rw [HD0.out]
      go_wp2_with fail
      refine large_any s _ _ (by first | exact HS_.out | exact HS_.out.grow ((Grow.refl _).alloc _) | exact HS_.out.grow (((Grow.refl _).alloc _).alloc _) | exact HS_.out.grow ((((Grow.refl _).alloc _).alloc _).alloc _) | exact HS_.out.grow (((((Grow.refl _).alloc _).alloc _).alloc _).alloc _) | exact HS_.out.grow ((Grow.refl _).drewN _)) _ ?_
      rw [HD1.out]
      go_wp2_with fail
      refine known_any _ _ ?_
      intro wz1 hg1 
      have hgr1 : Grow w wz1 := by first | exact hg1 | exact Grow.trans ((Grow.refl _).alloc _) hg1 | exact Grow.trans (((Grow.refl _).alloc _).alloc _) hg1 | exact Grow.trans ((((Grow.refl _).alloc _).alloc _).alloc _) hg1 | exact Grow.trans (((((Grow.refl _).alloc _).alloc _).alloc _).alloc _) hg1 | exact Grow.trans ((Grow.refl _).drewN _) hg1
      have HP_1 := Lib.hid (HP_.out.grow hgr1)
      have HS_1 := Lib.hid (HS_.out.grow hgr1)
      have HOT_1 := Lib.hid (HOT_.out.grow hgr1)
      have GCH1 := Lib.hid hgr1
      clear hg1 hgr1 HP_ HS_ HOT_
      go_wp2_with fail
      first | exact HR.out _ (GCH1.out) | exact HR.out _ (Grow.trans GCH1.out ((Grow.refl _).alloc _)) | exact HR.out _ (Grow.trans GCH1.out (((Grow.refl _).alloc _).alloc _)) | exact HR.out _ (Grow.trans GCH1.out ((((Grow.refl _).alloc _).alloc _).alloc _)) | exact HR.out _ (Grow.trans GCH1.out (((((Grow.refl _).alloc _).alloc _).alloc _).alloc _)) | exact HR.out _ (Grow.trans GCH1.out ((Grow.refl _).drewN _))
    · have hd1 : decide (100 < s.length) = false := decide_eq_false gd1
      have HD1 := Lib.hid hd1
      clear hd1
      by_cases gd2 : 100 < ot.length
      · have hd2 : decide (100 < ot.length) = true := decide_eq_true gd2
        have HD2 := Lib.hid hd2
        clear hd2 gd2
        go_enter Try.func14, Try.ntmps14
        go_wp2_with fail
        refine long_any p _ _ (by first | exact HP_.out | exact HP_.out.grow ((Grow.refl _).alloc _) | exact HP_.out.grow (((Grow.refl _).alloc _).alloc _) | exact HP_.out.grow ((((Grow.refl _).alloc _).alloc _).alloc _) | exact HP_.out.grow (((((Grow.refl _).alloc _).alloc _).alloc _).alloc _) | exact HP_.out.grow ((Grow.refl _).drewN _)) _ ?_
        rw [HD0.out]
        go_wp2_with fail
        refine large_any s _ _ (by first | exact HS_.out | exact HS_.out.grow ((Grow.refl _).alloc _) | exact HS_.out.grow (((Grow.refl _).alloc _).alloc _) | exact HS_.out.grow ((((Grow.refl _).alloc _).alloc _).alloc _) | exact HS_.out.grow (((((Grow.refl _).alloc _).alloc _).alloc _).alloc _) | exact HS_.out.grow ((Grow.refl _).drewN _)) _ ?_
        rw [HD1.out]
        go_wp2_with fail
        refine large_any ot _ _ (by first | exact HOT_.out | exact HOT_.out.grow ((Grow.refl _).alloc _) | exact HOT_.out.grow (((Grow.refl _).alloc _).alloc _) | exact HOT_.out.grow ((((Grow.refl _).alloc _).alloc _).alloc _) | exact HOT_.out.grow (((((Grow.refl _).alloc _).alloc _).alloc _).alloc _) | exact HOT_.out.grow ((Grow.refl _).drewN _)) _ ?_
        rw [HD2.out]
        go_wp2_with fail
        refine known_any _ _ ?_
        intro wz1 hg1 
        have hgr1 : Grow w wz1 := by first | exact hg1 | exact Grow.trans ((Grow.refl _).alloc _) hg1 | exact Grow.trans (((Grow.refl _).alloc _).alloc _) hg1 | exact Grow.trans ((((Grow.refl _).alloc _).alloc _).alloc _) hg1 | exact Grow.trans (((((Grow.refl _).alloc _).alloc _).alloc _).alloc _) hg1 | exact Grow.trans ((Grow.refl _).drewN _) hg1
        have HP_1 := Lib.hid (HP_.out.grow hgr1)
        have HS_1 := Lib.hid (HS_.out.grow hgr1)
        have HOT_1 := Lib.hid (HOT_.out.grow hgr1)
        have GCH1 := Lib.hid hgr1
        clear hg1 hgr1 HP_ HS_ HOT_
        go_wp2_with fail
        first | exact HR.out _ (GCH1.out) | exact HR.out _ (Grow.trans GCH1.out ((Grow.refl _).alloc _)) | exact HR.out _ (Grow.trans GCH1.out (((Grow.refl _).alloc _).alloc _)) | exact HR.out _ (Grow.trans GCH1.out ((((Grow.refl _).alloc _).alloc _).alloc _)) | exact HR.out _ (Grow.trans GCH1.out (((((Grow.refl _).alloc _).alloc _).alloc _).alloc _)) | exact HR.out _ (Grow.trans GCH1.out ((Grow.refl _).drewN _))
      · have hd2 : decide (100 < ot.length) = false := decide_eq_false gd2
        have HD2 := Lib.hid hd2
        clear hd2
        by_cases h1 : renE p ot = 0
        rotate_left
        · have H1 := Lib.hid h1
          obtain ⟨e, he⟩ : ∃ e, renE p ot = e := ⟨_, rfl⟩
          have hn : e ≠ 0 := by rw [← he]; exact h1
          have t1 : (e == 0) = false := by simpa using hn
          have t2 : (e != 0) = true := by simpa using hn
          have HE := Lib.hid he
          clear he hn h1
          obtain ⟨g, hg⟩ : ∃ z, movE s ot = z := ⟨_, rfl⟩
          have HGE := Lib.hid hg
          clear hg
          obtain ⟨m, hm⟩ : ∃ z, renM p ot = z := ⟨_, rfl⟩
          have HM := Lib.hid hm
          clear hm
          obtain ⟨c, hc⟩ : ∃ z, movM s ot = z := ⟨_, rfl⟩
          have HMC := Lib.hid hc
          clear hc
          go_enter Try.func14, Try.ntmps14
          go_wp2_with fail
          refine long_any p _ _ (by first | exact HP_.out | exact HP_.out.grow ((Grow.refl _).alloc _) | exact HP_.out.grow (((Grow.refl _).alloc _).alloc _) | exact HP_.out.grow ((((Grow.refl _).alloc _).alloc _).alloc _) | exact HP_.out.grow (((((Grow.refl _).alloc _).alloc _).alloc _).alloc _) | exact HP_.out.grow ((Grow.refl _).drewN _)) _ ?_
          rw [HD0.out]
          go_wp2_with fail
          refine large_any s _ _ (by first | exact HS_.out | exact HS_.out.grow ((Grow.refl _).alloc _) | exact HS_.out.grow (((Grow.refl _).alloc _).alloc _) | exact HS_.out.grow ((((Grow.refl _).alloc _).alloc _).alloc _) | exact HS_.out.grow (((((Grow.refl _).alloc _).alloc _).alloc _).alloc _) | exact HS_.out.grow ((Grow.refl _).drewN _)) _ ?_
          rw [HD1.out]
          go_wp2_with fail
          refine large_any ot _ _ (by first | exact HOT_.out | exact HOT_.out.grow ((Grow.refl _).alloc _) | exact HOT_.out.grow (((Grow.refl _).alloc _).alloc _) | exact HOT_.out.grow ((((Grow.refl _).alloc _).alloc _).alloc _) | exact HOT_.out.grow (((((Grow.refl _).alloc _).alloc _).alloc _).alloc _) | exact HOT_.out.grow ((Grow.refl _).drewN _)) _ ?_
          rw [HD2.out]
          go_wp2_with fail
          refine Ren_any p ot _ _ _ (by first | exact HP_.out | exact HP_.out.grow ((Grow.refl _).alloc _) | exact HP_.out.grow (((Grow.refl _).alloc _).alloc _) | exact HP_.out.grow ((((Grow.refl _).alloc _).alloc _).alloc _) | exact HP_.out.grow (((((Grow.refl _).alloc _).alloc _).alloc _).alloc _) | exact HP_.out.grow ((Grow.refl _).drewN _)) (by first | exact HOT_.out | exact HOT_.out.grow ((Grow.refl _).alloc _) | exact HOT_.out.grow (((Grow.refl _).alloc _).alloc _) | exact HOT_.out.grow ((((Grow.refl _).alloc _).alloc _).alloc _) | exact HOT_.out.grow (((((Grow.refl _).alloc _).alloc _).alloc _).alloc _) | exact HOT_.out.grow ((Grow.refl _).drewN _)) _ ?_
          intro wz1 x1_0 hg1 hx1_0
          have hgr1 : Grow w wz1 := by first | exact hg1 | exact Grow.trans ((Grow.refl _).alloc _) hg1 | exact Grow.trans (((Grow.refl _).alloc _).alloc _) hg1 | exact Grow.trans ((((Grow.refl _).alloc _).alloc _).alloc _) hg1 | exact Grow.trans (((((Grow.refl _).alloc _).alloc _).alloc _).alloc _) hg1 | exact Grow.trans ((Grow.refl _).drewN _) hg1
          have HP_1 := Lib.hid (HP_.out.grow hgr1)
          have HS_1 := Lib.hid (HS_.out.grow hgr1)
          have HOT_1 := Lib.hid (HOT_.out.grow hgr1)
          have GCH1 := Lib.hid hgr1
          clear hg1 hgr1 HP_ HS_ HOT_
          rw [HM.out] at hx1_0
          have hyHA_1 := hx1_0
          have HA_1 := Lib.hid hyHA_1
          obtain ⟨aHA_1, cHA_1, rfl, qHA_11, qHA_12, _⟩ := hyHA_1
          clear hx1_0
          rw [HE.out]
          go_wp2_with fail
          refine rRen_any p ot _ _ _ (by first | exact HP_1.out | exact HP_1.out.grow ((Grow.refl _).alloc _) | exact HP_1.out.grow (((Grow.refl _).alloc _).alloc _) | exact HP_1.out.grow ((((Grow.refl _).alloc _).alloc _).alloc _) | exact HP_1.out.grow (((((Grow.refl _).alloc _).alloc _).alloc _).alloc _) | exact HP_1.out.grow ((Grow.refl _).drewN _)) (by first | exact HOT_1.out | exact HOT_1.out.grow ((Grow.refl _).alloc _) | exact HOT_1.out.grow (((Grow.refl _).alloc _).alloc _) | exact HOT_1.out.grow ((((Grow.refl _).alloc _).alloc _).alloc _) | exact HOT_1.out.grow (((((Grow.refl _).alloc _).alloc _).alloc _).alloc _) | exact HOT_1.out.grow ((Grow.refl _).drewN _)) _ ?_
          intro wz2 x2_0 hg2 hx2_0
          have hgr2 : Grow wz1 wz2 := by first | exact hg2 | exact Grow.trans ((Grow.refl _).alloc _) hg2 | exact Grow.trans (((Grow.refl _).alloc _).alloc _) hg2 | exact Grow.trans ((((Grow.refl _).alloc _).alloc _).alloc _) hg2 | exact Grow.trans (((((Grow.refl _).alloc _).alloc _).alloc _).alloc _) hg2 | exact Grow.trans ((Grow.refl _).drewN _) hg2
          have HP_2 := Lib.hid (HP_1.out.grow hgr2)
          have HS_2 := Lib.hid (HS_1.out.grow hgr2)
          have HOT_2 := Lib.hid (HOT_1.out.grow hgr2)
          have HA_2 := Lib.hid (HA_1.out.grow hgr2)
          have GCH2 := Lib.hid (GCH1.out.trans hgr2)
          clear hg2 hgr2 HP_1 HS_1 HOT_1 HA_1 GCH1
          rw [HM.out] at hx2_0
          have hyHB_2 := hx2_0
          have HB_2 := Lib.hid hyHB_2
          obtain ⟨aHB_2, cHB_2, rfl, qHB_21, qHB_22, _⟩ := hyHB_2
          clear hx2_0
          rw [HE.out]
          go_wp2_with fail
          refine Move_any s ot _ _ _ (by first | exact HS_2.out | exact HS_2.out.grow ((Grow.refl _).alloc _) | exact HS_2.out.grow (((Grow.refl _).alloc _).alloc _) | exact HS_2.out.grow ((((Grow.refl _).alloc _).alloc _).alloc _) | exact HS_2.out.grow (((((Grow.refl _).alloc _).alloc _).alloc _).alloc _) | exact HS_2.out.grow ((Grow.refl _).drewN _)) (by first | exact HOT_2.out | exact HOT_2.out.grow ((Grow.refl _).alloc _) | exact HOT_2.out.grow (((Grow.refl _).alloc _).alloc _) | exact HOT_2.out.grow ((((Grow.refl _).alloc _).alloc _).alloc _) | exact HOT_2.out.grow (((((Grow.refl _).alloc _).alloc _).alloc _).alloc _) | exact HOT_2.out.grow ((Grow.refl _).drewN _)) _ ?_
          intro wz3 x3_0 hg3 hx3_0
          have hgr3 : Grow wz2 wz3 := by first | exact hg3 | exact Grow.trans ((Grow.refl _).alloc _) hg3 | exact Grow.trans (((Grow.refl _).alloc _).alloc _) hg3 | exact Grow.trans ((((Grow.refl _).alloc _).alloc _).alloc _) hg3 | exact Grow.trans (((((Grow.refl _).alloc _).alloc _).alloc _).alloc _) hg3 | exact Grow.trans ((Grow.refl _).drewN _) hg3
          have HP_3 := Lib.hid (HP_2.out.grow hgr3)
          have HS_3 := Lib.hid (HS_2.out.grow hgr3)
          have HOT_3 := Lib.hid (HOT_2.out.grow hgr3)
          have HA_3 := Lib.hid (HA_2.out.grow hgr3)
          have HB_3 := Lib.hid (HB_2.out.grow hgr3)
          have GCH3 := Lib.hid (GCH2.out.trans hgr3)
          clear hg3 hgr3 HP_2 HS_2 HOT_2 HA_2 HB_2 GCH2
          rw [HMC.out] at hx3_0
          have hyHC_3 := hx3_0
          have HC_3 := Lib.hid hyHC_3
          obtain ⟨aHC_3, cHC_3, rfl, qHC_31, qHC_32, _⟩ := hyHC_3
          clear hx3_0
          rw [HGE.out]
          go_wp2_with fail
          refine rMove_any s ot _ _ _ (by first | exact HS_3.out | exact HS_3.out.grow ((Grow.refl _).alloc _) | exact HS_3.out.grow (((Grow.refl _).alloc _).alloc _) | exact HS_3.out.grow ((((Grow.refl _).alloc _).alloc _).alloc _) | exact HS_3.out.grow (((((Grow.refl _).alloc _).alloc _).alloc _).alloc _) | exact HS_3.out.grow ((Grow.refl _).drewN _)) (by first | exact HOT_3.out | exact HOT_3.out.grow ((Grow.refl _).alloc _) | exact HOT_3.out.grow (((Grow.refl _).alloc _).alloc _) | exact HOT_3.out.grow ((((Grow.refl _).alloc _).alloc _).alloc _) | exact HOT_3.out.grow (((((Grow.refl _).alloc _).alloc _).alloc _).alloc _) | exact HOT_3.out.grow ((Grow.refl _).drewN _)) _ ?_
          intro wz4 x4_0 hg4 hx4_0
          have hgr4 : Grow wz3 wz4 := by first | exact hg4 | exact Grow.trans ((Grow.refl _).alloc _) hg4 | exact Grow.trans (((Grow.refl _).alloc _).alloc _) hg4 | exact Grow.trans ((((Grow.refl _).alloc _).alloc _).alloc _) hg4 | exact Grow.trans (((((Grow.refl _).alloc _).alloc _).alloc _).alloc _) hg4 | exact Grow.trans ((Grow.refl _).drewN _) hg4
          have HP_4 := Lib.hid (HP_3.out.grow hgr4)
          have HS_4 := Lib.hid (HS_3.out.grow hgr4)
          have HOT_4 := Lib.hid (HOT_3.out.grow hgr4)
          have HA_4 := Lib.hid (HA_3.out.grow hgr4)
          have HB_4 := Lib.hid (HB_3.out.grow hgr4)
          have HC_4 := Lib.hid (HC_3.out.grow hgr4)
          have GCH4 := Lib.hid (GCH3.out.trans hgr4)
          clear hg4 hgr4 HP_3 HS_3 HOT_3 HA_3 HB_3 HC_3 GCH3
          rw [HMC.out] at hx4_0
          have hyHD_4 := hx4_0
          have HD_4 := Lib.hid hyHD_4
          obtain ⟨aHD_4, cHD_4, rfl, qHD_41, qHD_42, _⟩ := hyHD_4
          clear hx4_0
          rw [HGE.out]
          go_wp2_with fail
          refine rsame_any m m _ _ _ (by first | exact HA_4.out | exact HA_4.out.grow ((Grow.refl _).alloc _) | exact HA_4.out.grow (((Grow.refl _).alloc _).alloc _) | exact HA_4.out.grow ((((Grow.refl _).alloc _).alloc _).alloc _) | exact HA_4.out.grow (((((Grow.refl _).alloc _).alloc _).alloc _).alloc _) | exact HA_4.out.grow ((Grow.refl _).drewN _)) (by first | exact HB_4.out | exact HB_4.out.grow ((Grow.refl _).alloc _) | exact HB_4.out.grow (((Grow.refl _).alloc _).alloc _) | exact HB_4.out.grow ((((Grow.refl _).alloc _).alloc _).alloc _) | exact HB_4.out.grow (((((Grow.refl _).alloc _).alloc _).alloc _).alloc _) | exact HB_4.out.grow ((Grow.refl _).drewN _)) _ ?_
          intro wz5 hg5 
          have hgr5 : Grow wz4 wz5 := by first | exact hg5 | exact Grow.trans ((Grow.refl _).alloc _) hg5 | exact Grow.trans (((Grow.refl _).alloc _).alloc _) hg5 | exact Grow.trans ((((Grow.refl _).alloc _).alloc _).alloc _) hg5 | exact Grow.trans (((((Grow.refl _).alloc _).alloc _).alloc _).alloc _) hg5 | exact Grow.trans ((Grow.refl _).drewN _) hg5
          have HP_5 := Lib.hid (HP_4.out.grow hgr5)
          have HS_5 := Lib.hid (HS_4.out.grow hgr5)
          have HOT_5 := Lib.hid (HOT_4.out.grow hgr5)
          have HA_5 := Lib.hid (HA_4.out.grow hgr5)
          have HB_5 := Lib.hid (HB_4.out.grow hgr5)
          have HC_5 := Lib.hid (HC_4.out.grow hgr5)
          have HD_5 := Lib.hid (HD_4.out.grow hgr5)
          have GCH5 := Lib.hid (GCH4.out.trans hgr5)
          clear hg5 hgr5 HP_4 HS_4 HOT_4 HA_4 HB_4 HC_4 HD_4 GCH4
          rw [show decide (m = m) = true from decide_eq_true rfl]
          go_wp2_with fail
          refine sameInts_any c c _ _ _ (by first | exact HC_5.out | exact HC_5.out.grow ((Grow.refl _).alloc _) | exact HC_5.out.grow (((Grow.refl _).alloc _).alloc _) | exact HC_5.out.grow ((((Grow.refl _).alloc _).alloc _).alloc _) | exact HC_5.out.grow (((((Grow.refl _).alloc _).alloc _).alloc _).alloc _) | exact HC_5.out.grow ((Grow.refl _).drewN _)) (by first | exact HD_5.out | exact HD_5.out.grow ((Grow.refl _).alloc _) | exact HD_5.out.grow (((Grow.refl _).alloc _).alloc _) | exact HD_5.out.grow ((((Grow.refl _).alloc _).alloc _).alloc _) | exact HD_5.out.grow (((((Grow.refl _).alloc _).alloc _).alloc _).alloc _) | exact HD_5.out.grow ((Grow.refl _).drewN _)) _ ?_
          intro wz6 hg6 
          have hgr6 : Grow wz5 wz6 := by first | exact hg6 | exact Grow.trans ((Grow.refl _).alloc _) hg6 | exact Grow.trans (((Grow.refl _).alloc _).alloc _) hg6 | exact Grow.trans ((((Grow.refl _).alloc _).alloc _).alloc _) hg6 | exact Grow.trans (((((Grow.refl _).alloc _).alloc _).alloc _).alloc _) hg6 | exact Grow.trans ((Grow.refl _).drewN _) hg6
          have HP_6 := Lib.hid (HP_5.out.grow hgr6)
          have HS_6 := Lib.hid (HS_5.out.grow hgr6)
          have HOT_6 := Lib.hid (HOT_5.out.grow hgr6)
          have HA_6 := Lib.hid (HA_5.out.grow hgr6)
          have HB_6 := Lib.hid (HB_5.out.grow hgr6)
          have HC_6 := Lib.hid (HC_5.out.grow hgr6)
          have HD_6 := Lib.hid (HD_5.out.grow hgr6)
          have GCH6 := Lib.hid (GCH5.out.trans hgr6)
          clear hg6 hgr6 HP_5 HS_5 HOT_5 HA_5 HB_5 HC_5 HD_5 GCH5
          rw [show decide (c = c) = true from decide_eq_true rfl]
          go_wp2_with fail
          refine known_any _ _ ?_
          intro wz7 hg7 
          have hgr7 : Grow wz6 wz7 := by first | exact hg7 | exact Grow.trans ((Grow.refl _).alloc _) hg7 | exact Grow.trans (((Grow.refl _).alloc _).alloc _) hg7 | exact Grow.trans ((((Grow.refl _).alloc _).alloc _).alloc _) hg7 | exact Grow.trans (((((Grow.refl _).alloc _).alloc _).alloc _).alloc _) hg7 | exact Grow.trans ((Grow.refl _).drewN _) hg7
          have HP_7 := Lib.hid (HP_6.out.grow hgr7)
          have HS_7 := Lib.hid (HS_6.out.grow hgr7)
          have HOT_7 := Lib.hid (HOT_6.out.grow hgr7)
          have HA_7 := Lib.hid (HA_6.out.grow hgr7)
          have HB_7 := Lib.hid (HB_6.out.grow hgr7)
          have HC_7 := Lib.hid (HC_6.out.grow hgr7)
          have HD_7 := Lib.hid (HD_6.out.grow hgr7)
          have GCH7 := Lib.hid (GCH6.out.trans hgr7)
          clear hg7 hgr7 HP_6 HS_6 HOT_6 HA_6 HB_6 HC_6 HD_6 GCH6
          go_wp2_with fail
          first | exact HR.out _ (GCH7.out) | exact HR.out _ (Grow.trans GCH7.out ((Grow.refl _).alloc _)) | exact HR.out _ (Grow.trans GCH7.out (((Grow.refl _).alloc _).alloc _)) | exact HR.out _ (Grow.trans GCH7.out ((((Grow.refl _).alloc _).alloc _).alloc _)) | exact HR.out _ (Grow.trans GCH7.out (((((Grow.refl _).alloc _).alloc _).alloc _).alloc _)) | exact HR.out _ (Grow.trans GCH7.out ((Grow.refl _).drewN _))
        by_cases h2 : movE s ot = 0
        rotate_left
        · have HE := Lib.hid h1
          obtain ⟨g, he⟩ : ∃ e, movE s ot = e := ⟨_, rfl⟩
          have hn : g ≠ 0 := by rw [← he]; exact h2
          have t1 : (g == 0) = false := by simpa using hn
          have t2 : (g != 0) = true := by simpa using hn
          have HGE := Lib.hid he
          clear he hn h1 h2
          obtain ⟨m, hm⟩ : ∃ z, renM p ot = z := ⟨_, rfl⟩
          have HM := Lib.hid hm
          clear hm
          obtain ⟨c, hc⟩ : ∃ z, movM s ot = z := ⟨_, rfl⟩
          have HMC := Lib.hid hc
          clear hc
          go_enter Try.func14, Try.ntmps14
          go_wp2_with fail
          refine long_any p _ _ (by first | exact HP_.out | exact HP_.out.grow ((Grow.refl _).alloc _) | exact HP_.out.grow (((Grow.refl _).alloc _).alloc _) | exact HP_.out.grow ((((Grow.refl _).alloc _).alloc _).alloc _) | exact HP_.out.grow (((((Grow.refl _).alloc _).alloc _).alloc _).alloc _) | exact HP_.out.grow ((Grow.refl _).drewN _)) _ ?_
          rw [HD0.out]
          go_wp2_with fail
          refine large_any s _ _ (by first | exact HS_.out | exact HS_.out.grow ((Grow.refl _).alloc _) | exact HS_.out.grow (((Grow.refl _).alloc _).alloc _) | exact HS_.out.grow ((((Grow.refl _).alloc _).alloc _).alloc _) | exact HS_.out.grow (((((Grow.refl _).alloc _).alloc _).alloc _).alloc _) | exact HS_.out.grow ((Grow.refl _).drewN _)) _ ?_
          rw [HD1.out]
          go_wp2_with fail
          refine large_any ot _ _ (by first | exact HOT_.out | exact HOT_.out.grow ((Grow.refl _).alloc _) | exact HOT_.out.grow (((Grow.refl _).alloc _).alloc _) | exact HOT_.out.grow ((((Grow.refl _).alloc _).alloc _).alloc _) | exact HOT_.out.grow (((((Grow.refl _).alloc _).alloc _).alloc _).alloc _) | exact HOT_.out.grow ((Grow.refl _).drewN _)) _ ?_
          rw [HD2.out]
          go_wp2_with fail
          refine Ren_any p ot _ _ _ (by first | exact HP_.out | exact HP_.out.grow ((Grow.refl _).alloc _) | exact HP_.out.grow (((Grow.refl _).alloc _).alloc _) | exact HP_.out.grow ((((Grow.refl _).alloc _).alloc _).alloc _) | exact HP_.out.grow (((((Grow.refl _).alloc _).alloc _).alloc _).alloc _) | exact HP_.out.grow ((Grow.refl _).drewN _)) (by first | exact HOT_.out | exact HOT_.out.grow ((Grow.refl _).alloc _) | exact HOT_.out.grow (((Grow.refl _).alloc _).alloc _) | exact HOT_.out.grow ((((Grow.refl _).alloc _).alloc _).alloc _) | exact HOT_.out.grow (((((Grow.refl _).alloc _).alloc _).alloc _).alloc _) | exact HOT_.out.grow ((Grow.refl _).drewN _)) _ ?_
          intro wz1 x1_0 hg1 hx1_0
          have hgr1 : Grow w wz1 := by first | exact hg1 | exact Grow.trans ((Grow.refl _).alloc _) hg1 | exact Grow.trans (((Grow.refl _).alloc _).alloc _) hg1 | exact Grow.trans ((((Grow.refl _).alloc _).alloc _).alloc _) hg1 | exact Grow.trans (((((Grow.refl _).alloc _).alloc _).alloc _).alloc _) hg1 | exact Grow.trans ((Grow.refl _).drewN _) hg1
          have HP_1 := Lib.hid (HP_.out.grow hgr1)
          have HS_1 := Lib.hid (HS_.out.grow hgr1)
          have HOT_1 := Lib.hid (HOT_.out.grow hgr1)
          have GCH1 := Lib.hid hgr1
          clear hg1 hgr1 HP_ HS_ HOT_
          rw [HM.out] at hx1_0
          have hyHA_1 := hx1_0
          have HA_1 := Lib.hid hyHA_1
          obtain ⟨aHA_1, cHA_1, rfl, qHA_11, qHA_12, _⟩ := hyHA_1
          clear hx1_0
          rw [HE.out]
          go_wp2_with fail
          refine rRen_any p ot _ _ _ (by first | exact HP_1.out | exact HP_1.out.grow ((Grow.refl _).alloc _) | exact HP_1.out.grow (((Grow.refl _).alloc _).alloc _) | exact HP_1.out.grow ((((Grow.refl _).alloc _).alloc _).alloc _) | exact HP_1.out.grow (((((Grow.refl _).alloc _).alloc _).alloc _).alloc _) | exact HP_1.out.grow ((Grow.refl _).drewN _)) (by first | exact HOT_1.out | exact HOT_1.out.grow ((Grow.refl _).alloc _) | exact HOT_1.out.grow (((Grow.refl _).alloc _).alloc _) | exact HOT_1.out.grow ((((Grow.refl _).alloc _).alloc _).alloc _) | exact HOT_1.out.grow (((((Grow.refl _).alloc _).alloc _).alloc _).alloc _) | exact HOT_1.out.grow ((Grow.refl _).drewN _)) _ ?_
          intro wz2 x2_0 hg2 hx2_0
          have hgr2 : Grow wz1 wz2 := by first | exact hg2 | exact Grow.trans ((Grow.refl _).alloc _) hg2 | exact Grow.trans (((Grow.refl _).alloc _).alloc _) hg2 | exact Grow.trans ((((Grow.refl _).alloc _).alloc _).alloc _) hg2 | exact Grow.trans (((((Grow.refl _).alloc _).alloc _).alloc _).alloc _) hg2 | exact Grow.trans ((Grow.refl _).drewN _) hg2
          have HP_2 := Lib.hid (HP_1.out.grow hgr2)
          have HS_2 := Lib.hid (HS_1.out.grow hgr2)
          have HOT_2 := Lib.hid (HOT_1.out.grow hgr2)
          have HA_2 := Lib.hid (HA_1.out.grow hgr2)
          have GCH2 := Lib.hid (GCH1.out.trans hgr2)
          clear hg2 hgr2 HP_1 HS_1 HOT_1 HA_1 GCH1
          rw [HM.out] at hx2_0
          have hyHB_2 := hx2_0
          have HB_2 := Lib.hid hyHB_2
          obtain ⟨aHB_2, cHB_2, rfl, qHB_21, qHB_22, _⟩ := hyHB_2
          clear hx2_0
          rw [HE.out]
          go_wp2_with fail
          refine Move_any s ot _ _ _ (by first | exact HS_2.out | exact HS_2.out.grow ((Grow.refl _).alloc _) | exact HS_2.out.grow (((Grow.refl _).alloc _).alloc _) | exact HS_2.out.grow ((((Grow.refl _).alloc _).alloc _).alloc _) | exact HS_2.out.grow (((((Grow.refl _).alloc _).alloc _).alloc _).alloc _) | exact HS_2.out.grow ((Grow.refl _).drewN _)) (by first | exact HOT_2.out | exact HOT_2.out.grow ((Grow.refl _).alloc _) | exact HOT_2.out.grow (((Grow.refl _).alloc _).alloc _) | exact HOT_2.out.grow ((((Grow.refl _).alloc _).alloc _).alloc _) | exact HOT_2.out.grow (((((Grow.refl _).alloc _).alloc _).alloc _).alloc _) | exact HOT_2.out.grow ((Grow.refl _).drewN _)) _ ?_
          intro wz3 x3_0 hg3 hx3_0
          have hgr3 : Grow wz2 wz3 := by first | exact hg3 | exact Grow.trans ((Grow.refl _).alloc _) hg3 | exact Grow.trans (((Grow.refl _).alloc _).alloc _) hg3 | exact Grow.trans ((((Grow.refl _).alloc _).alloc _).alloc _) hg3 | exact Grow.trans (((((Grow.refl _).alloc _).alloc _).alloc _).alloc _) hg3 | exact Grow.trans ((Grow.refl _).drewN _) hg3
          have HP_3 := Lib.hid (HP_2.out.grow hgr3)
          have HS_3 := Lib.hid (HS_2.out.grow hgr3)
          have HOT_3 := Lib.hid (HOT_2.out.grow hgr3)
          have HA_3 := Lib.hid (HA_2.out.grow hgr3)
          have HB_3 := Lib.hid (HB_2.out.grow hgr3)
          have GCH3 := Lib.hid (GCH2.out.trans hgr3)
          clear hg3 hgr3 HP_2 HS_2 HOT_2 HA_2 HB_2 GCH2
          rw [HMC.out] at hx3_0
          have hyHC_3 := hx3_0
          have HC_3 := Lib.hid hyHC_3
          obtain ⟨aHC_3, cHC_3, rfl, qHC_31, qHC_32, _⟩ := hyHC_3
          clear hx3_0
          rw [HGE.out]
          go_wp2_with fail
          refine rMove_any s ot _ _ _ (by first | exact HS_3.out | exact HS_3.out.grow ((Grow.refl _).alloc _) | exact HS_3.out.grow (((Grow.refl _).alloc _).alloc _) | exact HS_3.out.grow ((((Grow.refl _).alloc _).alloc _).alloc _) | exact HS_3.out.grow (((((Grow.refl _).alloc _).alloc _).alloc _).alloc _) | exact HS_3.out.grow ((Grow.refl _).drewN _)) (by first | exact HOT_3.out | exact HOT_3.out.grow ((Grow.refl _).alloc _) | exact HOT_3.out.grow (((Grow.refl _).alloc _).alloc _) | exact HOT_3.out.grow ((((Grow.refl _).alloc _).alloc _).alloc _) | exact HOT_3.out.grow (((((Grow.refl _).alloc _).alloc _).alloc _).alloc _) | exact HOT_3.out.grow ((Grow.refl _).drewN _)) _ ?_
          intro wz4 x4_0 hg4 hx4_0
          have hgr4 : Grow wz3 wz4 := by first | exact hg4 | exact Grow.trans ((Grow.refl _).alloc _) hg4 | exact Grow.trans (((Grow.refl _).alloc _).alloc _) hg4 | exact Grow.trans ((((Grow.refl _).alloc _).alloc _).alloc _) hg4 | exact Grow.trans (((((Grow.refl _).alloc _).alloc _).alloc _).alloc _) hg4 | exact Grow.trans ((Grow.refl _).drewN _) hg4
          have HP_4 := Lib.hid (HP_3.out.grow hgr4)
          have HS_4 := Lib.hid (HS_3.out.grow hgr4)
          have HOT_4 := Lib.hid (HOT_3.out.grow hgr4)
          have HA_4 := Lib.hid (HA_3.out.grow hgr4)
          have HB_4 := Lib.hid (HB_3.out.grow hgr4)
          have HC_4 := Lib.hid (HC_3.out.grow hgr4)
          have GCH4 := Lib.hid (GCH3.out.trans hgr4)
          clear hg4 hgr4 HP_3 HS_3 HOT_3 HA_3 HB_3 HC_3 GCH3
          rw [HMC.out] at hx4_0
          have hyHD_4 := hx4_0
          have HD_4 := Lib.hid hyHD_4
          obtain ⟨aHD_4, cHD_4, rfl, qHD_41, qHD_42, _⟩ := hyHD_4
          clear hx4_0
          rw [HGE.out]
          go_wp2_with fail
          refine rsame_any m m _ _ _ (by first | exact HA_4.out | exact HA_4.out.grow ((Grow.refl _).alloc _) | exact HA_4.out.grow (((Grow.refl _).alloc _).alloc _) | exact HA_4.out.grow ((((Grow.refl _).alloc _).alloc _).alloc _) | exact HA_4.out.grow (((((Grow.refl _).alloc _).alloc _).alloc _).alloc _) | exact HA_4.out.grow ((Grow.refl _).drewN _)) (by first | exact HB_4.out | exact HB_4.out.grow ((Grow.refl _).alloc _) | exact HB_4.out.grow (((Grow.refl _).alloc _).alloc _) | exact HB_4.out.grow ((((Grow.refl _).alloc _).alloc _).alloc _) | exact HB_4.out.grow (((((Grow.refl _).alloc _).alloc _).alloc _).alloc _) | exact HB_4.out.grow ((Grow.refl _).drewN _)) _ ?_
          intro wz5 hg5 
          have hgr5 : Grow wz4 wz5 := by first | exact hg5 | exact Grow.trans ((Grow.refl _).alloc _) hg5 | exact Grow.trans (((Grow.refl _).alloc _).alloc _) hg5 | exact Grow.trans ((((Grow.refl _).alloc _).alloc _).alloc _) hg5 | exact Grow.trans (((((Grow.refl _).alloc _).alloc _).alloc _).alloc _) hg5 | exact Grow.trans ((Grow.refl _).drewN _) hg5
          have HP_5 := Lib.hid (HP_4.out.grow hgr5)
          have HS_5 := Lib.hid (HS_4.out.grow hgr5)
          have HOT_5 := Lib.hid (HOT_4.out.grow hgr5)
          have HA_5 := Lib.hid (HA_4.out.grow hgr5)
          have HB_5 := Lib.hid (HB_4.out.grow hgr5)
          have HC_5 := Lib.hid (HC_4.out.grow hgr5)
          have HD_5 := Lib.hid (HD_4.out.grow hgr5)
          have GCH5 := Lib.hid (GCH4.out.trans hgr5)
          clear hg5 hgr5 HP_4 HS_4 HOT_4 HA_4 HB_4 HC_4 HD_4 GCH4
          rw [show decide (m = m) = true from decide_eq_true rfl]
          go_wp2_with fail
          refine sameInts_any c c _ _ _ (by first | exact HC_5.out | exact HC_5.out.grow ((Grow.refl _).alloc _) | exact HC_5.out.grow (((Grow.refl _).alloc _).alloc _) | exact HC_5.out.grow ((((Grow.refl _).alloc _).alloc _).alloc _) | exact HC_5.out.grow (((((Grow.refl _).alloc _).alloc _).alloc _).alloc _) | exact HC_5.out.grow ((Grow.refl _).drewN _)) (by first | exact HD_5.out | exact HD_5.out.grow ((Grow.refl _).alloc _) | exact HD_5.out.grow (((Grow.refl _).alloc _).alloc _) | exact HD_5.out.grow ((((Grow.refl _).alloc _).alloc _).alloc _) | exact HD_5.out.grow (((((Grow.refl _).alloc _).alloc _).alloc _).alloc _) | exact HD_5.out.grow ((Grow.refl _).drewN _)) _ ?_
          intro wz6 hg6 
          have hgr6 : Grow wz5 wz6 := by first | exact hg6 | exact Grow.trans ((Grow.refl _).alloc _) hg6 | exact Grow.trans (((Grow.refl _).alloc _).alloc _) hg6 | exact Grow.trans ((((Grow.refl _).alloc _).alloc _).alloc _) hg6 | exact Grow.trans (((((Grow.refl _).alloc _).alloc _).alloc _).alloc _) hg6 | exact Grow.trans ((Grow.refl _).drewN _) hg6
          have HP_6 := Lib.hid (HP_5.out.grow hgr6)
          have HS_6 := Lib.hid (HS_5.out.grow hgr6)
          have HOT_6 := Lib.hid (HOT_5.out.grow hgr6)
          have HA_6 := Lib.hid (HA_5.out.grow hgr6)
          have HB_6 := Lib.hid (HB_5.out.grow hgr6)
          have HC_6 := Lib.hid (HC_5.out.grow hgr6)
          have HD_6 := Lib.hid (HD_5.out.grow hgr6)
          have GCH6 := Lib.hid (GCH5.out.trans hgr6)
          clear hg6 hgr6 HP_5 HS_5 HOT_5 HA_5 HB_5 HC_5 HD_5 GCH5
          rw [show decide (c = c) = true from decide_eq_true rfl]
          go_wp2_with fail
          refine known_any _ _ ?_
          intro wz7 hg7 
          have hgr7 : Grow wz6 wz7 := by first | exact hg7 | exact Grow.trans ((Grow.refl _).alloc _) hg7 | exact Grow.trans (((Grow.refl _).alloc _).alloc _) hg7 | exact Grow.trans ((((Grow.refl _).alloc _).alloc _).alloc _) hg7 | exact Grow.trans (((((Grow.refl _).alloc _).alloc _).alloc _).alloc _) hg7 | exact Grow.trans ((Grow.refl _).drewN _) hg7
          have HP_7 := Lib.hid (HP_6.out.grow hgr7)
          have HS_7 := Lib.hid (HS_6.out.grow hgr7)
          have HOT_7 := Lib.hid (HOT_6.out.grow hgr7)
          have HA_7 := Lib.hid (HA_6.out.grow hgr7)
          have HB_7 := Lib.hid (HB_6.out.grow hgr7)
          have HC_7 := Lib.hid (HC_6.out.grow hgr7)
          have HD_7 := Lib.hid (HD_6.out.grow hgr7)
          have GCH7 := Lib.hid (GCH6.out.trans hgr7)
          clear hg7 hgr7 HP_6 HS_6 HOT_6 HA_6 HB_6 HC_6 HD_6 GCH6
          go_wp2_with fail
          first | exact HR.out _ (GCH7.out) | exact HR.out _ (Grow.trans GCH7.out ((Grow.refl _).alloc _)) | exact HR.out _ (Grow.trans GCH7.out (((Grow.refl _).alloc _).alloc _)) | exact HR.out _ (Grow.trans GCH7.out ((((Grow.refl _).alloc _).alloc _).alloc _)) | exact HR.out _ (Grow.trans GCH7.out (((((Grow.refl _).alloc _).alloc _).alloc _).alloc _)) | exact HR.out _ (Grow.trans GCH7.out ((Grow.refl _).drewN _))
        have HE := Lib.hid h1
        have HGE := Lib.hid h2
        obtain ⟨f1, f2, f3, f4, f5⟩ := ren_facts h1 h2
        have HF1 := Lib.hid f1
        have HF2 := Lib.hid f2
        have HF3 := Lib.hid f3
        have HF4 := Lib.hid f4
        have HF5 := Lib.hid f5
        clear h1 h2 f1 f2 f3 f4 f5
        obtain ⟨m, hm⟩ : ∃ z, renM p ot = z := ⟨_, rfl⟩
        have HM := Lib.hid hm
        clear hm
        obtain ⟨c, hc⟩ : ∃ z, movM s ot = z := ⟨_, rfl⟩
        have HMC := Lib.hid hc
        clear hc
        go_enter Try.func14, Try.ntmps14
        go_wp2_with fail
        refine long_any p _ _ (by first | exact HP_.out | exact HP_.out.grow ((Grow.refl _).alloc _) | exact HP_.out.grow (((Grow.refl _).alloc _).alloc _) | exact HP_.out.grow ((((Grow.refl _).alloc _).alloc _).alloc _) | exact HP_.out.grow (((((Grow.refl _).alloc _).alloc _).alloc _).alloc _) | exact HP_.out.grow ((Grow.refl _).drewN _)) _ ?_
        rw [HD0.out]
        go_wp2_with fail
        refine large_any s _ _ (by first | exact HS_.out | exact HS_.out.grow ((Grow.refl _).alloc _) | exact HS_.out.grow (((Grow.refl _).alloc _).alloc _) | exact HS_.out.grow ((((Grow.refl _).alloc _).alloc _).alloc _) | exact HS_.out.grow (((((Grow.refl _).alloc _).alloc _).alloc _).alloc _) | exact HS_.out.grow ((Grow.refl _).drewN _)) _ ?_
        rw [HD1.out]
        go_wp2_with fail
        refine large_any ot _ _ (by first | exact HOT_.out | exact HOT_.out.grow ((Grow.refl _).alloc _) | exact HOT_.out.grow (((Grow.refl _).alloc _).alloc _) | exact HOT_.out.grow ((((Grow.refl _).alloc _).alloc _).alloc _) | exact HOT_.out.grow (((((Grow.refl _).alloc _).alloc _).alloc _).alloc _) | exact HOT_.out.grow ((Grow.refl _).drewN _)) _ ?_
        rw [HD2.out]
        go_wp2_with fail
        refine Ren_any p ot _ _ _ (by first | exact HP_.out | exact HP_.out.grow ((Grow.refl _).alloc _) | exact HP_.out.grow (((Grow.refl _).alloc _).alloc _) | exact HP_.out.grow ((((Grow.refl _).alloc _).alloc _).alloc _) | exact HP_.out.grow (((((Grow.refl _).alloc _).alloc _).alloc _).alloc _) | exact HP_.out.grow ((Grow.refl _).drewN _)) (by first | exact HOT_.out | exact HOT_.out.grow ((Grow.refl _).alloc _) | exact HOT_.out.grow (((Grow.refl _).alloc _).alloc _) | exact HOT_.out.grow ((((Grow.refl _).alloc _).alloc _).alloc _) | exact HOT_.out.grow (((((Grow.refl _).alloc _).alloc _).alloc _).alloc _) | exact HOT_.out.grow ((Grow.refl _).drewN _)) _ ?_
        intro wz1 x1_0 hg1 hx1_0
        have hgr1 : Grow w wz1 := by first | exact hg1 | exact Grow.trans ((Grow.refl _).alloc _) hg1 | exact Grow.trans (((Grow.refl _).alloc _).alloc _) hg1 | exact Grow.trans ((((Grow.refl _).alloc _).alloc _).alloc _) hg1 | exact Grow.trans (((((Grow.refl _).alloc _).alloc _).alloc _).alloc _) hg1 | exact Grow.trans ((Grow.refl _).drewN _) hg1
        have HP_1 := Lib.hid (HP_.out.grow hgr1)
        have HS_1 := Lib.hid (HS_.out.grow hgr1)
        have HOT_1 := Lib.hid (HOT_.out.grow hgr1)
        have GCH1 := Lib.hid hgr1
        clear hg1 hgr1 HP_ HS_ HOT_
        rw [HM.out] at hx1_0
        have hyHA_1 := hx1_0
        have HA_1 := Lib.hid hyHA_1
        obtain ⟨aHA_1, cHA_1, rfl, qHA_11, qHA_12, _⟩ := hyHA_1
        clear hx1_0
        rw [HE.out]
        go_wp2_with fail
        refine rRen_any p ot _ _ _ (by first | exact HP_1.out | exact HP_1.out.grow ((Grow.refl _).alloc _) | exact HP_1.out.grow (((Grow.refl _).alloc _).alloc _) | exact HP_1.out.grow ((((Grow.refl _).alloc _).alloc _).alloc _) | exact HP_1.out.grow (((((Grow.refl _).alloc _).alloc _).alloc _).alloc _) | exact HP_1.out.grow ((Grow.refl _).drewN _)) (by first | exact HOT_1.out | exact HOT_1.out.grow ((Grow.refl _).alloc _) | exact HOT_1.out.grow (((Grow.refl _).alloc _).alloc _) | exact HOT_1.out.grow ((((Grow.refl _).alloc _).alloc _).alloc _) | exact HOT_1.out.grow (((((Grow.refl _).alloc _).alloc _).alloc _).alloc _) | exact HOT_1.out.grow ((Grow.refl _).drewN _)) _ ?_
        intro wz2 x2_0 hg2 hx2_0
        have hgr2 : Grow wz1 wz2 := by first | exact hg2 | exact Grow.trans ((Grow.refl _).alloc _) hg2 | exact Grow.trans (((Grow.refl _).alloc _).alloc _) hg2 | exact Grow.trans ((((Grow.refl _).alloc _).alloc _).alloc _) hg2 | exact Grow.trans (((((Grow.refl _).alloc _).alloc _).alloc _).alloc _) hg2 | exact Grow.trans ((Grow.refl _).drewN _) hg2
        have HP_2 := Lib.hid (HP_1.out.grow hgr2)
        have HS_2 := Lib.hid (HS_1.out.grow hgr2)
        have HOT_2 := Lib.hid (HOT_1.out.grow hgr2)
        have HA_2 := Lib.hid (HA_1.out.grow hgr2)
        have GCH2 := Lib.hid (GCH1.out.trans hgr2)
        clear hg2 hgr2 HP_1 HS_1 HOT_1 HA_1 GCH1
        rw [HM.out] at hx2_0
        have hyHB_2 := hx2_0
        have HB_2 := Lib.hid hyHB_2
        obtain ⟨aHB_2, cHB_2, rfl, qHB_21, qHB_22, _⟩ := hyHB_2
        clear hx2_0
        rw [HE.out]
        go_wp2_with fail
        refine Move_any s ot _ _ _ (by first | exact HS_2.out | exact HS_2.out.grow ((Grow.refl _).alloc _) | exact HS_2.out.grow (((Grow.refl _).alloc _).alloc _) | exact HS_2.out.grow ((((Grow.refl _).alloc _).alloc _).alloc _) | exact HS_2.out.grow (((((Grow.refl _).alloc _).alloc _).alloc _).alloc _) | exact HS_2.out.grow ((Grow.refl _).drewN _)) (by first | exact HOT_2.out | exact HOT_2.out.grow ((Grow.refl _).alloc _) | exact HOT_2.out.grow (((Grow.refl _).alloc _).alloc _) | exact HOT_2.out.grow ((((Grow.refl _).alloc _).alloc _).alloc _) | exact HOT_2.out.grow (((((Grow.refl _).alloc _).alloc _).alloc _).alloc _) | exact HOT_2.out.grow ((Grow.refl _).drewN _)) _ ?_
        intro wz3 x3_0 hg3 hx3_0
        have hgr3 : Grow wz2 wz3 := by first | exact hg3 | exact Grow.trans ((Grow.refl _).alloc _) hg3 | exact Grow.trans (((Grow.refl _).alloc _).alloc _) hg3 | exact Grow.trans ((((Grow.refl _).alloc _).alloc _).alloc _) hg3 | exact Grow.trans (((((Grow.refl _).alloc _).alloc _).alloc _).alloc _) hg3 | exact Grow.trans ((Grow.refl _).drewN _) hg3
        have HP_3 := Lib.hid (HP_2.out.grow hgr3)
        have HS_3 := Lib.hid (HS_2.out.grow hgr3)
        have HOT_3 := Lib.hid (HOT_2.out.grow hgr3)
        have HA_3 := Lib.hid (HA_2.out.grow hgr3)
        have HB_3 := Lib.hid (HB_2.out.grow hgr3)
        have GCH3 := Lib.hid (GCH2.out.trans hgr3)
        clear hg3 hgr3 HP_2 HS_2 HOT_2 HA_2 HB_2 GCH2
        rw [HMC.out] at hx3_0
        have hyHC_3 := hx3_0
        have HC_3 := Lib.hid hyHC_3
        obtain ⟨aHC_3, cHC_3, rfl, qHC_31, qHC_32, _⟩ := hyHC_3
        clear hx3_0
        rw [HGE.out]
        go_wp2_with fail
        refine rMove_any s ot _ _ _ (by first | exact HS_3.out | exact HS_3.out.grow ((Grow.refl _).alloc _) | exact HS_3.out.grow (((Grow.refl _).alloc _).alloc _) | exact HS_3.out.grow ((((Grow.refl _).alloc _).alloc _).alloc _) | exact HS_3.out.grow (((((Grow.refl _).alloc _).alloc _).alloc _).alloc _) | exact HS_3.out.grow ((Grow.refl _).drewN _)) (by first | exact HOT_3.out | exact HOT_3.out.grow ((Grow.refl _).alloc _) | exact HOT_3.out.grow (((Grow.refl _).alloc _).alloc _) | exact HOT_3.out.grow ((((Grow.refl _).alloc _).alloc _).alloc _) | exact HOT_3.out.grow (((((Grow.refl _).alloc _).alloc _).alloc _).alloc _) | exact HOT_3.out.grow ((Grow.refl _).drewN _)) _ ?_
        intro wz4 x4_0 hg4 hx4_0
        have hgr4 : Grow wz3 wz4 := by first | exact hg4 | exact Grow.trans ((Grow.refl _).alloc _) hg4 | exact Grow.trans (((Grow.refl _).alloc _).alloc _) hg4 | exact Grow.trans ((((Grow.refl _).alloc _).alloc _).alloc _) hg4 | exact Grow.trans (((((Grow.refl _).alloc _).alloc _).alloc _).alloc _) hg4 | exact Grow.trans ((Grow.refl _).drewN _) hg4
        have HP_4 := Lib.hid (HP_3.out.grow hgr4)
        have HS_4 := Lib.hid (HS_3.out.grow hgr4)
        have HOT_4 := Lib.hid (HOT_3.out.grow hgr4)
        have HA_4 := Lib.hid (HA_3.out.grow hgr4)
        have HB_4 := Lib.hid (HB_3.out.grow hgr4)
        have HC_4 := Lib.hid (HC_3.out.grow hgr4)
        have GCH4 := Lib.hid (GCH3.out.trans hgr4)
        clear hg4 hgr4 HP_3 HS_3 HOT_3 HA_3 HB_3 HC_3 GCH3
        rw [HMC.out] at hx4_0
        have hyHD_4 := hx4_0
        have HD_4 := Lib.hid hyHD_4
        obtain ⟨aHD_4, cHD_4, rfl, qHD_41, qHD_42, _⟩ := hyHD_4
        clear hx4_0
        rw [HGE.out]
        go_wp2_with fail
        refine rsame_any m m _ _ _ (by first | exact HA_4.out | exact HA_4.out.grow ((Grow.refl _).alloc _) | exact HA_4.out.grow (((Grow.refl _).alloc _).alloc _) | exact HA_4.out.grow ((((Grow.refl _).alloc _).alloc _).alloc _) | exact HA_4.out.grow (((((Grow.refl _).alloc _).alloc _).alloc _).alloc _) | exact HA_4.out.grow ((Grow.refl _).drewN _)) (by first | exact HB_4.out | exact HB_4.out.grow ((Grow.refl _).alloc _) | exact HB_4.out.grow (((Grow.refl _).alloc _).alloc _) | exact HB_4.out.grow ((((Grow.refl _).alloc _).alloc _).alloc _) | exact HB_4.out.grow (((((Grow.refl _).alloc _).alloc _).alloc _).alloc _) | exact HB_4.out.grow ((Grow.refl _).drewN _)) _ ?_
        intro wz5 hg5 
        have hgr5 : Grow wz4 wz5 := by first | exact hg5 | exact Grow.trans ((Grow.refl _).alloc _) hg5 | exact Grow.trans (((Grow.refl _).alloc _).alloc _) hg5 | exact Grow.trans ((((Grow.refl _).alloc _).alloc _).alloc _) hg5 | exact Grow.trans (((((Grow.refl _).alloc _).alloc _).alloc _).alloc _) hg5 | exact Grow.trans ((Grow.refl _).drewN _) hg5
        have HP_5 := Lib.hid (HP_4.out.grow hgr5)
        have HS_5 := Lib.hid (HS_4.out.grow hgr5)
        have HOT_5 := Lib.hid (HOT_4.out.grow hgr5)
        have HA_5 := Lib.hid (HA_4.out.grow hgr5)
        have HB_5 := Lib.hid (HB_4.out.grow hgr5)
        have HC_5 := Lib.hid (HC_4.out.grow hgr5)
        have HD_5 := Lib.hid (HD_4.out.grow hgr5)
        have GCH5 := Lib.hid (GCH4.out.trans hgr5)
        clear hg5 hgr5 HP_4 HS_4 HOT_4 HA_4 HB_4 HC_4 HD_4 GCH4
        rw [show decide (m = m) = true from decide_eq_true rfl]
        go_wp2_with fail
        refine sameInts_any c c _ _ _ (by first | exact HC_5.out | exact HC_5.out.grow ((Grow.refl _).alloc _) | exact HC_5.out.grow (((Grow.refl _).alloc _).alloc _) | exact HC_5.out.grow ((((Grow.refl _).alloc _).alloc _).alloc _) | exact HC_5.out.grow (((((Grow.refl _).alloc _).alloc _).alloc _).alloc _) | exact HC_5.out.grow ((Grow.refl _).drewN _)) (by first | exact HD_5.out | exact HD_5.out.grow ((Grow.refl _).alloc _) | exact HD_5.out.grow (((Grow.refl _).alloc _).alloc _) | exact HD_5.out.grow ((((Grow.refl _).alloc _).alloc _).alloc _) | exact HD_5.out.grow (((((Grow.refl _).alloc _).alloc _).alloc _).alloc _) | exact HD_5.out.grow ((Grow.refl _).drewN _)) _ ?_
        intro wz6 hg6 
        have hgr6 : Grow wz5 wz6 := by first | exact hg6 | exact Grow.trans ((Grow.refl _).alloc _) hg6 | exact Grow.trans (((Grow.refl _).alloc _).alloc _) hg6 | exact Grow.trans ((((Grow.refl _).alloc _).alloc _).alloc _) hg6 | exact Grow.trans (((((Grow.refl _).alloc _).alloc _).alloc _).alloc _) hg6 | exact Grow.trans ((Grow.refl _).drewN _) hg6
        have HP_6 := Lib.hid (HP_5.out.grow hgr6)
        have HS_6 := Lib.hid (HS_5.out.grow hgr6)
        have HOT_6 := Lib.hid (HOT_5.out.grow hgr6)
        have HA_6 := Lib.hid (HA_5.out.grow hgr6)
        have HB_6 := Lib.hid (HB_5.out.grow hgr6)
        have HC_6 := Lib.hid (HC_5.out.grow hgr6)
        have HD_6 := Lib.hid (HD_5.out.grow hgr6)
        have GCH6 := Lib.hid (GCH5.out.trans hgr6)
        clear hg6 hgr6 HP_5 HS_5 HOT_5 HA_5 HB_5 HC_5 HD_5 GCH5
        rw [show decide (c = c) = true from decide_eq_true rfl]
        go_wp2_with fail
        obtain ⟨z, hz⟩ : ∃ z, movL (runM p s) ot = z := ⟨_, rfl⟩
        have HZ := Lib.hid hz
        have hif : ifOK (chk p s) (runM p s) = runM p s := by rw [HF1.out]; rfl
        have HIF := Lib.hid hif
        have hrm := HF2.out
        rw [HM.out, HMC.out] at hrm
        have HRM := Lib.hid hrm
        have hrn := HF3.out
        rw [HM.out, HMC.out, hz] at hrn
        have HRN := Lib.hid hrn
        have h5 := HF5.out
        rw [hz] at h5
        have H5 := Lib.hid h5
        clear hz hif hrm hrn h5
        refine Run_any p s _ _ _ (by first | exact HP_6.out | exact HP_6.out.grow ((Grow.refl _).alloc _) | exact HP_6.out.grow (((Grow.refl _).alloc _).alloc _) | exact HP_6.out.grow ((((Grow.refl _).alloc _).alloc _).alloc _) | exact HP_6.out.grow (((((Grow.refl _).alloc _).alloc _).alloc _).alloc _) | exact HP_6.out.grow ((Grow.refl _).drewN _)) (by first | exact HS_6.out | exact HS_6.out.grow ((Grow.refl _).alloc _) | exact HS_6.out.grow (((Grow.refl _).alloc _).alloc _) | exact HS_6.out.grow ((((Grow.refl _).alloc _).alloc _).alloc _) | exact HS_6.out.grow (((((Grow.refl _).alloc _).alloc _).alloc _).alloc _) | exact HS_6.out.grow ((Grow.refl _).drewN _)) _ ?_
        intro wz7 x7_0 hg7 hx7_0
        have hgr7 : Grow wz6 wz7 := by first | exact hg7 | exact Grow.trans ((Grow.refl _).alloc _) hg7 | exact Grow.trans (((Grow.refl _).alloc _).alloc _) hg7 | exact Grow.trans ((((Grow.refl _).alloc _).alloc _).alloc _) hg7 | exact Grow.trans (((((Grow.refl _).alloc _).alloc _).alloc _).alloc _) hg7 | exact Grow.trans ((Grow.refl _).drewN _) hg7
        have HP_7 := Lib.hid (HP_6.out.grow hgr7)
        have HS_7 := Lib.hid (HS_6.out.grow hgr7)
        have HOT_7 := Lib.hid (HOT_6.out.grow hgr7)
        have HA_7 := Lib.hid (HA_6.out.grow hgr7)
        have HB_7 := Lib.hid (HB_6.out.grow hgr7)
        have HC_7 := Lib.hid (HC_6.out.grow hgr7)
        have HD_7 := Lib.hid (HD_6.out.grow hgr7)
        have GCH7 := Lib.hid (GCH6.out.trans hgr7)
        clear hg7 hgr7 HP_6 HS_6 HOT_6 HA_6 HB_6 HC_6 HD_6 GCH6
        rw [HIF.out] at hx7_0
        have hyHX_7 := hx7_0.slc encI_len
        have HX_7 := Lib.hid hyHX_7
        obtain ⟨aHX_7, cHX_7, rfl, qHX_71, qHX_72, _⟩ := hyHX_7
        clear hx7_0
        rw [HF1.out]
        go_wp2_with fail
        refine Run_any m c _ _ _ (by first | exact HA_7.out | exact HA_7.out.grow ((Grow.refl _).alloc _) | exact HA_7.out.grow (((Grow.refl _).alloc _).alloc _) | exact HA_7.out.grow ((((Grow.refl _).alloc _).alloc _).alloc _) | exact HA_7.out.grow (((((Grow.refl _).alloc _).alloc _).alloc _).alloc _) | exact HA_7.out.grow ((Grow.refl _).drewN _)) (by first | exact HC_7.out | exact HC_7.out.grow ((Grow.refl _).alloc _) | exact HC_7.out.grow (((Grow.refl _).alloc _).alloc _) | exact HC_7.out.grow ((((Grow.refl _).alloc _).alloc _).alloc _) | exact HC_7.out.grow (((((Grow.refl _).alloc _).alloc _).alloc _).alloc _) | exact HC_7.out.grow ((Grow.refl _).drewN _)) _ ?_
        intro wz8 x8_0 hg8 hx8_0
        have hgr8 : Grow wz7 wz8 := by first | exact hg8 | exact Grow.trans ((Grow.refl _).alloc _) hg8 | exact Grow.trans (((Grow.refl _).alloc _).alloc _) hg8 | exact Grow.trans ((((Grow.refl _).alloc _).alloc _).alloc _) hg8 | exact Grow.trans (((((Grow.refl _).alloc _).alloc _).alloc _).alloc _) hg8 | exact Grow.trans ((Grow.refl _).drewN _) hg8
        have HP_8 := Lib.hid (HP_7.out.grow hgr8)
        have HS_8 := Lib.hid (HS_7.out.grow hgr8)
        have HOT_8 := Lib.hid (HOT_7.out.grow hgr8)
        have HA_8 := Lib.hid (HA_7.out.grow hgr8)
        have HB_8 := Lib.hid (HB_7.out.grow hgr8)
        have HC_8 := Lib.hid (HC_7.out.grow hgr8)
        have HD_8 := Lib.hid (HD_7.out.grow hgr8)
        have HX_8 := Lib.hid (HX_7.out.grow hgr8)
        have GCH8 := Lib.hid (GCH7.out.trans hgr8)
        clear hg8 hgr8 HP_7 HS_7 HOT_7 HA_7 HB_7 HC_7 HD_7 HX_7 GCH7
        rw [HRN.out] at hx8_0
        have hyHY_8 := hx8_0.slc encI_len
        have HY_8 := Lib.hid hyHY_8
        obtain ⟨aHY_8, cHY_8, rfl, qHY_81, qHY_82, _⟩ := hyHY_8
        clear hx8_0
        rw [HRM.out]
        go_wp2_with fail
        refine Move_any (runM p s) ot _ _ _ (by first | exact HX_8.out | exact HX_8.out.grow ((Grow.refl _).alloc _) | exact HX_8.out.grow (((Grow.refl _).alloc _).alloc _) | exact HX_8.out.grow ((((Grow.refl _).alloc _).alloc _).alloc _) | exact HX_8.out.grow (((((Grow.refl _).alloc _).alloc _).alloc _).alloc _) | exact HX_8.out.grow ((Grow.refl _).drewN _)) (by first | exact HOT_8.out | exact HOT_8.out.grow ((Grow.refl _).alloc _) | exact HOT_8.out.grow (((Grow.refl _).alloc _).alloc _) | exact HOT_8.out.grow ((((Grow.refl _).alloc _).alloc _).alloc _) | exact HOT_8.out.grow (((((Grow.refl _).alloc _).alloc _).alloc _).alloc _) | exact HOT_8.out.grow ((Grow.refl _).drewN _)) _ ?_
        intro wz9 x9_0 hg9 hx9_0
        have hgr9 : Grow wz8 wz9 := by first | exact hg9 | exact Grow.trans ((Grow.refl _).alloc _) hg9 | exact Grow.trans (((Grow.refl _).alloc _).alloc _) hg9 | exact Grow.trans ((((Grow.refl _).alloc _).alloc _).alloc _) hg9 | exact Grow.trans (((((Grow.refl _).alloc _).alloc _).alloc _).alloc _) hg9 | exact Grow.trans ((Grow.refl _).drewN _) hg9
        have HP_9 := Lib.hid (HP_8.out.grow hgr9)
        have HS_9 := Lib.hid (HS_8.out.grow hgr9)
        have HOT_9 := Lib.hid (HOT_8.out.grow hgr9)
        have HA_9 := Lib.hid (HA_8.out.grow hgr9)
        have HB_9 := Lib.hid (HB_8.out.grow hgr9)
        have HC_9 := Lib.hid (HC_8.out.grow hgr9)
        have HD_9 := Lib.hid (HD_8.out.grow hgr9)
        have HX_9 := Lib.hid (HX_8.out.grow hgr9)
        have HY_9 := Lib.hid (HY_8.out.grow hgr9)
        have GCH9 := Lib.hid (GCH8.out.trans hgr9)
        clear hg9 hgr9 HP_8 HS_8 HOT_8 HA_8 HB_8 HC_8 HD_8 HX_8 HY_8 GCH8
        rw [H5.out] at hx9_0
        have hyHZ_9 := hx9_0
        have HZ_9 := Lib.hid hyHZ_9
        obtain ⟨aHZ_9, cHZ_9, rfl, qHZ_91, qHZ_92, _⟩ := hyHZ_9
        clear hx9_0
        rw [HF4.out]
        go_wp2_with fail
        refine sameInts_any z z _ _ _ (by first | exact HY_9.out | exact HY_9.out.grow ((Grow.refl _).alloc _) | exact HY_9.out.grow (((Grow.refl _).alloc _).alloc _) | exact HY_9.out.grow ((((Grow.refl _).alloc _).alloc _).alloc _) | exact HY_9.out.grow (((((Grow.refl _).alloc _).alloc _).alloc _).alloc _) | exact HY_9.out.grow ((Grow.refl _).drewN _)) (by first | exact HZ_9.out | exact HZ_9.out.grow ((Grow.refl _).alloc _) | exact HZ_9.out.grow (((Grow.refl _).alloc _).alloc _) | exact HZ_9.out.grow ((((Grow.refl _).alloc _).alloc _).alloc _) | exact HZ_9.out.grow (((((Grow.refl _).alloc _).alloc _).alloc _).alloc _) | exact HZ_9.out.grow ((Grow.refl _).drewN _)) _ ?_
        intro wz10 hg10 
        have hgr10 : Grow wz9 wz10 := by first | exact hg10 | exact Grow.trans ((Grow.refl _).alloc _) hg10 | exact Grow.trans (((Grow.refl _).alloc _).alloc _) hg10 | exact Grow.trans ((((Grow.refl _).alloc _).alloc _).alloc _) hg10 | exact Grow.trans (((((Grow.refl _).alloc _).alloc _).alloc _).alloc _) hg10 | exact Grow.trans ((Grow.refl _).drewN _) hg10
        have HP_10 := Lib.hid (HP_9.out.grow hgr10)
        have HS_10 := Lib.hid (HS_9.out.grow hgr10)
        have HOT_10 := Lib.hid (HOT_9.out.grow hgr10)
        have HA_10 := Lib.hid (HA_9.out.grow hgr10)
        have HB_10 := Lib.hid (HB_9.out.grow hgr10)
        have HC_10 := Lib.hid (HC_9.out.grow hgr10)
        have HD_10 := Lib.hid (HD_9.out.grow hgr10)
        have HX_10 := Lib.hid (HX_9.out.grow hgr10)
        have HY_10 := Lib.hid (HY_9.out.grow hgr10)
        have HZ_10 := Lib.hid (HZ_9.out.grow hgr10)
        have GCH10 := Lib.hid (GCH9.out.trans hgr10)
        clear hg10 hgr10 HP_9 HS_9 HOT_9 HA_9 HB_9 HC_9 HD_9 HX_9 HY_9 HZ_9 GCH9
        rw [show decide (z = z) = true from decide_eq_true rfl]
        go_wp2_with fail
        refine known_any _ _ ?_
        intro wz11 hg11 
        have hgr11 : Grow wz10 wz11 := by first | exact hg11 | exact Grow.trans ((Grow.refl _).alloc _) hg11 | exact Grow.trans (((Grow.refl _).alloc _).alloc _) hg11 | exact Grow.trans ((((Grow.refl _).alloc _).alloc _).alloc _) hg11 | exact Grow.trans (((((Grow.refl _).alloc _).alloc _).alloc _).alloc _) hg11 | exact Grow.trans ((Grow.refl _).drewN _) hg11
        have HP_11 := Lib.hid (HP_10.out.grow hgr11)
        have HS_11 := Lib.hid (HS_10.out.grow hgr11)
        have HOT_11 := Lib.hid (HOT_10.out.grow hgr11)
        have HA_11 := Lib.hid (HA_10.out.grow hgr11)
        have HB_11 := Lib.hid (HB_10.out.grow hgr11)
        have HC_11 := Lib.hid (HC_10.out.grow hgr11)
        have HD_11 := Lib.hid (HD_10.out.grow hgr11)
        have HX_11 := Lib.hid (HX_10.out.grow hgr11)
        have HY_11 := Lib.hid (HY_10.out.grow hgr11)
        have HZ_11 := Lib.hid (HZ_10.out.grow hgr11)
        have GCH11 := Lib.hid (GCH10.out.trans hgr11)
        clear hg11 hgr11 HP_10 HS_10 HOT_10 HA_10 HB_10 HC_10 HD_10 HX_10 HY_10 HZ_10 GCH10
        go_wp2_with fail
        first | exact HR.out _ (GCH11.out) | exact HR.out _ (Grow.trans GCH11.out ((Grow.refl _).alloc _)) | exact HR.out _ (Grow.trans GCH11.out (((Grow.refl _).alloc _).alloc _)) | exact HR.out _ (Grow.trans GCH11.out ((((Grow.refl _).alloc _).alloc _).alloc _)) | exact HR.out _ (Grow.trans GCH11.out (((((Grow.refl _).alloc _).alloc _).alloc _).alloc _)) | exact HR.out _ (Grow.trans GCH11.out ((Grow.refl _).drewN _))
end Go.Proofs.Ytmaphlbmmemgcaa
