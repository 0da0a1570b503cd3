/- The walks of the statements CodeRuns and CodeBefores. -/
import Derived.Test.YtmaphlbmmemgcaaLawA
import Derived.Test.YtmaphlbmmemgcaaRefF
import Derived.Test.YtmaphlbmmemgcaaOpen
namespace Go.Proofs.Ytmaphlbmmemgcaa
open Go.RowKit

set_option maxRecDepth 100000 in
set_option maxHeartbeats 4000000 in
theorem codeRuns_any (p : List Ln) (s : List Int) (w : World) (vp vs : Value) (hp : LinesAt w vp p) (hs : IntsAt w vs s) (R : Ending → World → Prop) (hR : ∀ w', Grow w w' → R (.returned (.bool true)) w') :
    Calls Try.prog 4 #[vp, vs] w R := by
  have HR := Lib.hid hR
  have HP_ := Lib.hid hp
  obtain ⟨adp, cpp, rfl, qp1, qp2, _⟩ := hp
  have HS_ := Lib.hid hs
  obtain ⟨ads, cps, rfl, qs1, qs2, _⟩ := hs
  clear hR
  by_cases gd0 : 100 < p.length
  · have hd0 : decide (100 < p.length) = true := decide_eq_true gd0
    have HD0 := Lib.hid hd0
    clear hd0 gd0
    go_enter Try.func4, Try.ntmps4
    go_wp2_with fail
    refine long_any p _ _ (by first | exact HP_.out | exact HP_.out.grow ((Grow.refl _).alloc _) | exact HP_.out.grow (((Grow.refl _).alloc _).alloc _) | exact HP_.out.grow ((((Grow.refl _).alloc _).alloc _).alloc _) | exact HP_.out.grow (((((Grow.refl _).alloc _).alloc _).alloc _).alloc _) | exact HP_.out.grow ((Grow.refl _).drewN _)) _ ?_
    rw [HD0.out]
    go_wp2_with fail
    refine known_any _ _ ?_
    intro wz1 hg1 
    have hgr1 : Grow w wz1 := by first | exact hg1 | exact Grow.trans ((Grow.refl _).alloc _) hg1 | exact Grow.trans (((Grow.refl _).alloc _).alloc _) hg1 | exact Grow.trans ((((Grow.refl _).alloc _).alloc _).alloc _) hg1 | exact Grow.trans (((((Grow.refl _).alloc _).alloc _).alloc _).alloc _) hg1 | exact Grow.trans ((Grow.refl _).drewN _) hg1
    have HP_1 := Lib.hid (HP_.out.grow hgr1)
    have HS_1 := Lib.hid (HS_.out.grow hgr1)
    have GCH1 := Lib.hid hgr1
    clear hg1 hgr1 HP_ HS_
    go_wp2_with fail
    first | exact HR.out _ (GCH1.out) | exact HR.out _ (Grow.trans GCH1.out ((Grow.refl _).alloc _)) | exact HR.out _ (Grow.trans GCH1.out (((Grow.refl _).alloc _).alloc _)) | exact HR.out _ (Grow.trans GCH1.out ((((Grow.refl _).alloc _).alloc _).alloc _)) | exact HR.out _ (Grow.trans GCH1.out (((((Grow.refl _).alloc _).alloc _).alloc _).alloc _)) | exact HR.out _ (Grow.trans GCH1.out ((Grow.refl _).drewN _))
  · have hd0 : decide (100 < p.length) = false := decide_eq_false gd0
    have HD0 := Lib.hid hd0
    clear hd0
    by_cases gd1 : 100 < s.length
    · have hd1 : decide (100 < s.length) = true := decide_eq_true gd1
      have HD1 := Lib.hid hd1
      clear hd1 gd1
      go_enter Try.func4, Try.ntmps4
      go_wp2_with fail
      refine long_any p _ _ (by first | exact HP_.out | exact HP_.out.grow ((Grow.refl _).alloc _) | exact HP_.out.grow (((Grow.refl _).alloc _).alloc _) | exact HP_.out.grow ((((Grow.refl _).alloc _).alloc _).alloc _) | exact HP_.out.grow (((((Grow.refl _).alloc _).alloc _).alloc _).alloc _) | exact HP_.out.grow ((Grow.refl _).drewN _)) _ ?_
      rw [HD0.out]
      go_wp2_with fail
      refine large_any s _ _ (by first | exact HS_.out | exact HS_.out.grow ((Grow.refl _).alloc _) | exact HS_.out.grow (((Grow.refl _).alloc _).alloc _) | exact HS_.out.grow ((((Grow.refl _).alloc _).alloc _).alloc _) | exact HS_.out.grow (((((Grow.refl _).alloc _).alloc _).alloc _).alloc _) | exact HS_.out.grow ((Grow.refl _).drewN _)) _ ?_
      rw [HD1.out]
      go_wp2_with fail
      refine known_any _ _ ?_
      intro wz1 hg1 
      have hgr1 : Grow w wz1 := by first | exact hg1 | exact Grow.trans ((Grow.refl _).alloc _) hg1 | exact Grow.trans (((Grow.refl _).alloc _).alloc _) hg1 | exact Grow.trans ((((Grow.refl _).alloc _).alloc _).alloc _) hg1 | exact Grow.trans (((((Grow.refl _).alloc _).alloc _).alloc _).alloc _) hg1 | exact Grow.trans ((Grow.refl _).drewN _) hg1
      have HP_1 := Lib.hid (HP_.out.grow hgr1)
      have HS_1 := Lib.hid (HS_.out.grow hgr1)
      have GCH1 := Lib.hid hgr1
      clear hg1 hgr1 HP_ HS_
      go_wp2_with fail
      first | exact HR.out _ (GCH1.out) | exact HR.out _ (Grow.trans GCH1.out ((Grow.refl _).alloc _)) | exact HR.out _ (Grow.trans GCH1.out (((Grow.refl _).alloc _).alloc _)) | exact HR.out _ (Grow.trans GCH1.out ((((Grow.refl _).alloc _).alloc _).alloc _)) | exact HR.out _ (Grow.trans GCH1.out (((((Grow.refl _).alloc _).alloc _).alloc _).alloc _)) | exact HR.out _ (Grow.trans GCH1.out ((Grow.refl _).drewN _))
    · have hd1 : decide (100 < s.length) = false := decide_eq_false gd1
      have HD1 := Lib.hid hd1
      clear hd1
      obtain ⟨e, he⟩ : ∃ z, chk p s = z := ⟨_, rfl⟩
      have HE := Lib.hid he
      clear he
      obtain ⟨m, hm⟩ : ∃ z, ifOK (chk p s) (runM p s) = z := ⟨_, rfl⟩
      have HM := Lib.hid hm
      clear hm
      obtain ⟨d, hd⟩ : ∃ z, ifOK (chk p s) (doneM p s) = z := ⟨_, rfl⟩
      have HDN := Lib.hid hd
      clear hd
      obtain ⟨ep, hep⟩ : ∃ z, valP p = z := ⟨_, rfl⟩
      have HEP := Lib.hid hep
      clear hep
      obtain ⟨es, hes⟩ : ∃ z, valS s = z := ⟨_, rfl⟩
      have HES := Lib.hid hes
      clear hes
      go_enter Try.func4, Try.ntmps4
      go_wp2_with fail
      refine long_any p _ _ (by first | exact HP_.out | exact HP_.out.grow ((Grow.refl _).alloc _) | exact HP_.out.grow (((Grow.refl _).alloc _).alloc _) | exact HP_.out.grow ((((Grow.refl _).alloc _).alloc _).alloc _) | exact HP_.out.grow (((((Grow.refl _).alloc _).alloc _).alloc _).alloc _) | exact HP_.out.grow ((Grow.refl _).drewN _)) _ ?_
      rw [HD0.out]
      go_wp2_with fail
      refine large_any s _ _ (by first | exact HS_.out | exact HS_.out.grow ((Grow.refl _).alloc _) | exact HS_.out.grow (((Grow.refl _).alloc _).alloc _) | exact HS_.out.grow ((((Grow.refl _).alloc _).alloc _).alloc _) | exact HS_.out.grow (((((Grow.refl _).alloc _).alloc _).alloc _).alloc _) | exact HS_.out.grow ((Grow.refl _).drewN _)) _ ?_
      rw [HD1.out]
      go_wp2_with (at_builtin; refine wpList_appAll _ rfl (.tmp 21) (.tmp 22) 23 rfl w.heap.size 3 Try.underlying23 info_int rfl (by decide) (by decide) encI encI_len encI_one _ [] rfl (ownsRow_empty w 1 _ _ _ (Nat.le_refl _)) _ s rfl (HS_.out.grow ((Grow.refl w).alloc _)) (by simp; omega) (by simp) ?_; intro xo1 wz1 hown1 hgro1)
      have hg1 : Grow w wz1 := grown_below (ownsRow_empty w 1 3 encI _ (Nat.le_refl _)) hgro1 (Nat.le_refl _) (by simp) ((Grow.refl w).alloc _)
      have hx1 := slc_of_owns encI_len hown1
      clear hown1 hgro1
      have hgr1 : Grow w wz1 := by first | exact hg1 | exact Grow.trans ((Grow.refl _).alloc _) hg1 | exact Grow.trans (((Grow.refl _).alloc _).alloc _) hg1 | exact Grow.trans ((((Grow.refl _).alloc _).alloc _).alloc _) hg1 | exact Grow.trans (((((Grow.refl _).alloc _).alloc _).alloc _).alloc _) hg1 | exact Grow.trans ((Grow.refl _).drewN _) hg1
      have HP_1 := Lib.hid (HP_.out.grow hgr1)
      have HS_1 := Lib.hid (HS_.out.grow hgr1)
      have GCH1 := Lib.hid hgr1
      clear hg1 hgr1 HP_ HS_
      simp only [List.nil_append] at hx1
      have HO_1 := Lib.hid hx1
      obtain ⟨aHO_1, cHO_1, rfl, qHO_11, qHO_12, _⟩ := hx1
      go_wp2_with fail
      refine Run_any p s _ _ _ (by first | exact HP_1.out | exact HP_1.out.grow ((Grow.refl _).alloc _) | exact HP_1.out.grow (((Grow.refl _).alloc _).alloc _) | exact HP_1.out.grow ((((Grow.refl _).alloc _).alloc _).alloc _) | exact HP_1.out.grow (((((Grow.refl _).alloc _).alloc _).alloc _).alloc _) | exact HP_1.out.grow ((Grow.refl _).drewN _)) (by first | exact HO_1.out | exact HO_1.out.grow ((Grow.refl _).alloc _) | exact HO_1.out.grow (((Grow.refl _).alloc _).alloc _) | exact HO_1.out.grow ((((Grow.refl _).alloc _).alloc _).alloc _) | exact HO_1.out.grow (((((Grow.refl _).alloc _).alloc _).alloc _).alloc _) | exact HO_1.out.grow ((Grow.refl _).drewN _)) _ ?_
      intro wz2 x2_0 hg2 hx2_0
      have hgr2 : Grow wz1 wz2 := by first | exact hg2 | exact Grow.trans ((Grow.refl _).alloc _) hg2 | exact Grow.trans (((Grow.refl _).alloc _).alloc _) hg2 | exact Grow.trans ((((Grow.refl _).alloc _).alloc _).alloc _) hg2 | exact Grow.trans (((((Grow.refl _).alloc _).alloc _).alloc _).alloc _) hg2 | exact Grow.trans ((Grow.refl _).drewN _) hg2
      have HP_2 := Lib.hid (HP_1.out.grow hgr2)
      have HS_2 := Lib.hid (HS_1.out.grow hgr2)
      have HO_2 := Lib.hid (HO_1.out.grow hgr2)
      have GCH2 := Lib.hid (GCH1.out.trans hgr2)
      clear hg2 hgr2 HP_1 HS_1 HO_1 GCH1
      rw [HM.out] at hx2_0
      have hyHA_2 := hx2_0.slc encI_len
      have HA_2 := Lib.hid hyHA_2
      obtain ⟨aHA_2, cHA_2, rfl, qHA_21, qHA_22, _⟩ := hyHA_2
      clear hx2_0
      rw [HE.out]
      go_wp2_with fail
      refine rRun_any p s _ _ _ (by first | exact HP_2.out | exact HP_2.out.grow ((Grow.refl _).alloc _) | exact HP_2.out.grow (((Grow.refl _).alloc _).alloc _) | exact HP_2.out.grow ((((Grow.refl _).alloc _).alloc _).alloc _) | exact HP_2.out.grow (((((Grow.refl _).alloc _).alloc _).alloc _).alloc _) | exact HP_2.out.grow ((Grow.refl _).drewN _)) (by first | exact HS_2.out | exact HS_2.out.grow ((Grow.refl _).alloc _) | exact HS_2.out.grow (((Grow.refl _).alloc _).alloc _) | exact HS_2.out.grow ((((Grow.refl _).alloc _).alloc _).alloc _) | exact HS_2.out.grow (((((Grow.refl _).alloc _).alloc _).alloc _).alloc _) | exact HS_2.out.grow ((Grow.refl _).drewN _)) _ ?_
      intro wz3 x3_0 hg3 hx3_0
      have hgr3 : Grow wz2 wz3 := by first | exact hg3 | exact Grow.trans ((Grow.refl _).alloc _) hg3 | exact Grow.trans (((Grow.refl _).alloc _).alloc _) hg3 | exact Grow.trans ((((Grow.refl _).alloc _).alloc _).alloc _) hg3 | exact Grow.trans (((((Grow.refl _).alloc _).alloc _).alloc _).alloc _) hg3 | exact Grow.trans ((Grow.refl _).drewN _) hg3
      have HP_3 := Lib.hid (HP_2.out.grow hgr3)
      have HS_3 := Lib.hid (HS_2.out.grow hgr3)
      have HO_3 := Lib.hid (HO_2.out.grow hgr3)
      have HA_3 := Lib.hid (HA_2.out.grow hgr3)
      have GCH3 := Lib.hid (GCH2.out.trans hgr3)
      clear hg3 hgr3 HP_2 HS_2 HO_2 HA_2 GCH2
      rw [HM.out] at hx3_0
      have hyHB_3 := hx3_0
      have HB_3 := Lib.hid hyHB_3
      obtain ⟨aHB_3, cHB_3, rfl, qHB_31, qHB_32, _⟩ := hyHB_3
      clear hx3_0
      rw [HE.out]
      go_wp2_with fail
      refine Done_any p s _ _ _ (by first | exact HP_3.out | exact HP_3.out.grow ((Grow.refl _).alloc _) | exact HP_3.out.grow (((Grow.refl _).alloc _).alloc _) | exact HP_3.out.grow ((((Grow.refl _).alloc _).alloc _).alloc _) | exact HP_3.out.grow (((((Grow.refl _).alloc _).alloc _).alloc _).alloc _) | exact HP_3.out.grow ((Grow.refl _).drewN _)) (by first | exact HS_3.out | exact HS_3.out.grow ((Grow.refl _).alloc _) | exact HS_3.out.grow (((Grow.refl _).alloc _).alloc _) | exact HS_3.out.grow ((((Grow.refl _).alloc _).alloc _).alloc _) | exact HS_3.out.grow (((((Grow.refl _).alloc _).alloc _).alloc _).alloc _) | exact HS_3.out.grow ((Grow.refl _).drewN _)) _ ?_
      intro wz4 x4_0 hg4 hx4_0
      have hgr4 : Grow wz3 wz4 := by first | exact hg4 | exact Grow.trans ((Grow.refl _).alloc _) hg4 | exact Grow.trans (((Grow.refl _).alloc _).alloc _) hg4 | exact Grow.trans ((((Grow.refl _).alloc _).alloc _).alloc _) hg4 | exact Grow.trans (((((Grow.refl _).alloc _).alloc _).alloc _).alloc _) hg4 | exact Grow.trans ((Grow.refl _).drewN _) hg4
      have HP_4 := Lib.hid (HP_3.out.grow hgr4)
      have HS_4 := Lib.hid (HS_3.out.grow hgr4)
      have HO_4 := Lib.hid (HO_3.out.grow hgr4)
      have HA_4 := Lib.hid (HA_3.out.grow hgr4)
      have HB_4 := Lib.hid (HB_3.out.grow hgr4)
      have GCH4 := Lib.hid (GCH3.out.trans hgr4)
      clear hg4 hgr4 HP_3 HS_3 HO_3 HA_3 HB_3 GCH3
      rw [HDN.out] at hx4_0
      have hyHC_4 := hx4_0.slc encI_len
      have HC_4 := Lib.hid hyHC_4
      obtain ⟨aHC_4, cHC_4, rfl, qHC_41, qHC_42, _⟩ := hyHC_4
      clear hx4_0
      rw [HE.out]
      go_wp2_with fail
      refine rDone_any p s _ _ _ (by first | exact HP_4.out | exact HP_4.out.grow ((Grow.refl _).alloc _) | exact HP_4.out.grow (((Grow.refl _).alloc _).alloc _) | exact HP_4.out.grow ((((Grow.refl _).alloc _).alloc _).alloc _) | exact HP_4.out.grow (((((Grow.refl _).alloc _).alloc _).alloc _).alloc _) | exact HP_4.out.grow ((Grow.refl _).drewN _)) (by first | exact HS_4.out | exact HS_4.out.grow ((Grow.refl _).alloc _) | exact HS_4.out.grow (((Grow.refl _).alloc _).alloc _) | exact HS_4.out.grow ((((Grow.refl _).alloc _).alloc _).alloc _) | exact HS_4.out.grow (((((Grow.refl _).alloc _).alloc _).alloc _).alloc _) | exact HS_4.out.grow ((Grow.refl _).drewN _)) _ ?_
      intro wz5 x5_0 hg5 hx5_0
      have hgr5 : Grow wz4 wz5 := by first | exact hg5 | exact Grow.trans ((Grow.refl _).alloc _) hg5 | exact Grow.trans (((Grow.refl _).alloc _).alloc _) hg5 | exact Grow.trans ((((Grow.refl _).alloc _).alloc _).alloc _) hg5 | exact Grow.trans (((((Grow.refl _).alloc _).alloc _).alloc _).alloc _) hg5 | exact Grow.trans ((Grow.refl _).drewN _) hg5
      have HP_5 := Lib.hid (HP_4.out.grow hgr5)
      have HS_5 := Lib.hid (HS_4.out.grow hgr5)
      have HO_5 := Lib.hid (HO_4.out.grow hgr5)
      have HA_5 := Lib.hid (HA_4.out.grow hgr5)
      have HB_5 := Lib.hid (HB_4.out.grow hgr5)
      have HC_5 := Lib.hid (HC_4.out.grow hgr5)
      have GCH5 := Lib.hid (GCH4.out.trans hgr5)
      clear hg5 hgr5 HP_4 HS_4 HO_4 HA_4 HB_4 HC_4 GCH4
      rw [HDN.out] at hx5_0
      have hyHD_5 := hx5_0
      have HD_5 := Lib.hid hyHD_5
      obtain ⟨aHD_5, cHD_5, rfl, qHD_51, qHD_52, _⟩ := hyHD_5
      clear hx5_0
      rw [HE.out]
      go_wp2_with fail
      refine validate_any p _ _ (by first | exact HP_5.out | exact HP_5.out.grow ((Grow.refl _).alloc _) | exact HP_5.out.grow (((Grow.refl _).alloc _).alloc _) | exact HP_5.out.grow ((((Grow.refl _).alloc _).alloc _).alloc _) | exact HP_5.out.grow (((((Grow.refl _).alloc _).alloc _).alloc _).alloc _) | exact HP_5.out.grow ((Grow.refl _).drewN _)) _ ?_
      intro wz6 hg6 
      have hgr6 : Grow wz5 wz6 := by first | exact hg6 | exact Grow.trans ((Grow.refl _).alloc _) hg6 | exact Grow.trans (((Grow.refl _).alloc _).alloc _) hg6 | exact Grow.trans ((((Grow.refl _).alloc _).alloc _).alloc _) hg6 | exact Grow.trans (((((Grow.refl _).alloc _).alloc _).alloc _).alloc _) hg6 | exact Grow.trans ((Grow.refl _).drewN _) hg6
      have HP_6 := Lib.hid (HP_5.out.grow hgr6)
      have HS_6 := Lib.hid (HS_5.out.grow hgr6)
      have HO_6 := Lib.hid (HO_5.out.grow hgr6)
      have HA_6 := Lib.hid (HA_5.out.grow hgr6)
      have HB_6 := Lib.hid (HB_5.out.grow hgr6)
      have HC_6 := Lib.hid (HC_5.out.grow hgr6)
      have HD_6 := Lib.hid (HD_5.out.grow hgr6)
      have GCH6 := Lib.hid (GCH5.out.trans hgr6)
      clear hg6 hgr6 HP_5 HS_5 HO_5 HA_5 HB_5 HC_5 HD_5 GCH5
      rw [HEP.out]
      go_wp2_with fail
      refine rValidate_any p _ _ (by first | exact HP_6.out | exact HP_6.out.grow ((Grow.refl _).alloc _) | exact HP_6.out.grow (((Grow.refl _).alloc _).alloc _) | exact HP_6.out.grow ((((Grow.refl _).alloc _).alloc _).alloc _) | exact HP_6.out.grow (((((Grow.refl _).alloc _).alloc _).alloc _).alloc _) | exact HP_6.out.grow ((Grow.refl _).drewN _)) _ ?_
      intro wz7 hg7 
      have hgr7 : Grow wz6 wz7 := by first | exact hg7 | exact Grow.trans ((Grow.refl _).alloc _) hg7 | exact Grow.trans (((Grow.refl _).alloc _).alloc _) hg7 | exact Grow.trans ((((Grow.refl _).alloc _).alloc _).alloc _) hg7 | exact Grow.trans (((((Grow.refl _).alloc _).alloc _).alloc _).alloc _) hg7 | exact Grow.trans ((Grow.refl _).drewN _) hg7
      have HP_7 := Lib.hid (HP_6.out.grow hgr7)
      have HS_7 := Lib.hid (HS_6.out.grow hgr7)
      have HO_7 := Lib.hid (HO_6.out.grow hgr7)
      have HA_7 := Lib.hid (HA_6.out.grow hgr7)
      have HB_7 := Lib.hid (HB_6.out.grow hgr7)
      have HC_7 := Lib.hid (HC_6.out.grow hgr7)
      have HD_7 := Lib.hid (HD_6.out.grow hgr7)
      have GCH7 := Lib.hid (GCH6.out.trans hgr7)
      clear hg7 hgr7 HP_6 HS_6 HO_6 HA_6 HB_6 HC_6 HD_6 GCH6
      rw [HEP.out]
      go_wp2_with fail
      refine validateState_any s _ _ (by first | exact HS_7.out | exact HS_7.out.grow ((Grow.refl _).alloc _) | exact HS_7.out.grow (((Grow.refl _).alloc _).alloc _) | exact HS_7.out.grow ((((Grow.refl _).alloc _).alloc _).alloc _) | exact HS_7.out.grow (((((Grow.refl _).alloc _).alloc _).alloc _).alloc _) | exact HS_7.out.grow ((Grow.refl _).drewN _)) _ ?_
      intro wz8 hg8 
      have hgr8 : Grow wz7 wz8 := by first | exact hg8 | exact Grow.trans ((Grow.refl _).alloc _) hg8 | exact Grow.trans (((Grow.refl _).alloc _).alloc _) hg8 | exact Grow.trans ((((Grow.refl _).alloc _).alloc _).alloc _) hg8 | exact Grow.trans (((((Grow.refl _).alloc _).alloc _).alloc _).alloc _) hg8 | exact Grow.trans ((Grow.refl _).drewN _) hg8
      have HP_8 := Lib.hid (HP_7.out.grow hgr8)
      have HS_8 := Lib.hid (HS_7.out.grow hgr8)
      have HO_8 := Lib.hid (HO_7.out.grow hgr8)
      have HA_8 := Lib.hid (HA_7.out.grow hgr8)
      have HB_8 := Lib.hid (HB_7.out.grow hgr8)
      have HC_8 := Lib.hid (HC_7.out.grow hgr8)
      have HD_8 := Lib.hid (HD_7.out.grow hgr8)
      have GCH8 := Lib.hid (GCH7.out.trans hgr8)
      clear hg8 hgr8 HP_7 HS_7 HO_7 HA_7 HB_7 HC_7 HD_7 GCH7
      rw [HES.out]
      go_wp2_with fail
      refine rValidateState_any s _ _ (by first | exact HS_8.out | exact HS_8.out.grow ((Grow.refl _).alloc _) | exact HS_8.out.grow (((Grow.refl _).alloc _).alloc _) | exact HS_8.out.grow ((((Grow.refl _).alloc _).alloc _).alloc _) | exact HS_8.out.grow (((((Grow.refl _).alloc _).alloc _).alloc _).alloc _) | exact HS_8.out.grow ((Grow.refl _).drewN _)) _ ?_
      rw [HES.out]
      go_wp2_with fail
      refine sameInts_any m m _ _ _ (by first | exact HA_8.out | exact HA_8.out.grow ((Grow.refl _).alloc _) | exact HA_8.out.grow (((Grow.refl _).alloc _).alloc _) | exact HA_8.out.grow ((((Grow.refl _).alloc _).alloc _).alloc _) | exact HA_8.out.grow (((((Grow.refl _).alloc _).alloc _).alloc _).alloc _) | exact HA_8.out.grow ((Grow.refl _).drewN _)) (by first | exact HB_8.out | exact HB_8.out.grow ((Grow.refl _).alloc _) | exact HB_8.out.grow (((Grow.refl _).alloc _).alloc _) | exact HB_8.out.grow ((((Grow.refl _).alloc _).alloc _).alloc _) | exact HB_8.out.grow (((((Grow.refl _).alloc _).alloc _).alloc _).alloc _) | exact HB_8.out.grow ((Grow.refl _).drewN _)) _ ?_
      intro wz9 hg9 
      have hgr9 : Grow wz8 wz9 := by first | exact hg9 | exact Grow.trans ((Grow.refl _).alloc _) hg9 | exact Grow.trans (((Grow.refl _).alloc _).alloc _) hg9 | exact Grow.trans ((((Grow.refl _).alloc _).alloc _).alloc _) hg9 | exact Grow.trans (((((Grow.refl _).alloc _).alloc _).alloc _).alloc _) hg9 | exact Grow.trans ((Grow.refl _).drewN _) hg9
      have HP_9 := Lib.hid (HP_8.out.grow hgr9)
      have HS_9 := Lib.hid (HS_8.out.grow hgr9)
      have HO_9 := Lib.hid (HO_8.out.grow hgr9)
      have HA_9 := Lib.hid (HA_8.out.grow hgr9)
      have HB_9 := Lib.hid (HB_8.out.grow hgr9)
      have HC_9 := Lib.hid (HC_8.out.grow hgr9)
      have HD_9 := Lib.hid (HD_8.out.grow hgr9)
      have GCH9 := Lib.hid (GCH8.out.trans hgr9)
      clear hg9 hgr9 HP_8 HS_8 HO_8 HA_8 HB_8 HC_8 HD_8 GCH8
      rw [show decide (m = m) = true from decide_eq_true rfl]
      go_wp2_with fail
      refine sameInts_any d d _ _ _ (by first | exact HC_9.out | exact HC_9.out.grow ((Grow.refl _).alloc _) | exact HC_9.out.grow (((Grow.refl _).alloc _).alloc _) | exact HC_9.out.grow ((((Grow.refl _).alloc _).alloc _).alloc _) | exact HC_9.out.grow (((((Grow.refl _).alloc _).alloc _).alloc _).alloc _) | exact HC_9.out.grow ((Grow.refl _).drewN _)) (by first | exact HD_9.out | exact HD_9.out.grow ((Grow.refl _).alloc _) | exact HD_9.out.grow (((Grow.refl _).alloc _).alloc _) | exact HD_9.out.grow ((((Grow.refl _).alloc _).alloc _).alloc _) | exact HD_9.out.grow (((((Grow.refl _).alloc _).alloc _).alloc _).alloc _) | exact HD_9.out.grow ((Grow.refl _).drewN _)) _ ?_
      intro wz10 hg10 
      have hgr10 : Grow wz9 wz10 := by first | exact hg10 | exact Grow.trans ((Grow.refl _).alloc _) hg10 | exact Grow.trans (((Grow.refl _).alloc _).alloc _) hg10 | exact Grow.trans ((((Grow.refl _).alloc _).alloc _).alloc _) hg10 | exact Grow.trans (((((Grow.refl _).alloc _).alloc _).alloc _).alloc _) hg10 | exact Grow.trans ((Grow.refl _).drewN _) hg10
      have HP_10 := Lib.hid (HP_9.out.grow hgr10)
      have HS_10 := Lib.hid (HS_9.out.grow hgr10)
      have HO_10 := Lib.hid (HO_9.out.grow hgr10)
      have HA_10 := Lib.hid (HA_9.out.grow hgr10)
      have HB_10 := Lib.hid (HB_9.out.grow hgr10)
      have HC_10 := Lib.hid (HC_9.out.grow hgr10)
      have HD_10 := Lib.hid (HD_9.out.grow hgr10)
      have GCH10 := Lib.hid (GCH9.out.trans hgr10)
      clear hg10 hgr10 HP_9 HS_9 HO_9 HA_9 HB_9 HC_9 HD_9 GCH9
      rw [show decide (d = d) = true from decide_eq_true rfl]
      go_wp2_with fail
      refine sameInts_any s s _ _ _ (by first | exact HO_10.out | exact HO_10.out.grow ((Grow.refl _).alloc _) | exact HO_10.out.grow (((Grow.refl _).alloc _).alloc _) | exact HO_10.out.grow ((((Grow.refl _).alloc _).alloc _).alloc _) | exact HO_10.out.grow (((((Grow.refl _).alloc _).alloc _).alloc _).alloc _) | exact HO_10.out.grow ((Grow.refl _).drewN _)) (by first | exact HS_10.out | exact HS_10.out.grow ((Grow.refl _).alloc _) | exact HS_10.out.grow (((Grow.refl _).alloc _).alloc _) | exact HS_10.out.grow ((((Grow.refl _).alloc _).alloc _).alloc _) | exact HS_10.out.grow (((((Grow.refl _).alloc _).alloc _).alloc _).alloc _) | exact HS_10.out.grow ((Grow.refl _).drewN _)) _ ?_
      intro wz11 hg11 
      have hgr11 : Grow wz10 wz11 := by first | exact hg11 | exact Grow.trans ((Grow.refl _).alloc _) hg11 | exact Grow.trans (((Grow.refl _).alloc _).alloc _) hg11 | exact Grow.trans ((((Grow.refl _).alloc _).alloc _).alloc _) hg11 | exact Grow.trans (((((Grow.refl _).alloc _).alloc _).alloc _).alloc _) hg11 | exact Grow.trans ((Grow.refl _).drewN _) hg11
      have HP_11 := Lib.hid (HP_10.out.grow hgr11)
      have HS_11 := Lib.hid (HS_10.out.grow hgr11)
      have HO_11 := Lib.hid (HO_10.out.grow hgr11)
      have HA_11 := Lib.hid (HA_10.out.grow hgr11)
      have HB_11 := Lib.hid (HB_10.out.grow hgr11)
      have HC_11 := Lib.hid (HC_10.out.grow hgr11)
      have HD_11 := Lib.hid (HD_10.out.grow hgr11)
      have GCH11 := Lib.hid (GCH10.out.trans hgr11)
      clear hg11 hgr11 HP_10 HS_10 HO_10 HA_10 HB_10 HC_10 HD_10 GCH10
      rw [show decide (s = s) = true from decide_eq_true rfl]
      go_wp2_with fail
      refine known_any _ _ ?_
      intro wz12 hg12 
      have hgr12 : Grow wz11 wz12 := by first | exact hg12 | exact Grow.trans ((Grow.refl _).alloc _) hg12 | exact Grow.trans (((Grow.refl _).alloc _).alloc _) hg12 | exact Grow.trans ((((Grow.refl _).alloc _).alloc _).alloc _) hg12 | exact Grow.trans (((((Grow.refl _).alloc _).alloc _).alloc _).alloc _) hg12 | exact Grow.trans ((Grow.refl _).drewN _) hg12
      have HP_12 := Lib.hid (HP_11.out.grow hgr12)
      have HS_12 := Lib.hid (HS_11.out.grow hgr12)
      have HO_12 := Lib.hid (HO_11.out.grow hgr12)
      have HA_12 := Lib.hid (HA_11.out.grow hgr12)
      have HB_12 := Lib.hid (HB_11.out.grow hgr12)
      have HC_12 := Lib.hid (HC_11.out.grow hgr12)
      have HD_12 := Lib.hid (HD_11.out.grow hgr12)
      have GCH12 := Lib.hid (GCH11.out.trans hgr12)
      clear hg12 hgr12 HP_11 HS_11 HO_11 HA_11 HB_11 HC_11 HD_11 GCH11
      go_wp2_with fail
      first | exact HR.out _ (GCH12.out) | exact HR.out _ (Grow.trans GCH12.out ((Grow.refl _).alloc _)) | exact HR.out _ (Grow.trans GCH12.out (((Grow.refl _).alloc _).alloc _)) | exact HR.out _ (Grow.trans GCH12.out ((((Grow.refl _).alloc _).alloc _).alloc _)) | exact HR.out _ (Grow.trans GCH12.out (((((Grow.refl _).alloc _).alloc _).alloc _).alloc _)) | exact HR.out _ (Grow.trans GCH12.out ((Grow.refl _).drewN _))
set_option maxRecDepth 100000 in
set_option maxHeartbeats 4000000 in
theorem codeBefores_any (p : List Ln) (s : List Int) (line : Int) (w : World) (vp vs : Value) (hp : LinesAt w vp p) (hs : IntsAt w vs s) (R : Ending → World → Prop) (hR : ∀ w', Grow w w' → R (.returned (.bool true)) w') :
    Calls Try.prog 7 #[vp, vs, .int .i64 line] w R := by
  have HR := Lib.hid hR
  have HP_ := Lib.hid hp
  obtain ⟨adp, cpp, rfl, qp1, qp2, _⟩ := hp
  have HS_ := Lib.hid hs
  obtain ⟨ads, cps, rfl, qs1, qs2, _⟩ := hs
  clear hR
  by_cases gd0 : 100 < p.length
  · have hd0 : decide (100 < p.length) = true := decide_eq_true gd0
    have HD0 := Lib.hid hd0
    clear hd0 gd0
    go_enter Try.func7, Try.ntmps7
    go_wp2_with fail
    refine long_any p _ _ (by first | exact HP_.out | exact HP_.out.grow ((Grow.refl _).alloc _) | exact HP_.out.grow (((Grow.refl _).alloc _).alloc _) | exact HP_.out.grow ((((Grow.refl _).alloc _).alloc _).alloc _) | exact HP_.out.grow (((((Grow.refl _).alloc _).alloc _).alloc _).alloc _) | exact HP_.out.grow ((Grow.refl _).drewN _)) _ ?_
    rw [HD0.out]
    go_wp2_with fail
    refine known_any _ _ ?_
    intro wz1 hg1 
    have hgr1 : Grow w wz1 := by first | exact hg1 | exact Grow.trans ((Grow.refl _).alloc _) hg1 | exact Grow.trans (((Grow.refl _).alloc _).alloc _) hg1 | exact Grow.trans ((((Grow.refl _).alloc _).alloc _).alloc _) hg1 | exact Grow.trans (((((Grow.refl _).alloc _).alloc _).alloc _).alloc _) hg1 | exact Grow.trans ((Grow.refl _).drewN _) hg1
    have HP_1 := Lib.hid (HP_.out.grow hgr1)
    have HS_1 := Lib.hid (HS_.out.grow hgr1)
    have GCH1 := Lib.hid hgr1
    clear hg1 hgr1 HP_ HS_
    go_wp2_with fail
    first | exact HR.out _ (GCH1.out) | exact HR.out _ (Grow.trans GCH1.out ((Grow.refl _).alloc _)) | exact HR.out _ (Grow.trans GCH1.out (((Grow.refl _).alloc _).alloc _)) | exact HR.out _ (Grow.trans GCH1.out ((((Grow.refl _).alloc _).alloc _).alloc _)) | exact HR.out _ (Grow.trans GCH1.out (((((Grow.refl _).alloc _).alloc _).alloc _).alloc _)) | exact HR.out _ (Grow.trans GCH1.out ((Grow.refl _).drewN _))
  · have hd0 : decide (100 < p.length) = false := decide_eq_false gd0
    have HD0 := Lib.hid hd0
    clear hd0
    by_cases gd1 : 100 < s.length
    · have hd1 : decide (100 < s.length) = true := decide_eq_true gd1
      have HD1 := Lib.hid hd1
      clear hd1 gd1
      go_enter Try.func7, Try.ntmps7
      go_wp2_with fail
      refine long_any p _ _ (by first | exact HP_.out | exact HP_.out.grow ((Grow.refl _).alloc _) | exact HP_.out.grow (((Grow.refl _).alloc _).alloc _) | exact HP_.out.grow ((((Grow.refl _).alloc _).alloc _).alloc _) | exact HP_.out.grow (((((Grow.refl _).alloc _).alloc _).alloc _).alloc _) | exact HP_.out.grow ((Grow.refl _).drewN _)) _ ?_
      rw [HD0.out]
      go_wp2_with fail
      refine large_any s _ _ (by first | exact HS_.out | exact HS_.out.grow ((Grow.refl _).alloc _) | exact HS_.out.grow (((Grow.refl _).alloc _).alloc _) | exact HS_.out.grow ((((Grow.refl _).alloc _).alloc _).alloc _) | exact HS_.out.grow (((((Grow.refl _).alloc _).alloc _).alloc _).alloc _) | exact HS_.out.grow ((Grow.refl _).drewN _)) _ ?_
      rw [HD1.out]
      go_wp2_with fail
      refine known_any _ _ ?_
      intro wz1 hg1 
      have hgr1 : Grow w wz1 := by first | exact hg1 | exact Grow.trans ((Grow.refl _).alloc _) hg1 | exact Grow.trans (((Grow.refl _).alloc _).alloc _) hg1 | exact Grow.trans ((((Grow.refl _).alloc _).alloc _).alloc _) hg1 | exact Grow.trans (((((Grow.refl _).alloc _).alloc _).alloc _).alloc _) hg1 | exact Grow.trans ((Grow.refl _).drewN _) hg1
      have HP_1 := Lib.hid (HP_.out.grow hgr1)
      have HS_1 := Lib.hid (HS_.out.grow hgr1)
      have GCH1 := Lib.hid hgr1
      clear hg1 hgr1 HP_ HS_
      go_wp2_with fail
      first | exact HR.out _ (GCH1.out) | exact HR.out _ (Grow.trans GCH1.out ((Grow.refl _).alloc _)) | exact HR.out _ (Grow.trans GCH1.out (((Grow.refl _).alloc _).alloc _)) | exact HR.out _ (Grow.trans GCH1.out ((((Grow.refl _).alloc _).alloc _).alloc _)) | exact HR.out _ (Grow.trans GCH1.out (((((Grow.refl _).alloc _).alloc _).alloc _).alloc _)) | exact HR.out _ (Grow.trans GCH1.out ((Grow.refl _).drewN _))
    · have hd1 : decide (100 < s.length) = false := decide_eq_false gd1
      have HD1 := Lib.hid hd1
      clear hd1
      obtain ⟨e, he⟩ : ∃ z, befE p s line = z := ⟨_, rfl⟩
      have HE := Lib.hid he
      clear he
      obtain ⟨m, hm⟩ : ∃ z, optL (befO p s line) = z := ⟨_, rfl⟩
      have HM := Lib.hid hm
      clear hm
      obtain ⟨b, hb⟩ : ∃ z, (befO p s line).isSome = z := ⟨_, rfl⟩
      have HB := Lib.hid hb
      clear hb
      go_enter Try.func7, Try.ntmps7
      go_wp2_with fail
      refine long_any p _ _ (by first | exact HP_.out | exact HP_.out.grow ((Grow.refl _).alloc _) | exact HP_.out.grow (((Grow.refl _).alloc _).alloc _) | exact HP_.out.grow ((((Grow.refl _).alloc _).alloc _).alloc _) | exact HP_.out.grow (((((Grow.refl _).alloc _).alloc _).alloc _).alloc _) | exact HP_.out.grow ((Grow.refl _).drewN _)) _ ?_
      rw [HD0.out]
      go_wp2_with fail
      refine large_any s _ _ (by first | exact HS_.out | exact HS_.out.grow ((Grow.refl _).alloc _) | exact HS_.out.grow (((Grow.refl _).alloc _).alloc _) | exact HS_.out.grow ((((Grow.refl _).alloc _).alloc _).alloc _) | exact HS_.out.grow (((((Grow.refl _).alloc _).alloc _).alloc _).alloc _) | exact HS_.out.grow ((Grow.refl _).drewN _)) _ ?_
      rw [HD1.out]
      go_wp2_with fail
      refine Before_any p s line _ _ _ (by first | exact HP_.out | exact HP_.out.grow ((Grow.refl _).alloc _) | exact HP_.out.grow (((Grow.refl _).alloc _).alloc _) | exact HP_.out.grow ((((Grow.refl _).alloc _).alloc _).alloc _) | exact HP_.out.grow (((((Grow.refl _).alloc _).alloc _).alloc _).alloc _) | exact HP_.out.grow ((Grow.refl _).drewN _)) (by first | exact HS_.out | exact HS_.out.grow ((Grow.refl _).alloc _) | exact HS_.out.grow (((Grow.refl _).alloc _).alloc _) | exact HS_.out.grow ((((Grow.refl _).alloc _).alloc _).alloc _) | exact HS_.out.grow (((((Grow.refl _).alloc _).alloc _).alloc _).alloc _) | exact HS_.out.grow ((Grow.refl _).drewN _)) (by omega) _ ?_
      intro wz1 x1_0 hg1 hx1_0
      have hgr1 : Grow w wz1 := by first | exact hg1 | exact Grow.trans ((Grow.refl _).alloc _) hg1 | exact Grow.trans (((Grow.refl _).alloc _).alloc _) hg1 | exact Grow.trans ((((Grow.refl _).alloc _).alloc _).alloc _) hg1 | exact Grow.trans (((((Grow.refl _).alloc _).alloc _).alloc _).alloc _) hg1 | exact Grow.trans ((Grow.refl _).drewN _) hg1
      have HP_1 := Lib.hid (HP_.out.grow hgr1)
      have HS_1 := Lib.hid (HS_.out.grow hgr1)
      have GCH1 := Lib.hid hgr1
      clear hg1 hgr1 HP_ HS_
      rw [HM.out] at hx1_0
      have hyHA_1 := hx1_0.slc encI_len
      have HA_1 := Lib.hid hyHA_1
      obtain ⟨aHA_1, cHA_1, rfl, qHA_11, qHA_12, _⟩ := hyHA_1
      clear hx1_0
      rw [HE.out, HB.out]
      go_wp2_with fail
      refine rBefore_any p s line _ _ _ (by first | exact HP_1.out | exact HP_1.out.grow ((Grow.refl _).alloc _) | exact HP_1.out.grow (((Grow.refl _).alloc _).alloc _) | exact HP_1.out.grow ((((Grow.refl _).alloc _).alloc _).alloc _) | exact HP_1.out.grow (((((Grow.refl _).alloc _).alloc _).alloc _).alloc _) | exact HP_1.out.grow ((Grow.refl _).drewN _)) (by first | exact HS_1.out | exact HS_1.out.grow ((Grow.refl _).alloc _) | exact HS_1.out.grow (((Grow.refl _).alloc _).alloc _) | exact HS_1.out.grow ((((Grow.refl _).alloc _).alloc _).alloc _) | exact HS_1.out.grow (((((Grow.refl _).alloc _).alloc _).alloc _).alloc _) | exact HS_1.out.grow ((Grow.refl _).drewN _)) (by omega) _ ?_
      intro wz2 x2_0 hg2 hx2_0
      have hgr2 : Grow wz1 wz2 := by first | exact hg2 | exact Grow.trans ((Grow.refl _).alloc _) hg2 | exact Grow.trans (((Grow.refl _).alloc _).alloc _) hg2 | exact Grow.trans ((((Grow.refl _).alloc _).alloc _).alloc _) hg2 | exact Grow.trans (((((Grow.refl _).alloc _).alloc _).alloc _).alloc _) hg2 | exact Grow.trans ((Grow.refl _).drewN _) hg2
      have HP_2 := Lib.hid (HP_1.out.grow hgr2)
      have HS_2 := Lib.hid (HS_1.out.grow hgr2)
      have HA_2 := Lib.hid (HA_1.out.grow hgr2)
      have GCH2 := Lib.hid (GCH1.out.trans hgr2)
      clear hg2 hgr2 HP_1 HS_1 HA_1 GCH1
      rw [HM.out] at hx2_0
      have hyHC_2 := hx2_0
      have HC_2 := Lib.hid hyHC_2
      obtain ⟨aHC_2, cHC_2, rfl, qHC_21, qHC_22, _⟩ := hyHC_2
      clear hx2_0
      rw [HE.out, HB.out]
      go_wp2_with fail
      refine sameInts_any m m _ _ _ (by first | exact HA_2.out | exact HA_2.out.grow ((Grow.refl _).alloc _) | exact HA_2.out.grow (((Grow.refl _).alloc _).alloc _) | exact HA_2.out.grow ((((Grow.refl _).alloc _).alloc _).alloc _) | exact HA_2.out.grow (((((Grow.refl _).alloc _).alloc _).alloc _).alloc _) | exact HA_2.out.grow ((Grow.refl _).drewN _)) (by first | exact HC_2.out | exact HC_2.out.grow ((Grow.refl _).alloc _) | exact HC_2.out.grow (((Grow.refl _).alloc _).alloc _) | exact HC_2.out.grow ((((Grow.refl _).alloc _).alloc _).alloc _) | exact HC_2.out.grow (((((Grow.refl _).alloc _).alloc _).alloc _).alloc _) | exact HC_2.out.grow ((Grow.refl _).drewN _)) _ ?_
      intro wz3 hg3 
      have hgr3 : Grow wz2 wz3 := by first | exact hg3 | exact Grow.trans ((Grow.refl _).alloc _) hg3 | exact Grow.trans (((Grow.refl _).alloc _).alloc _) hg3 | exact Grow.trans ((((Grow.refl _).alloc _).alloc _).alloc _) hg3 | exact Grow.trans (((((Grow.refl _).alloc _).alloc _).alloc _).alloc _) hg3 | exact Grow.trans ((Grow.refl _).drewN _) hg3
      have HP_3 := Lib.hid (HP_2.out.grow hgr3)
      have HS_3 := Lib.hid (HS_2.out.grow hgr3)
      have HA_3 := Lib.hid (HA_2.out.grow hgr3)
      have HC_3 := Lib.hid (HC_2.out.grow hgr3)
      have GCH3 := Lib.hid (GCH2.out.trans hgr3)
      clear hg3 hgr3 HP_2 HS_2 HA_2 HC_2 GCH2
      rw [show decide (m = m) = true from decide_eq_true rfl]
      go_wp2_with fail
      refine known_any _ _ ?_
      intro wz4 hg4 
      have hgr4 : Grow wz3 wz4 := by first | exact hg4 | exact Grow.trans ((Grow.refl _).alloc _) hg4 | exact Grow.trans (((Grow.refl _).alloc _).alloc _) hg4 | exact Grow.trans ((((Grow.refl _).alloc _).alloc _).alloc _) hg4 | exact Grow.trans (((((Grow.refl _).alloc _).alloc _).alloc _).alloc _) hg4 | exact Grow.trans ((Grow.refl _).drewN _) hg4
      have HP_4 := Lib.hid (HP_3.out.grow hgr4)
      have HS_4 := Lib.hid (HS_3.out.grow hgr4)
      have HA_4 := Lib.hid (HA_3.out.grow hgr4)
      have HC_4 := Lib.hid (HC_3.out.grow hgr4)
      have GCH4 := Lib.hid (GCH3.out.trans hgr4)
      clear hg4 hgr4 HP_3 HS_3 HA_3 HC_3 GCH3
      go_wp2_with fail
      first | exact HR.out _ (GCH4.out) | exact HR.out _ (Grow.trans GCH4.out ((Grow.refl _).alloc _)) | exact HR.out _ (Grow.trans GCH4.out (((Grow.refl _).alloc _).alloc _)) | exact HR.out _ (Grow.trans GCH4.out ((((Grow.refl _).alloc _).alloc _).alloc _)) | exact HR.out _ (Grow.trans GCH4.out (((((Grow.refl _).alloc _).alloc _).alloc _).alloc _)) | exact HR.out _ (Grow.trans GCH4.out ((Grow.refl _).drewN _))
end Go.Proofs.Ytmaphlbmmemgcaa
