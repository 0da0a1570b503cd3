/- The walk of the statement CodeJoins. -/
import Derived.Test.YtmaphlbmmemgcaaLawA
import Derived.Test.YtmaphlbmmemgcaaJoin
import Derived.Test.YtmaphlbmmemgcaaSame
import Derived.Test.YtmaphlbmmemgcaaOpen
namespace Go.Proofs.Ytmaphlbmmemgcaa
open Go.RowKit

theorem join_facts {p q : List Ln} {s : List Int} (h1 : joinE p q = 0) (h2 : chk p s = 0) :
    joinM p q = p ++ q ∧ chk q (runM p s) = 0 ∧ chk (p ++ q) s = 0 := by
  have hM : joinM p q = p ++ q := by unfold joinM; rw [h1]; rfl
  obtain ⟨hp, hs⟩ := chk_ok.1 h2
  unfold joinE at h1
  rw [if_pos hp] at h1
  by_cases hq : valP q = 0
  · rw [if_pos hq] at h1
    by_cases hl : 8 < p.length + q.length
    · rw [if_pos hl] at h1; cases h1
    · exact ⟨hM, chk_ok.2 ⟨hq, valS_runM p s hs⟩, chk_ok.2 ⟨valP_join hp hq (by omega), hs⟩⟩
  · rw [if_neg hq] at h1; exact absurd h1 hq

set_option maxRecDepth 100000 in
set_option maxHeartbeats 4000000 in
theorem codeJoins_any (p : List Ln) (q : List Ln) (s : List Int) (w : World) (vp vq vs : Value) (hp : LinesAt w vp p) (hq : LinesAt w vq q) (hs : IntsAt w vs s) (R : Ending → World → Prop) (hR : ∀ w', Grow w w' → R (.returned (.bool true)) w') :
    Calls Try.prog 9 #[vp, vq, vs] w R := by
  have HR := Lib.hid hR
  have HP_ := Lib.hid hp
  obtain ⟨adp, cpp, rfl, qp1, qp2, _⟩ := hp
  have HQ_ := Lib.hid hq
  obtain ⟨adq, cpq, rfl, qq1, qq2, _⟩ := hq
  have HS_ := Lib.hid hs
  obtain ⟨ads, cps, rfl, qs1, qs2, _⟩ := hs
  clear hR
  by_cases gd0 : 100 < p.length
  · have hd0 : decide (100 < p.length) = true := decide_eq_true gd0
    have HD0 := Lib.hid hd0
    clear hd0 gd0
    go_enter Try.func9, Try.ntmps9
    go_wp2_with fail
    refine long_any p _ _ (by first | exact HP_.out | exact HP_.out.grow ((Grow.refl _).alloc _) | exact HP_.out.grow (((Grow.refl _).alloc _).alloc _) | exact HP_.out.grow ((((Grow.refl _).alloc _).alloc _).alloc _) | exact HP_.out.grow (((((Grow.refl _).alloc _).alloc _).alloc _).alloc _) | exact HP_.out.grow ((Grow.refl _).drewN _)) _ ?_
    rw [HD0.out]
    go_wp2_with fail
    refine known_any _ _ ?_
    intro wz1 hg1 
    have hgr1 : Grow w wz1 := by first | exact hg1 | exact Grow.trans ((Grow.refl _).alloc _) hg1 | exact Grow.trans (((Grow.refl _).alloc _).alloc _) hg1 | exact Grow.trans ((((Grow.refl _).alloc _).alloc _).alloc _) hg1 | exact Grow.trans (((((Grow.refl _).alloc _).alloc _).alloc _).alloc _) hg1 | exact Grow.trans ((Grow.refl _).drewN _) hg1
    have HP_1 := Lib.hid (HP_.out.grow hgr1)
    have HQ_1 := Lib.hid (HQ_.out.grow hgr1)
    have HS_1 := Lib.hid (HS_.out.grow hgr1)
    have GCH1 := Lib.hid hgr1
    clear hg1 hgr1 HP_ HQ_ HS_
    go_wp2_with fail
    first | exact HR.out _ (GCH1.out) | exact HR.out _ (Grow.trans GCH1.out ((Grow.refl _).alloc _)) | exact HR.out _ (Grow.trans GCH1.out (((Grow.refl _).alloc _).alloc _)) | exact HR.out _ (Grow.trans GCH1.out ((((Grow.refl _).alloc _).alloc _).alloc _)) | exact HR.out _ (Grow.trans GCH1.out (((((Grow.refl _).alloc _).alloc _).alloc _).alloc _)) | exact HR.out _ (Grow.trans GCH1.out ((Grow.refl _).drewN _))
  · have hd0 : decide (100 < p.length) = false := decide_eq_false gd0
    have HD0 := Lib.hid hd0
    clear hd0
    by_cases gd1 : 100 < q.length
    · have hd1 : decide (100 < q.length) = true := decide_eq_true gd1
      have HD1 := Lib.hid hd1
      clear hd1 gd1
      go_enter Try.func9, Try.ntmps9
      go_wp2_with fail
      refine long_any p _ _ (by first | exact HP_.out | exact HP_.out.grow ((Grow.refl _).alloc _) | exact HP_.out.grow (((Grow.refl _).alloc _).alloc _) | exact HP_.out.grow ((((Grow.refl _).alloc _).alloc _).alloc _) | exact HP_.out.grow (((((Grow.refl _).alloc _).alloc _).alloc _).alloc _) | exact HP_.out.grow ((Grow.refl _).drewN _)) _ ?_
      rw [HD0.out]
      go_wp2_with fail
      refine long_any q _ _ (by first | exact HQ_.out | exact HQ_.out.grow ((Grow.refl _).alloc _) | exact HQ_.out.grow (((Grow.refl _).alloc _).alloc _) | exact HQ_.out.grow ((((Grow.refl _).alloc _).alloc _).alloc _) | exact HQ_.out.grow (((((Grow.refl _).alloc _).alloc _).alloc _).alloc _) | exact HQ_.out.grow ((Grow.refl _).drewN _)) _ ?_
      rw [HD1.out]
      go_wp2_with fail
      refine known_any _ _ ?_
      intro wz1 hg1 
      have hgr1 : Grow w wz1 := by first | exact hg1 | exact Grow.trans ((Grow.refl _).alloc _) hg1 | exact Grow.trans (((Grow.refl _).alloc _).alloc _) hg1 | exact Grow.trans ((((Grow.refl _).alloc _).alloc _).alloc _) hg1 | exact Grow.trans (((((Grow.refl _).alloc _).alloc _).alloc _).alloc _) hg1 | exact Grow.trans ((Grow.refl _).drewN _) hg1
      have HP_1 := Lib.hid (HP_.out.grow hgr1)
      have HQ_1 := Lib.hid (HQ_.out.grow hgr1)
      have HS_1 := Lib.hid (HS_.out.grow hgr1)
      have GCH1 := Lib.hid hgr1
      clear hg1 hgr1 HP_ HQ_ HS_
      go_wp2_with fail
      first | exact HR.out _ (GCH1.out) | exact HR.out _ (Grow.trans GCH1.out ((Grow.refl _).alloc _)) | exact HR.out _ (Grow.trans GCH1.out (((Grow.refl _).alloc _).alloc _)) | exact HR.out _ (Grow.trans GCH1.out ((((Grow.refl _).alloc _).alloc _).alloc _)) | exact HR.out _ (Grow.trans GCH1.out (((((Grow.refl _).alloc _).alloc _).alloc _).alloc _)) | exact HR.out _ (Grow.trans GCH1.out ((Grow.refl _).drewN _))
    · have hd1 : decide (100 < q.length) = false := decide_eq_false gd1
      have HD1 := Lib.hid hd1
      clear hd1
      by_cases gd2 : 100 < s.length
      · have hd2 : decide (100 < s.length) = true := decide_eq_true gd2
        have HD2 := Lib.hid hd2
        clear hd2 gd2
        go_enter Try.func9, Try.ntmps9
        go_wp2_with fail
        refine long_any p _ _ (by first | exact HP_.out | exact HP_.out.grow ((Grow.refl _).alloc _) | exact HP_.out.grow (((Grow.refl _).alloc _).alloc _) | exact HP_.out.grow ((((Grow.refl _).alloc _).alloc _).alloc _) | exact HP_.out.grow (((((Grow.refl _).alloc _).alloc _).alloc _).alloc _) | exact HP_.out.grow ((Grow.refl _).drewN _)) _ ?_
        rw [HD0.out]
        go_wp2_with fail
        refine long_any q _ _ (by first | exact HQ_.out | exact HQ_.out.grow ((Grow.refl _).alloc _) | exact HQ_.out.grow (((Grow.refl _).alloc _).alloc _) | exact HQ_.out.grow ((((Grow.refl _).alloc _).alloc _).alloc _) | exact HQ_.out.grow (((((Grow.refl _).alloc _).alloc _).alloc _).alloc _) | exact HQ_.out.grow ((Grow.refl _).drewN _)) _ ?_
        rw [HD1.out]
        go_wp2_with fail
        refine large_any s _ _ (by first | exact HS_.out | exact HS_.out.grow ((Grow.refl _).alloc _) | exact HS_.out.grow (((Grow.refl _).alloc _).alloc _) | exact HS_.out.grow ((((Grow.refl _).alloc _).alloc _).alloc _) | exact HS_.out.grow (((((Grow.refl _).alloc _).alloc _).alloc _).alloc _) | exact HS_.out.grow ((Grow.refl _).drewN _)) _ ?_
        rw [HD2.out]
        go_wp2_with fail
        refine known_any _ _ ?_
        intro wz1 hg1 
        have hgr1 : Grow w wz1 := by first | exact hg1 | exact Grow.trans ((Grow.refl _).alloc _) hg1 | exact Grow.trans (((Grow.refl _).alloc _).alloc _) hg1 | exact Grow.trans ((((Grow.refl _).alloc _).alloc _).alloc _) hg1 | exact Grow.trans (((((Grow.refl _).alloc _).alloc _).alloc _).alloc _) hg1 | exact Grow.trans ((Grow.refl _).drewN _) hg1
        have HP_1 := Lib.hid (HP_.out.grow hgr1)
        have HQ_1 := Lib.hid (HQ_.out.grow hgr1)
        have HS_1 := Lib.hid (HS_.out.grow hgr1)
        have GCH1 := Lib.hid hgr1
        clear hg1 hgr1 HP_ HQ_ HS_
        go_wp2_with fail
        first | exact HR.out _ (GCH1.out) | exact HR.out _ (Grow.trans GCH1.out ((Grow.refl _).alloc _)) | exact HR.out _ (Grow.trans GCH1.out (((Grow.refl _).alloc _).alloc _)) | exact HR.out _ (Grow.trans GCH1.out ((((Grow.refl _).alloc _).alloc _).alloc _)) | exact HR.out _ (Grow.trans GCH1.out (((((Grow.refl _).alloc _).alloc _).alloc _).alloc _)) | exact HR.out _ (Grow.trans GCH1.out ((Grow.refl _).drewN _))
      · have hd2 : decide (100 < s.length) = false := decide_eq_false gd2
        have HD2 := Lib.hid hd2
        clear hd2
        by_cases h1 : joinE p q = 0
        rotate_left
        · have H1 := Lib.hid h1
          obtain ⟨e, he⟩ : ∃ e, joinE p q = e := ⟨_, rfl⟩
          have hn : e ≠ 0 := by rw [← he]; exact h1
          have t1 : (e == 0) = false := by simpa using hn
          have t2 : (e != 0) = true := by simpa using hn
          have HE := Lib.hid he
          clear he hn h1
          obtain ⟨ec, hec⟩ : ∃ z, chk p s = z := ⟨_, rfl⟩
          have HCK := Lib.hid hec
          clear hec
          obtain ⟨m, hm⟩ : ∃ z, joinM p q = z := ⟨_, rfl⟩
          have HM := Lib.hid hm
          clear hm
          obtain ⟨x, hx⟩ : ∃ z, ifOK (chk p s) (runM p s) = z := ⟨_, rfl⟩
          have HXR := Lib.hid hx
          clear hx
          go_enter Try.func9, Try.ntmps9
          go_wp2_with fail
          refine long_any p _ _ (by first | exact HP_.out | exact HP_.out.grow ((Grow.refl _).alloc _) | exact HP_.out.grow (((Grow.refl _).alloc _).alloc _) | exact HP_.out.grow ((((Grow.refl _).alloc _).alloc _).alloc _) | exact HP_.out.grow (((((Grow.refl _).alloc _).alloc _).alloc _).alloc _) | exact HP_.out.grow ((Grow.refl _).drewN _)) _ ?_
          rw [HD0.out]
          go_wp2_with fail
          refine long_any q _ _ (by first | exact HQ_.out | exact HQ_.out.grow ((Grow.refl _).alloc _) | exact HQ_.out.grow (((Grow.refl _).alloc _).alloc _) | exact HQ_.out.grow ((((Grow.refl _).alloc _).alloc _).alloc _) | exact HQ_.out.grow (((((Grow.refl _).alloc _).alloc _).alloc _).alloc _) | exact HQ_.out.grow ((Grow.refl _).drewN _)) _ ?_
          rw [HD1.out]
          go_wp2_with fail
          refine large_any s _ _ (by first | exact HS_.out | exact HS_.out.grow ((Grow.refl _).alloc _) | exact HS_.out.grow (((Grow.refl _).alloc _).alloc _) | exact HS_.out.grow ((((Grow.refl _).alloc _).alloc _).alloc _) | exact HS_.out.grow (((((Grow.refl _).alloc _).alloc _).alloc _).alloc _) | exact HS_.out.grow ((Grow.refl _).drewN _)) _ ?_
          rw [HD2.out]
          go_wp2_with fail
          refine Join_any p q _ _ _ (by first | exact HP_.out | exact HP_.out.grow ((Grow.refl _).alloc _) | exact HP_.out.grow (((Grow.refl _).alloc _).alloc _) | exact HP_.out.grow ((((Grow.refl _).alloc _).alloc _).alloc _) | exact HP_.out.grow (((((Grow.refl _).alloc _).alloc _).alloc _).alloc _) | exact HP_.out.grow ((Grow.refl _).drewN _)) (by first | exact HQ_.out | exact HQ_.out.grow ((Grow.refl _).alloc _) | exact HQ_.out.grow (((Grow.refl _).alloc _).alloc _) | exact HQ_.out.grow ((((Grow.refl _).alloc _).alloc _).alloc _) | exact HQ_.out.grow (((((Grow.refl _).alloc _).alloc _).alloc _).alloc _) | exact HQ_.out.grow ((Grow.refl _).drewN _)) _ ?_
          intro wz1 x1_0 hg1 hx1_0
          have hgr1 : Grow w wz1 := by first | exact hg1 | exact Grow.trans ((Grow.refl _).alloc _) hg1 | exact Grow.trans (((Grow.refl _).alloc _).alloc _) hg1 | exact Grow.trans ((((Grow.refl _).alloc _).alloc _).alloc _) hg1 | exact Grow.trans (((((Grow.refl _).alloc _).alloc _).alloc _).alloc _) hg1 | exact Grow.trans ((Grow.refl _).drewN _) hg1
          have HP_1 := Lib.hid (HP_.out.grow hgr1)
          have HQ_1 := Lib.hid (HQ_.out.grow hgr1)
          have HS_1 := Lib.hid (HS_.out.grow hgr1)
          have GCH1 := Lib.hid hgr1
          clear hg1 hgr1 HP_ HQ_ HS_
          rw [HM.out] at hx1_0
          have hyHA_1 := hx1_0
          have HA_1 := Lib.hid hyHA_1
          obtain ⟨aHA_1, cHA_1, rfl, qHA_11, qHA_12, _⟩ := hyHA_1
          clear hx1_0
          rw [HE.out]
          go_wp2_with fail
          refine rJoin_any p q _ _ _ (by first | exact HP_1.out | exact HP_1.out.grow ((Grow.refl _).alloc _) | exact HP_1.out.grow (((Grow.refl _).alloc _).alloc _) | exact HP_1.out.grow ((((Grow.refl _).alloc _).alloc _).alloc _) | exact HP_1.out.grow (((((Grow.refl _).alloc _).alloc _).alloc _).alloc _) | exact HP_1.out.grow ((Grow.refl _).drewN _)) (by first | exact HQ_1.out | exact HQ_1.out.grow ((Grow.refl _).alloc _) | exact HQ_1.out.grow (((Grow.refl _).alloc _).alloc _) | exact HQ_1.out.grow ((((Grow.refl _).alloc _).alloc _).alloc _) | exact HQ_1.out.grow (((((Grow.refl _).alloc _).alloc _).alloc _).alloc _) | exact HQ_1.out.grow ((Grow.refl _).drewN _)) _ ?_
          intro wz2 x2_0 hg2 hx2_0
          have hgr2 : Grow wz1 wz2 := by first | exact hg2 | exact Grow.trans ((Grow.refl _).alloc _) hg2 | exact Grow.trans (((Grow.refl _).alloc _).alloc _) hg2 | exact Grow.trans ((((Grow.refl _).alloc _).alloc _).alloc _) hg2 | exact Grow.trans (((((Grow.refl _).alloc _).alloc _).alloc _).alloc _) hg2 | exact Grow.trans ((Grow.refl _).drewN _) hg2
          have HP_2 := Lib.hid (HP_1.out.grow hgr2)
          have HQ_2 := Lib.hid (HQ_1.out.grow hgr2)
          have HS_2 := Lib.hid (HS_1.out.grow hgr2)
          have HA_2 := Lib.hid (HA_1.out.grow hgr2)
          have GCH2 := Lib.hid (GCH1.out.trans hgr2)
          clear hg2 hgr2 HP_1 HQ_1 HS_1 HA_1 GCH1
          rw [HM.out] at hx2_0
          have hyHB_2 := hx2_0
          have HB_2 := Lib.hid hyHB_2
          obtain ⟨aHB_2, cHB_2, rfl, qHB_21, qHB_22, _⟩ := hyHB_2
          clear hx2_0
          rw [HE.out]
          go_wp2_with fail
          refine rsame_any m m _ _ _ (by first | exact HA_2.out | exact HA_2.out.grow ((Grow.refl _).alloc _) | exact HA_2.out.grow (((Grow.refl _).alloc _).alloc _) | exact HA_2.out.grow ((((Grow.refl _).alloc _).alloc _).alloc _) | exact HA_2.out.grow (((((Grow.refl _).alloc _).alloc _).alloc _).alloc _) | exact HA_2.out.grow ((Grow.refl _).drewN _)) (by first | exact HB_2.out | exact HB_2.out.grow ((Grow.refl _).alloc _) | exact HB_2.out.grow (((Grow.refl _).alloc _).alloc _) | exact HB_2.out.grow ((((Grow.refl _).alloc _).alloc _).alloc _) | exact HB_2.out.grow (((((Grow.refl _).alloc _).alloc _).alloc _).alloc _) | exact HB_2.out.grow ((Grow.refl _).drewN _)) _ ?_
          intro wz3 hg3 
          have hgr3 : Grow wz2 wz3 := by first | exact hg3 | exact Grow.trans ((Grow.refl _).alloc _) hg3 | exact Grow.trans (((Grow.refl _).alloc _).alloc _) hg3 | exact Grow.trans ((((Grow.refl _).alloc _).alloc _).alloc _) hg3 | exact Grow.trans (((((Grow.refl _).alloc _).alloc _).alloc _).alloc _) hg3 | exact Grow.trans ((Grow.refl _).drewN _) hg3
          have HP_3 := Lib.hid (HP_2.out.grow hgr3)
          have HQ_3 := Lib.hid (HQ_2.out.grow hgr3)
          have HS_3 := Lib.hid (HS_2.out.grow hgr3)
          have HA_3 := Lib.hid (HA_2.out.grow hgr3)
          have HB_3 := Lib.hid (HB_2.out.grow hgr3)
          have GCH3 := Lib.hid (GCH2.out.trans hgr3)
          clear hg3 hgr3 HP_2 HQ_2 HS_2 HA_2 HB_2 GCH2
          rw [show decide (m = m) = true from decide_eq_true rfl]
          go_wp2_with fail
          refine Run_any p s _ _ _ (by first | exact HP_3.out | exact HP_3.out.grow ((Grow.refl _).alloc _) | exact HP_3.out.grow (((Grow.refl _).alloc _).alloc _) | exact HP_3.out.grow ((((Grow.refl _).alloc _).alloc _).alloc _) | exact HP_3.out.grow (((((Grow.refl _).alloc _).alloc _).alloc _).alloc _) | exact HP_3.out.grow ((Grow.refl _).drewN _)) (by first | exact HS_3.out | exact HS_3.out.grow ((Grow.refl _).alloc _) | exact HS_3.out.grow (((Grow.refl _).alloc _).alloc _) | exact HS_3.out.grow ((((Grow.refl _).alloc _).alloc _).alloc _) | exact HS_3.out.grow (((((Grow.refl _).alloc _).alloc _).alloc _).alloc _) | exact HS_3.out.grow ((Grow.refl _).drewN _)) _ ?_
          intro wz4 x4_0 hg4 hx4_0
          have hgr4 : Grow wz3 wz4 := by first | exact hg4 | exact Grow.trans ((Grow.refl _).alloc _) hg4 | exact Grow.trans (((Grow.refl _).alloc _).alloc _) hg4 | exact Grow.trans ((((Grow.refl _).alloc _).alloc _).alloc _) hg4 | exact Grow.trans (((((Grow.refl _).alloc _).alloc _).alloc _).alloc _) hg4 | exact Grow.trans ((Grow.refl _).drewN _) hg4
          have HP_4 := Lib.hid (HP_3.out.grow hgr4)
          have HQ_4 := Lib.hid (HQ_3.out.grow hgr4)
          have HS_4 := Lib.hid (HS_3.out.grow hgr4)
          have HA_4 := Lib.hid (HA_3.out.grow hgr4)
          have HB_4 := Lib.hid (HB_3.out.grow hgr4)
          have GCH4 := Lib.hid (GCH3.out.trans hgr4)
          clear hg4 hgr4 HP_3 HQ_3 HS_3 HA_3 HB_3 GCH3
          rw [HXR.out] at hx4_0
          have hyHX_4 := hx4_0.slc encI_len
          have HX_4 := Lib.hid hyHX_4
          obtain ⟨aHX_4, cHX_4, rfl, qHX_41, qHX_42, _⟩ := hyHX_4
          clear hx4_0
          rw [HCK.out]
          go_wp2_with fail
          refine known_any _ _ ?_
          intro wz5 hg5 
          have hgr5 : Grow wz4 wz5 := by first | exact hg5 | exact Grow.trans ((Grow.refl _).alloc _) hg5 | exact Grow.trans (((Grow.refl _).alloc _).alloc _) hg5 | exact Grow.trans ((((Grow.refl _).alloc _).alloc _).alloc _) hg5 | exact Grow.trans (((((Grow.refl _).alloc _).alloc _).alloc _).alloc _) hg5 | exact Grow.trans ((Grow.refl _).drewN _) hg5
          have HP_5 := Lib.hid (HP_4.out.grow hgr5)
          have HQ_5 := Lib.hid (HQ_4.out.grow hgr5)
          have HS_5 := Lib.hid (HS_4.out.grow hgr5)
          have HA_5 := Lib.hid (HA_4.out.grow hgr5)
          have HB_5 := Lib.hid (HB_4.out.grow hgr5)
          have HX_5 := Lib.hid (HX_4.out.grow hgr5)
          have GCH5 := Lib.hid (GCH4.out.trans hgr5)
          clear hg5 hgr5 HP_4 HQ_4 HS_4 HA_4 HB_4 HX_4 GCH4
          go_wp2_with fail
          first | exact HR.out _ (GCH5.out) | exact HR.out _ (Grow.trans GCH5.out ((Grow.refl _).alloc _)) | exact HR.out _ (Grow.trans GCH5.out (((Grow.refl _).alloc _).alloc _)) | exact HR.out _ (Grow.trans GCH5.out ((((Grow.refl _).alloc _).alloc _).alloc _)) | exact HR.out _ (Grow.trans GCH5.out (((((Grow.refl _).alloc _).alloc _).alloc _).alloc _)) | exact HR.out _ (Grow.trans GCH5.out ((Grow.refl _).drewN _))
        by_cases h2 : chk p s = 0
        rotate_left
        · have HE := Lib.hid h1
          obtain ⟨ec, he⟩ : ∃ e, chk p s = e := ⟨_, rfl⟩
          have hn : ec ≠ 0 := by rw [← he]; exact h2
          have t1 : (ec == 0) = false := by simpa using hn
          have t2 : (ec != 0) = true := by simpa using hn
          have HCK := Lib.hid he
          clear he hn h1 h2
          obtain ⟨m, hm⟩ : ∃ z, joinM p q = z := ⟨_, rfl⟩
          have HM := Lib.hid hm
          clear hm
          obtain ⟨x, hx⟩ : ∃ z, ifOK (chk p s) (runM p s) = z := ⟨_, rfl⟩
          have HXR := Lib.hid hx
          clear hx
          go_enter Try.func9, Try.ntmps9
          go_wp2_with fail
          refine long_any p _ _ (by first | exact HP_.out | exact HP_.out.grow ((Grow.refl _).alloc _) | exact HP_.out.grow (((Grow.refl _).alloc _).alloc _) | exact HP_.out.grow ((((Grow.refl _).alloc _).alloc _).alloc _) | exact HP_.out.grow (((((Grow.refl _).alloc _).alloc _).alloc _).alloc _) | exact HP_.out.grow ((Grow.refl _).drewN _)) _ ?_
          rw [HD0.out]
          go_wp2_with fail
          refine long_any q _ _ (by first | exact HQ_.out | exact HQ_.out.grow ((Grow.refl _).alloc _) | exact HQ_.out.grow (((Grow.refl _).alloc _).alloc _) | exact HQ_.out.grow ((((Grow.refl _).alloc _).alloc _).alloc _) | exact HQ_.out.grow (((((Grow.refl _).alloc _).alloc _).alloc _).alloc _) | exact HQ_.out.grow ((Grow.refl _).drewN _)) _ ?_
          rw [HD1.out]
          go_wp2_with fail
          refine large_any s _ _ (by first | exact HS_.out | exact HS_.out.grow ((Grow.refl _).alloc _) | exact HS_.out.grow (((Grow.refl _).alloc _).alloc _) | exact HS_.out.grow ((((Grow.refl _).alloc _).alloc _).alloc _) | exact HS_.out.grow (((((Grow.refl _).alloc _).alloc _).alloc _).alloc _) | exact HS_.out.grow ((Grow.refl _).drewN _)) _ ?_
          rw [HD2.out]
          go_wp2_with fail
          refine Join_any p q _ _ _ (by first | exact HP_.out | exact HP_.out.grow ((Grow.refl _).alloc _) | exact HP_.out.grow (((Grow.refl _).alloc _).alloc _) | exact HP_.out.grow ((((Grow.refl _).alloc _).alloc _).alloc _) | exact HP_.out.grow (((((Grow.refl _).alloc _).alloc _).alloc _).alloc _) | exact HP_.out.grow ((Grow.refl _).drewN _)) (by first | exact HQ_.out | exact HQ_.out.grow ((Grow.refl _).alloc _) | exact HQ_.out.grow (((Grow.refl _).alloc _).alloc _) | exact HQ_.out.grow ((((Grow.refl _).alloc _).alloc _).alloc _) | exact HQ_.out.grow (((((Grow.refl _).alloc _).alloc _).alloc _).alloc _) | exact HQ_.out.grow ((Grow.refl _).drewN _)) _ ?_
          intro wz1 x1_0 hg1 hx1_0
          have hgr1 : Grow w wz1 := by first | exact hg1 | exact Grow.trans ((Grow.refl _).alloc _) hg1 | exact Grow.trans (((Grow.refl _).alloc _).alloc _) hg1 | exact Grow.trans ((((Grow.refl _).alloc _).alloc _).alloc _) hg1 | exact Grow.trans (((((Grow.refl _).alloc _).alloc _).alloc _).alloc _) hg1 | exact Grow.trans ((Grow.refl _).drewN _) hg1
          have HP_1 := Lib.hid (HP_.out.grow hgr1)
          have HQ_1 := Lib.hid (HQ_.out.grow hgr1)
          have HS_1 := Lib.hid (HS_.out.grow hgr1)
          have GCH1 := Lib.hid hgr1
          clear hg1 hgr1 HP_ HQ_ HS_
          rw [HM.out] at hx1_0
          have hyHA_1 := hx1_0
          have HA_1 := Lib.hid hyHA_1
          obtain ⟨aHA_1, cHA_1, rfl, qHA_11, qHA_12, _⟩ := hyHA_1
          clear hx1_0
          rw [HE.out]
          go_wp2_with fail
          refine rJoin_any p q _ _ _ (by first | exact HP_1.out | exact HP_1.out.grow ((Grow.refl _).alloc _) | exact HP_1.out.grow (((Grow.refl _).alloc _).alloc _) | exact HP_1.out.grow ((((Grow.refl _).alloc _).alloc _).alloc _) | exact HP_1.out.grow (((((Grow.refl _).alloc _).alloc _).alloc _).alloc _) | exact HP_1.out.grow ((Grow.refl _).drewN _)) (by first | exact HQ_1.out | exact HQ_1.out.grow ((Grow.refl _).alloc _) | exact HQ_1.out.grow (((Grow.refl _).alloc _).alloc _) | exact HQ_1.out.grow ((((Grow.refl _).alloc _).alloc _).alloc _) | exact HQ_1.out.grow (((((Grow.refl _).alloc _).alloc _).alloc _).alloc _) | exact HQ_1.out.grow ((Grow.refl _).drewN _)) _ ?_
          intro wz2 x2_0 hg2 hx2_0
          have hgr2 : Grow wz1 wz2 := by first | exact hg2 | exact Grow.trans ((Grow.refl _).alloc _) hg2 | exact Grow.trans (((Grow.refl _).alloc _).alloc _) hg2 | exact Grow.trans ((((Grow.refl _).alloc _).alloc _).alloc _) hg2 | exact Grow.trans (((((Grow.refl _).alloc _).alloc _).alloc _).alloc _) hg2 | exact Grow.trans ((Grow.refl _).drewN _) hg2
          have HP_2 := Lib.hid (HP_1.out.grow hgr2)
          have HQ_2 := Lib.hid (HQ_1.out.grow hgr2)
          have HS_2 := Lib.hid (HS_1.out.grow hgr2)
          have HA_2 := Lib.hid (HA_1.out.grow hgr2)
          have GCH2 := Lib.hid (GCH1.out.trans hgr2)
          clear hg2 hgr2 HP_1 HQ_1 HS_1 HA_1 GCH1
          rw [HM.out] at hx2_0
          have hyHB_2 := hx2_0
          have HB_2 := Lib.hid hyHB_2
          obtain ⟨aHB_2, cHB_2, rfl, qHB_21, qHB_22, _⟩ := hyHB_2
          clear hx2_0
          rw [HE.out]
          go_wp2_with fail
          refine rsame_any m m _ _ _ (by first | exact HA_2.out | exact HA_2.out.grow ((Grow.refl _).alloc _) | exact HA_2.out.grow (((Grow.refl _).alloc _).alloc _) | exact HA_2.out.grow ((((Grow.refl _).alloc _).alloc _).alloc _) | exact HA_2.out.grow (((((Grow.refl _).alloc _).alloc _).alloc _).alloc _) | exact HA_2.out.grow ((Grow.refl _).drewN _)) (by first | exact HB_2.out | exact HB_2.out.grow ((Grow.refl _).alloc _) | exact HB_2.out.grow (((Grow.refl _).alloc _).alloc _) | exact HB_2.out.grow ((((Grow.refl _).alloc _).alloc _).alloc _) | exact HB_2.out.grow (((((Grow.refl _).alloc _).alloc _).alloc _).alloc _) | exact HB_2.out.grow ((Grow.refl _).drewN _)) _ ?_
          intro wz3 hg3 
          have hgr3 : Grow wz2 wz3 := by first | exact hg3 | exact Grow.trans ((Grow.refl _).alloc _) hg3 | exact Grow.trans (((Grow.refl _).alloc _).alloc _) hg3 | exact Grow.trans ((((Grow.refl _).alloc _).alloc _).alloc _) hg3 | exact Grow.trans (((((Grow.refl _).alloc _).alloc _).alloc _).alloc _) hg3 | exact Grow.trans ((Grow.refl _).drewN _) hg3
          have HP_3 := Lib.hid (HP_2.out.grow hgr3)
          have HQ_3 := Lib.hid (HQ_2.out.grow hgr3)
          have HS_3 := Lib.hid (HS_2.out.grow hgr3)
          have HA_3 := Lib.hid (HA_2.out.grow hgr3)
          have HB_3 := Lib.hid (HB_2.out.grow hgr3)
          have GCH3 := Lib.hid (GCH2.out.trans hgr3)
          clear hg3 hgr3 HP_2 HQ_2 HS_2 HA_2 HB_2 GCH2
          rw [show decide (m = m) = true from decide_eq_true rfl]
          go_wp2_with fail
          refine Run_any p s _ _ _ (by first | exact HP_3.out | exact HP_3.out.grow ((Grow.refl _).alloc _) | exact HP_3.out.grow (((Grow.refl _).alloc _).alloc _) | exact HP_3.out.grow ((((Grow.refl _).alloc _).alloc _).alloc _) | exact HP_3.out.grow (((((Grow.refl _).alloc _).alloc _).alloc _).alloc _) | exact HP_3.out.grow ((Grow.refl _).drewN _)) (by first | exact HS_3.out | exact HS_3.out.grow ((Grow.refl _).alloc _) | exact HS_3.out.grow (((Grow.refl _).alloc _).alloc _) | exact HS_3.out.grow ((((Grow.refl _).alloc _).alloc _).alloc _) | exact HS_3.out.grow (((((Grow.refl _).alloc _).alloc _).alloc _).alloc _) | exact HS_3.out.grow ((Grow.refl _).drewN _)) _ ?_
          intro wz4 x4_0 hg4 hx4_0
          have hgr4 : Grow wz3 wz4 := by first | exact hg4 | exact Grow.trans ((Grow.refl _).alloc _) hg4 | exact Grow.trans (((Grow.refl _).alloc _).alloc _) hg4 | exact Grow.trans ((((Grow.refl _).alloc _).alloc _).alloc _) hg4 | exact Grow.trans (((((Grow.refl _).alloc _).alloc _).alloc _).alloc _) hg4 | exact Grow.trans ((Grow.refl _).drewN _) hg4
          have HP_4 := Lib.hid (HP_3.out.grow hgr4)
          have HQ_4 := Lib.hid (HQ_3.out.grow hgr4)
          have HS_4 := Lib.hid (HS_3.out.grow hgr4)
          have HA_4 := Lib.hid (HA_3.out.grow hgr4)
          have HB_4 := Lib.hid (HB_3.out.grow hgr4)
          have GCH4 := Lib.hid (GCH3.out.trans hgr4)
          clear hg4 hgr4 HP_3 HQ_3 HS_3 HA_3 HB_3 GCH3
          rw [HXR.out] at hx4_0
          have hyHX_4 := hx4_0.slc encI_len
          have HX_4 := Lib.hid hyHX_4
          obtain ⟨aHX_4, cHX_4, rfl, qHX_41, qHX_42, _⟩ := hyHX_4
          clear hx4_0
          rw [HCK.out]
          go_wp2_with fail
          refine known_any _ _ ?_
          intro wz5 hg5 
          have hgr5 : Grow wz4 wz5 := by first | exact hg5 | exact Grow.trans ((Grow.refl _).alloc _) hg5 | exact Grow.trans (((Grow.refl _).alloc _).alloc _) hg5 | exact Grow.trans ((((Grow.refl _).alloc _).alloc _).alloc _) hg5 | exact Grow.trans (((((Grow.refl _).alloc _).alloc _).alloc _).alloc _) hg5 | exact Grow.trans ((Grow.refl _).drewN _) hg5
          have HP_5 := Lib.hid (HP_4.out.grow hgr5)
          have HQ_5 := Lib.hid (HQ_4.out.grow hgr5)
          have HS_5 := Lib.hid (HS_4.out.grow hgr5)
          have HA_5 := Lib.hid (HA_4.out.grow hgr5)
          have HB_5 := Lib.hid (HB_4.out.grow hgr5)
          have HX_5 := Lib.hid (HX_4.out.grow hgr5)
          have GCH5 := Lib.hid (GCH4.out.trans hgr5)
          clear hg5 hgr5 HP_4 HQ_4 HS_4 HA_4 HB_4 HX_4 GCH4
          go_wp2_with fail
          first | exact HR.out _ (GCH5.out) | exact HR.out _ (Grow.trans GCH5.out ((Grow.refl _).alloc _)) | exact HR.out _ (Grow.trans GCH5.out (((Grow.refl _).alloc _).alloc _)) | exact HR.out _ (Grow.trans GCH5.out ((((Grow.refl _).alloc _).alloc _).alloc _)) | exact HR.out _ (Grow.trans GCH5.out (((((Grow.refl _).alloc _).alloc _).alloc _).alloc _)) | exact HR.out _ (Grow.trans GCH5.out ((Grow.refl _).drewN _))
        have HE := Lib.hid h1
        have HCK := Lib.hid h2
        obtain ⟨f1, f2, f3⟩ := join_facts h1 h2
        have HF1 := Lib.hid f1
        have HF2 := Lib.hid f2
        have HF3 := Lib.hid f3
        clear h1 h2 f1 f2 f3
        obtain ⟨m, hm⟩ : ∃ z, joinM p q = z := ⟨_, rfl⟩
        have HM := Lib.hid hm
        clear hm
        obtain ⟨x, hx⟩ : ∃ z, ifOK (chk p s) (runM p s) = z := ⟨_, rfl⟩
        have HXR := Lib.hid hx
        clear hx
        go_enter Try.func9, Try.ntmps9
        go_wp2_with fail
        refine long_any p _ _ (by first | exact HP_.out | exact HP_.out.grow ((Grow.refl _).alloc _) | exact HP_.out.grow (((Grow.refl _).alloc _).alloc _) | exact HP_.out.grow ((((Grow.refl _).alloc _).alloc _).alloc _) | exact HP_.out.grow (((((Grow.refl _).alloc _).alloc _).alloc _).alloc _) | exact HP_.out.grow ((Grow.refl _).drewN _)) _ ?_
        rw [HD0.out]
        go_wp2_with fail
        refine long_any q _ _ (by first | exact HQ_.out | exact HQ_.out.grow ((Grow.refl _).alloc _) | exact HQ_.out.grow (((Grow.refl _).alloc _).alloc _) | exact HQ_.out.grow ((((Grow.refl _).alloc _).alloc _).alloc _) | exact HQ_.out.grow (((((Grow.refl _).alloc _).alloc _).alloc _).alloc _) | exact HQ_.out.grow ((Grow.refl _).drewN _)) _ ?_
        rw [HD1.out]
        go_wp2_with fail
        refine large_any s _ _ (by first | exact HS_.out | exact HS_.out.grow ((Grow.refl _).alloc _) | exact HS_.out.grow (((Grow.refl _).alloc _).alloc _) | exact HS_.out.grow ((((Grow.refl _).alloc _).alloc _).alloc _) | exact HS_.out.grow (((((Grow.refl _).alloc _).alloc _).alloc _).alloc _) | exact HS_.out.grow ((Grow.refl _).drewN _)) _ ?_
        rw [HD2.out]
        go_wp2_with fail
        refine Join_any p q _ _ _ (by first | exact HP_.out | exact HP_.out.grow ((Grow.refl _).alloc _) | exact HP_.out.grow (((Grow.refl _).alloc _).alloc _) | exact HP_.out.grow ((((Grow.refl _).alloc _).alloc _).alloc _) | exact HP_.out.grow (((((Grow.refl _).alloc _).alloc _).alloc _).alloc _) | exact HP_.out.grow ((Grow.refl _).drewN _)) (by first | exact HQ_.out | exact HQ_.out.grow ((Grow.refl _).alloc _) | exact HQ_.out.grow (((Grow.refl _).alloc _).alloc _) | exact HQ_.out.grow ((((Grow.refl _).alloc _).alloc _).alloc _) | exact HQ_.out.grow (((((Grow.refl _).alloc _).alloc _).alloc _).alloc _) | exact HQ_.out.grow ((Grow.refl _).drewN _)) _ ?_
        intro wz1 x1_0 hg1 hx1_0
        have hgr1 : Grow w wz1 := by first | exact hg1 | exact Grow.trans ((Grow.refl _).alloc _) hg1 | exact Grow.trans (((Grow.refl _).alloc _).alloc _) hg1 | exact Grow.trans ((((Grow.refl _).alloc _).alloc _).alloc _) hg1 | exact Grow.trans (((((Grow.refl _).alloc _).alloc _).alloc _).alloc _) hg1 | exact Grow.trans ((Grow.refl _).drewN _) hg1
        have HP_1 := Lib.hid (HP_.out.grow hgr1)
        have HQ_1 := Lib.hid (HQ_.out.grow hgr1)
        have HS_1 := Lib.hid (HS_.out.grow hgr1)
        have GCH1 := Lib.hid hgr1
        clear hg1 hgr1 HP_ HQ_ HS_
        rw [HM.out] at hx1_0
        have hyHA_1 := hx1_0
        have HA_1 := Lib.hid hyHA_1
        obtain ⟨aHA_1, cHA_1, rfl, qHA_11, qHA_12, _⟩ := hyHA_1
        clear hx1_0
        rw [HE.out]
        go_wp2_with fail
        refine rJoin_any p q _ _ _ (by first | exact HP_1.out | exact HP_1.out.grow ((Grow.refl _).alloc _) | exact HP_1.out.grow (((Grow.refl _).alloc _).alloc _) | exact HP_1.out.grow ((((Grow.refl _).alloc _).alloc _).alloc _) | exact HP_1.out.grow (((((Grow.refl _).alloc _).alloc _).alloc _).alloc _) | exact HP_1.out.grow ((Grow.refl _).drewN _)) (by first | exact HQ_1.out | exact HQ_1.out.grow ((Grow.refl _).alloc _) | exact HQ_1.out.grow (((Grow.refl _).alloc _).alloc _) | exact HQ_1.out.grow ((((Grow.refl _).alloc _).alloc _).alloc _) | exact HQ_1.out.grow (((((Grow.refl _).alloc _).alloc _).alloc _).alloc _) | exact HQ_1.out.grow ((Grow.refl _).drewN _)) _ ?_
        intro wz2 x2_0 hg2 hx2_0
        have hgr2 : Grow wz1 wz2 := by first | exact hg2 | exact Grow.trans ((Grow.refl _).alloc _) hg2 | exact Grow.trans (((Grow.refl _).alloc _).alloc _) hg2 | exact Grow.trans ((((Grow.refl _).alloc _).alloc _).alloc _) hg2 | exact Grow.trans (((((Grow.refl _).alloc _).alloc _).alloc _).alloc _) hg2 | exact Grow.trans ((Grow.refl _).drewN _) hg2
        have HP_2 := Lib.hid (HP_1.out.grow hgr2)
        have HQ_2 := Lib.hid (HQ_1.out.grow hgr2)
        have HS_2 := Lib.hid (HS_1.out.grow hgr2)
        have HA_2 := Lib.hid (HA_1.out.grow hgr2)
        have GCH2 := Lib.hid (GCH1.out.trans hgr2)
        clear hg2 hgr2 HP_1 HQ_1 HS_1 HA_1 GCH1
        rw [HM.out] at hx2_0
        have hyHB_2 := hx2_0
        have HB_2 := Lib.hid hyHB_2
        obtain ⟨aHB_2, cHB_2, rfl, qHB_21, qHB_22, _⟩ := hyHB_2
        clear hx2_0
        rw [HE.out]
        go_wp2_with fail
        refine rsame_any m m _ _ _ (by first | exact HA_2.out | exact HA_2.out.grow ((Grow.refl _).alloc _) | exact HA_2.out.grow (((Grow.refl _).alloc _).alloc _) | exact HA_2.out.grow ((((Grow.refl _).alloc _).alloc _).alloc _) | exact HA_2.out.grow (((((Grow.refl _).alloc _).alloc _).alloc _).alloc _) | exact HA_2.out.grow ((Grow.refl _).drewN _)) (by first | exact HB_2.out | exact HB_2.out.grow ((Grow.refl _).alloc _) | exact HB_2.out.grow (((Grow.refl _).alloc _).alloc _) | exact HB_2.out.grow ((((Grow.refl _).alloc _).alloc _).alloc _) | exact HB_2.out.grow (((((Grow.refl _).alloc _).alloc _).alloc _).alloc _) | exact HB_2.out.grow ((Grow.refl _).drewN _)) _ ?_
        intro wz3 hg3 
        have hgr3 : Grow wz2 wz3 := by first | exact hg3 | exact Grow.trans ((Grow.refl _).alloc _) hg3 | exact Grow.trans (((Grow.refl _).alloc _).alloc _) hg3 | exact Grow.trans ((((Grow.refl _).alloc _).alloc _).alloc _) hg3 | exact Grow.trans (((((Grow.refl _).alloc _).alloc _).alloc _).alloc _) hg3 | exact Grow.trans ((Grow.refl _).drewN _) hg3
        have HP_3 := Lib.hid (HP_2.out.grow hgr3)
        have HQ_3 := Lib.hid (HQ_2.out.grow hgr3)
        have HS_3 := Lib.hid (HS_2.out.grow hgr3)
        have HA_3 := Lib.hid (HA_2.out.grow hgr3)
        have HB_3 := Lib.hid (HB_2.out.grow hgr3)
        have GCH3 := Lib.hid (GCH2.out.trans hgr3)
        clear hg3 hgr3 HP_2 HQ_2 HS_2 HA_2 HB_2 GCH2
        rw [show decide (m = m) = true from decide_eq_true rfl]
        go_wp2_with fail
        refine Run_any p s _ _ _ (by first | exact HP_3.out | exact HP_3.out.grow ((Grow.refl _).alloc _) | exact HP_3.out.grow (((Grow.refl _).alloc _).alloc _) | exact HP_3.out.grow ((((Grow.refl _).alloc _).alloc _).alloc _) | exact HP_3.out.grow (((((Grow.refl _).alloc _).alloc _).alloc _).alloc _) | exact HP_3.out.grow ((Grow.refl _).drewN _)) (by first | exact HS_3.out | exact HS_3.out.grow ((Grow.refl _).alloc _) | exact HS_3.out.grow (((Grow.refl _).alloc _).alloc _) | exact HS_3.out.grow ((((Grow.refl _).alloc _).alloc _).alloc _) | exact HS_3.out.grow (((((Grow.refl _).alloc _).alloc _).alloc _).alloc _) | exact HS_3.out.grow ((Grow.refl _).drewN _)) _ ?_
        intro wz4 x4_0 hg4 hx4_0
        have hgr4 : Grow wz3 wz4 := by first | exact hg4 | exact Grow.trans ((Grow.refl _).alloc _) hg4 | exact Grow.trans (((Grow.refl _).alloc _).alloc _) hg4 | exact Grow.trans ((((Grow.refl _).alloc _).alloc _).alloc _) hg4 | exact Grow.trans (((((Grow.refl _).alloc _).alloc _).alloc _).alloc _) hg4 | exact Grow.trans ((Grow.refl _).drewN _) hg4
        have HP_4 := Lib.hid (HP_3.out.grow hgr4)
        have HQ_4 := Lib.hid (HQ_3.out.grow hgr4)
        have HS_4 := Lib.hid (HS_3.out.grow hgr4)
        have HA_4 := Lib.hid (HA_3.out.grow hgr4)
        have HB_4 := Lib.hid (HB_3.out.grow hgr4)
        have GCH4 := Lib.hid (GCH3.out.trans hgr4)
        clear hg4 hgr4 HP_3 HQ_3 HS_3 HA_3 HB_3 GCH3
        rw [HXR.out] at hx4_0
        have hyHX_4 := hx4_0.slc encI_len
        have HX_4 := Lib.hid hyHX_4
        obtain ⟨aHX_4, cHX_4, rfl, qHX_41, qHX_42, _⟩ := hyHX_4
        clear hx4_0
        rw [HCK.out]
        go_wp2_with fail
        go_loopw [13] (fun i wr => ∃ k : Nat, k ≤ p.length ∧ i = .int .i64 k ∧ wr = wz4 ∧ ∀ j l, j < k → p[j]? = some l → l.op = 7 → j + 1 + l.d.toNat ≤ p.length) (fun i _ => p.length - (intOf i).toNat)
        case atStart => exact ⟨0, Nat.zero_le _, rfl, rfl, fun j l hj => by omega⟩
        case round =>
          obtain ⟨k, hk, rfl, rfl, hno⟩ := hrel
          have HNO := Lib.hid hno
          clear hno
          by_cases hlt : k < p.length
          · obtain ⟨⟨op, d, a, b⟩, hl⟩ : ∃ l, p[k]? = some l := ⟨_, List.getElem?_eq_getElem hlt⟩
            have hok := (valP_ok.1 (chk_ok.1 HCK.out).1).2 _ (List.mem_of_getElem? hl)
            obtain ⟨pb, po, rfl, _, g0, g1, g2, g3⟩ := lines_at HP_4.out hl
            have HL := Lib.hid hl
            have hdd : op = 7 → 1 ≤ d ∧ d ≤ 8 := by
              intro h7
              have h : vL op d a b = true := hok
              rw [h7] at h
              simp [vL, inB_def] at h
              omega
            clear hl hok
            by_cases h7 : op = 7
            · obtain ⟨d1, d8⟩ := hdd h7
              clear hdd
              subst h7
              by_cases hbad : (p.length : Int) ≤ (k : Int) + d
              · have b1 : decide ((p.length : Int) ≤ (k : Int) + d) = true := decide_eq_true hbad
                go_wp2_with fail
                refine known_any _ _ ?_
                intro w9 hg9
                have HF := Lib.hid (HR.out _ (GCH4.out.trans hg9))
                clear hg9
                go_wp2_with fail
                exact HF.out
              · have b1 : decide ((p.length : Int) ≤ (k : Int) + d) = false := decide_eq_false hbad
                have HBAD := Lib.hid hbad
                go_wp2_with fail
                go_roundw
                case rel =>
                  refine ⟨k + 1, by omega, by go_num, trivial, fun j l hj hl h7 => ?_⟩
                  by_cases e : j = k
                  · subst e
                    rw [HL.out] at hl
                    cases hl
                    have := HBAD.out
                    dsimp only; omega
                  · exact HNO.out j l (by omega) hl h7
                case measure => simp [intOf]; omega
            · have t7 : (op == 7) = false := by simpa using h7
              have H7 := Lib.hid h7
              clear hdd
              go_wp2_with fail
              go_roundw
              case rel =>
                refine ⟨k + 1, by omega, by go_num, trivial, fun j l hj hl h7 => ?_⟩
                by_cases e : j = k
                · subst e
                  rw [HL.out] at hl
                  cases hl
                  exact absurd h7 H7.out
                · exact HNO.out j l (by omega) hl h7
              case measure => simp [intOf]; omega
          · have hj := runM_join p q s fun i l hl h7 => HNO.out i l (by have := (List.getElem?_eq_some_iff.1 hl).1; omega) hl h7
            have hx : x = runM p s := by rw [← HXR.out, HCK.out]; rfl
            have hm : m = p ++ q := by rw [← HM.out]; exact HF1.out
            obtain ⟨z, hz⟩ : ∃ z, runM (p ++ q) s = z := ⟨_, rfl⟩
            have h1 : chk q x = 0 := by rw [hx]; exact HF2.out
            have h2 : chk m s = 0 := by rw [hm]; exact HF3.out
            have h3 : ifOK (chk q x) (runM q x) = z := by rw [h1, ← hz, hj, hx]; rfl
            have h4 : ifOK (chk m s) (runM m s) = z := by rw [h2, ← hz, hm]; rfl
            have H1 := Lib.hid h1
            have H2 := Lib.hid h2
            have H3 := Lib.hid h3
            have H4 := Lib.hid h4
            clear h1 h2 h3 h4 hz hm hx hj
            go_wp2_with fail
            refine Run_any q x _ _ _ (by first | exact HQ_4.out | exact HQ_4.out.grow ((Grow.refl _).alloc _) | exact HQ_4.out.grow (((Grow.refl _).alloc _).alloc _) | exact HQ_4.out.grow ((((Grow.refl _).alloc _).alloc _).alloc _) | exact HQ_4.out.grow (((((Grow.refl _).alloc _).alloc _).alloc _).alloc _) | exact HQ_4.out.grow ((Grow.refl _).drewN _)) (by first | exact HX_4.out | exact HX_4.out.grow ((Grow.refl _).alloc _) | exact HX_4.out.grow (((Grow.refl _).alloc _).alloc _) | exact HX_4.out.grow ((((Grow.refl _).alloc _).alloc _).alloc _) | exact HX_4.out.grow (((((Grow.refl _).alloc _).alloc _).alloc _).alloc _) | exact HX_4.out.grow ((Grow.refl _).drewN _)) _ ?_
            intro wz5 x5_0 hg5 hx5_0
            have hgr5 : Grow wr wz5 := by first | exact hg5 | exact Grow.trans ((Grow.refl _).alloc _) hg5 | exact Grow.trans (((Grow.refl _).alloc _).alloc _) hg5 | exact Grow.trans ((((Grow.refl _).alloc _).alloc _).alloc _) hg5 | exact Grow.trans (((((Grow.refl _).alloc _).alloc _).alloc _).alloc _) hg5 | exact Grow.trans ((Grow.refl _).drewN _) hg5
            have HP_5 := Lib.hid (HP_4.out.grow hgr5)
            have HQ_5 := Lib.hid (HQ_4.out.grow hgr5)
            have HS_5 := Lib.hid (HS_4.out.grow hgr5)
            have HA_5 := Lib.hid (HA_4.out.grow hgr5)
            have HB_5 := Lib.hid (HB_4.out.grow hgr5)
            have HX_5 := Lib.hid (HX_4.out.grow hgr5)
            have GCH5 := Lib.hid (GCH4.out.trans hgr5)
            clear hg5 hgr5 HP_4 HQ_4 HS_4 HA_4 HB_4 HX_4 GCH4
            rw [H3.out] at hx5_0
            have hyHY_5 := hx5_0.slc encI_len
            have HY_5 := Lib.hid hyHY_5
            obtain ⟨aHY_5, cHY_5, rfl, qHY_51, qHY_52, _⟩ := hyHY_5
            clear hx5_0
            rw [H1.out]
            go_wp2_with fail
            refine Run_any m s _ _ _ (by first | exact HA_5.out | exact HA_5.out.grow ((Grow.refl _).alloc _) | exact HA_5.out.grow (((Grow.refl _).alloc _).alloc _) | exact HA_5.out.grow ((((Grow.refl _).alloc _).alloc _).alloc _) | exact HA_5.out.grow (((((Grow.refl _).alloc _).alloc _).alloc _).alloc _) | exact HA_5.out.grow ((Grow.refl _).drewN _)) (by first | exact HS_5.out | exact HS_5.out.grow ((Grow.refl _).alloc _) | exact HS_5.out.grow (((Grow.refl _).alloc _).alloc _) | exact HS_5.out.grow ((((Grow.refl _).alloc _).alloc _).alloc _) | exact HS_5.out.grow (((((Grow.refl _).alloc _).alloc _).alloc _).alloc _) | exact HS_5.out.grow ((Grow.refl _).drewN _)) _ ?_
            intro wz6 x6_0 hg6 hx6_0
            have hgr6 : Grow wz5 wz6 := by first | exact hg6 | exact Grow.trans ((Grow.refl _).alloc _) hg6 | exact Grow.trans (((Grow.refl _).alloc _).alloc _) hg6 | exact Grow.trans ((((Grow.refl _).alloc _).alloc _).alloc _) hg6 | exact Grow.trans (((((Grow.refl _).alloc _).alloc _).alloc _).alloc _) hg6 | exact Grow.trans ((Grow.refl _).drewN _) hg6
            have HP_6 := Lib.hid (HP_5.out.grow hgr6)
            have HQ_6 := Lib.hid (HQ_5.out.grow hgr6)
            have HS_6 := Lib.hid (HS_5.out.grow hgr6)
            have HA_6 := Lib.hid (HA_5.out.grow hgr6)
            have HB_6 := Lib.hid (HB_5.out.grow hgr6)
            have HX_6 := Lib.hid (HX_5.out.grow hgr6)
            have HY_6 := Lib.hid (HY_5.out.grow hgr6)
            have GCH6 := Lib.hid (GCH5.out.trans hgr6)
            clear hg6 hgr6 HP_5 HQ_5 HS_5 HA_5 HB_5 HX_5 HY_5 GCH5
            rw [H4.out] at hx6_0
            have hyHZ_6 := hx6_0.slc encI_len
            have HZ_6 := Lib.hid hyHZ_6
            obtain ⟨aHZ_6, cHZ_6, rfl, qHZ_61, qHZ_62, _⟩ := hyHZ_6
            clear hx6_0
            rw [H2.out]
            go_wp2_with fail
            refine sameInts_any z z _ _ _ (by first | exact HY_6.out | exact HY_6.out.grow ((Grow.refl _).alloc _) | exact HY_6.out.grow (((Grow.refl _).alloc _).alloc _) | exact HY_6.out.grow ((((Grow.refl _).alloc _).alloc _).alloc _) | exact HY_6.out.grow (((((Grow.refl _).alloc _).alloc _).alloc _).alloc _) | exact HY_6.out.grow ((Grow.refl _).drewN _)) (by first | exact HZ_6.out | exact HZ_6.out.grow ((Grow.refl _).alloc _) | exact HZ_6.out.grow (((Grow.refl _).alloc _).alloc _) | exact HZ_6.out.grow ((((Grow.refl _).alloc _).alloc _).alloc _) | exact HZ_6.out.grow (((((Grow.refl _).alloc _).alloc _).alloc _).alloc _) | exact HZ_6.out.grow ((Grow.refl _).drewN _)) _ ?_
            intro wz7 hg7 
            have hgr7 : Grow wz6 wz7 := by first | exact hg7 | exact Grow.trans ((Grow.refl _).alloc _) hg7 | exact Grow.trans (((Grow.refl _).alloc _).alloc _) hg7 | exact Grow.trans ((((Grow.refl _).alloc _).alloc _).alloc _) hg7 | exact Grow.trans (((((Grow.refl _).alloc _).alloc _).alloc _).alloc _) hg7 | exact Grow.trans ((Grow.refl _).drewN _) hg7
            have HP_7 := Lib.hid (HP_6.out.grow hgr7)
            have HQ_7 := Lib.hid (HQ_6.out.grow hgr7)
            have HS_7 := Lib.hid (HS_6.out.grow hgr7)
            have HA_7 := Lib.hid (HA_6.out.grow hgr7)
            have HB_7 := Lib.hid (HB_6.out.grow hgr7)
            have HX_7 := Lib.hid (HX_6.out.grow hgr7)
            have HY_7 := Lib.hid (HY_6.out.grow hgr7)
            have HZ_7 := Lib.hid (HZ_6.out.grow hgr7)
            have GCH7 := Lib.hid (GCH6.out.trans hgr7)
            clear hg7 hgr7 HP_6 HQ_6 HS_6 HA_6 HB_6 HX_6 HY_6 HZ_6 GCH6
            rw [show decide (z = z) = true from decide_eq_true rfl]
            go_wp2_with fail
            refine known_any _ _ ?_
            intro wz8 hg8 
            have hgr8 : Grow wz7 wz8 := by first | exact hg8 | exact Grow.trans ((Grow.refl _).alloc _) hg8 | exact Grow.trans (((Grow.refl _).alloc _).alloc _) hg8 | exact Grow.trans ((((Grow.refl _).alloc _).alloc _).alloc _) hg8 | exact Grow.trans (((((Grow.refl _).alloc _).alloc _).alloc _).alloc _) hg8 | exact Grow.trans ((Grow.refl _).drewN _) hg8
            have HP_8 := Lib.hid (HP_7.out.grow hgr8)
            have HQ_8 := Lib.hid (HQ_7.out.grow hgr8)
            have HS_8 := Lib.hid (HS_7.out.grow hgr8)
            have HA_8 := Lib.hid (HA_7.out.grow hgr8)
            have HB_8 := Lib.hid (HB_7.out.grow hgr8)
            have HX_8 := Lib.hid (HX_7.out.grow hgr8)
            have HY_8 := Lib.hid (HY_7.out.grow hgr8)
            have HZ_8 := Lib.hid (HZ_7.out.grow hgr8)
            have GCH8 := Lib.hid (GCH7.out.trans hgr8)
            clear hg8 hgr8 HP_7 HQ_7 HS_7 HA_7 HB_7 HX_7 HY_7 HZ_7 GCH7
            go_wp2_with fail
            first | exact HR.out _ (GCH8.out) | exact HR.out _ (Grow.trans GCH8.out ((Grow.refl _).alloc _)) | exact HR.out _ (Grow.trans GCH8.out (((Grow.refl _).alloc _).alloc _)) | exact HR.out _ (Grow.trans GCH8.out ((((Grow.refl _).alloc _).alloc _).alloc _)) | exact HR.out _ (Grow.trans GCH8.out (((((Grow.refl _).alloc _).alloc _).alloc _).alloc _)) | exact HR.out _ (Grow.trans GCH8.out ((Grow.refl _).drewN _))
end Go.Proofs.Ytmaphlbmmemgcaa
