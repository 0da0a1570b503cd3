/- The walk of the statement CodeExchanges. -/
import Derived.Test.YtmaphlbmmemgcaaLawA
import Derived.Test.YtmaphlbmmemgcaaExB
import Derived.Test.YtmaphlbmmemgcaaSame
import Derived.Test.YtmaphlbmmemgcaaOpen
namespace Go.Proofs.Ytmaphlbmmemgcaa
open Go.RowKit

theorem xch_run {p : List Ln} {at_ : Int} (h : xchE p at_ = 0) (s : List Int) : chk (xchM p at_) s = chk p s ∧ runM (xchM p at_) s = runM p s := by
  obtain ⟨hv, m, rfl, hm, hj, hi⟩ := xchE_ok h
  obtain ⟨l, hl⟩ : ∃ l, p[m]? = some l := ⟨_, List.getElem?_eq_getElem (by omega)⟩
  obtain ⟨l', hl'⟩ : ∃ l, p[m + 1]? = some l := ⟨_, List.getElem?_eq_getElem hm⟩
  have hM : xchM p m = exch p m := by unfold xchM; rw [h, Int.toNat_natCast]; rfl
  rw [List.getD_eq_getElem?_getD, List.getD_eq_getElem?_getD, hl, hl'] at hi
  rw [hM]
  constructor
  · unfold chk; rw [valP_exch hl hl' hv, hv]
  · refine runM_exch hl hl' ((valP_ok.1 hv).2 _ (List.mem_of_getElem? hl)) ((valP_ok.1 hv).2 _ (List.mem_of_getElem? hl')) hi ?_ s
    intro i x hx hlt h7 he
    have hok := (valP_ok.1 hv).2 _ (List.mem_of_getElem? hx)
    have : jmpAt p m i = true := by
      unfold jmpAt
      rw [List.getD_eq_getElem?_getD, hx]
      obtain ⟨op, d, a, b⟩ := x
      have hd : 1 ≤ d := by
        have h : vL op d a b = true := hok
        rw [show op = 7 from h7] at h
        simp [vL, inB_def] at h; omega
      simp at h7 he ⊢
      exact ⟨h7, by omega⟩
    rw [jmp_at hlt this] at hj; cases hj

set_option maxRecDepth 100000 in
set_option maxHeartbeats 4000000 in
theorem codeExchanges_any (p : List Ln) (at_ : Int) (s : List Int) (w : World) (vp vs : Value) (hp : LinesAt w vp p) (hs : IntsAt w vs s) (R : Ending → World → Prop) (hR : ∀ w', Grow w w' → R (.returned (.bool true)) w') :
    Calls Try.prog 11 #[vp, .int .i64 at_, vs] w R := by
  have HR := Lib.hid hR
  have HP_ := Lib.hid hp
  obtain ⟨adp, cpp, rfl, qp1, qp2, _⟩ := hp
  have HS_ := Lib.hid hs
  obtain ⟨ads, cps, rfl, qs1, qs2, _⟩ := hs
  clear hR
  by_cases gd0 : 100 < p.length
  · have hd0 : decide (100 < p.length) = true := decide_eq_true gd0
    have HD0 := Lib.hid hd0
    clear hd0 gd0
    go_enter Try.func11, Try.ntmps11
    go_wp2_with fail
    refine long_any p _ _ (by first | exact HP_.out | exact HP_.out.grow ((Grow.refl _).alloc _) | exact HP_.out.grow (((Grow.refl _).alloc _).alloc _) | exact HP_.out.grow ((((Grow.refl _).alloc _).alloc _).alloc _) | exact HP_.out.grow (((((Grow.refl _).alloc _).alloc _).alloc _).alloc _) | exact HP_.out.grow ((Grow.refl _).drewN _)) _ ?_
    rw [HD0.out]
    go_wp2_with fail
    refine known_any _ _ ?_
    intro wz1 hg1 
    have hgr1 : Grow w wz1 := by first | exact hg1 | exact Grow.trans ((Grow.refl _).alloc _) hg1 | exact Grow.trans (((Grow.refl _).alloc _).alloc _) hg1 | exact Grow.trans ((((Grow.refl _).alloc _).alloc _).alloc _) hg1 | exact Grow.trans (((((Grow.refl _).alloc _).alloc _).alloc _).alloc _) hg1 | exact Grow.trans ((Grow.refl _).drewN _) hg1
    have HP_1 := Lib.hid (HP_.out.grow hgr1)
    have HS_1 := Lib.hid (HS_.out.grow hgr1)
    have GCH1 := Lib.hid hgr1
    clear hg1 hgr1 HP_ HS_
    go_wp2_with fail
    first | exact HR.out _ (GCH1.out) | exact HR.out _ (Grow.trans GCH1.out ((Grow.refl _).alloc _)) | exact HR.out _ (Grow.trans GCH1.out (((Grow.refl _).alloc _).alloc _)) | exact HR.out _ (Grow.trans GCH1.out ((((Grow.refl _).alloc _).alloc _).alloc _)) | exact HR.out _ (Grow.trans GCH1.out (((((Grow.refl _).alloc _).alloc _).alloc _).alloc _)) | exact HR.out _ (Grow.trans GCH1.out ((Grow.refl _).drewN _))
  · have hd0 : decide (100 < p.length) = false := decide_eq_false gd0
    have HD0 := Lib.hid hd0
    clear hd0
    by_cases gd1 : 100 < s.length
    · have hd1 : decide (100 < s.length) = true := decide_eq_true gd1
      have HD1 := Lib.hid hd1
      clear hd1 gd1
      go_enter Try.func11, Try.ntmps11
      go_wp2_with fail
      refine long_any p _ _ (by first | exact HP_.out | exact HP_.out.grow ((Grow.refl _).alloc _) | exact HP_.out.grow (((Grow.refl _).alloc _).alloc _) | exact HP_.out.grow ((((Grow.refl _).alloc _).alloc _).alloc _) | exact HP_.out.grow (((((Grow.refl _).alloc _).alloc _).alloc _).alloc _) | exact HP_.out.grow ((Grow.refl _).drewN _)) _ ?_
      rw [HD0.out]
      go_wp2_with fail
      refine large_any s _ _ (by first | exact HS_.out | exact HS_.out.grow ((Grow.refl _).alloc _) | exact HS_.out.grow (((Grow.refl _).alloc _).alloc _) | exact HS_.out.grow ((((Grow.refl _).alloc _).alloc _).alloc _) | exact HS_.out.grow (((((Grow.refl _).alloc _).alloc _).alloc _).alloc _) | exact HS_.out.grow ((Grow.refl _).drewN _)) _ ?_
      rw [HD1.out]
      go_wp2_with fail
      refine known_any _ _ ?_
      intro wz1 hg1 
      have hgr1 : Grow w wz1 := by first | exact hg1 | exact Grow.trans ((Grow.refl _).alloc _) hg1 | exact Grow.trans (((Grow.refl _).alloc _).alloc _) hg1 | exact Grow.trans ((((Grow.refl _).alloc _).alloc _).alloc _) hg1 | exact Grow.trans (((((Grow.refl _).alloc _).alloc _).alloc _).alloc _) hg1 | exact Grow.trans ((Grow.refl _).drewN _) hg1
      have HP_1 := Lib.hid (HP_.out.grow hgr1)
      have HS_1 := Lib.hid (HS_.out.grow hgr1)
      have GCH1 := Lib.hid hgr1
      clear hg1 hgr1 HP_ HS_
      go_wp2_with fail
      first | exact HR.out _ (GCH1.out) | exact HR.out _ (Grow.trans GCH1.out ((Grow.refl _).alloc _)) | exact HR.out _ (Grow.trans GCH1.out (((Grow.refl _).alloc _).alloc _)) | exact HR.out _ (Grow.trans GCH1.out ((((Grow.refl _).alloc _).alloc _).alloc _)) | exact HR.out _ (Grow.trans GCH1.out (((((Grow.refl _).alloc _).alloc _).alloc _).alloc _)) | exact HR.out _ (Grow.trans GCH1.out ((Grow.refl _).drewN _))
    · have hd1 : decide (100 < s.length) = false := decide_eq_false gd1
      have HD1 := Lib.hid hd1
      clear hd1
      by_cases hx0 : xchE p at_ = 0
      · have HX0 := Lib.hid hx0
        obtain ⟨hr1, hr2⟩ := xch_run hx0 s
        have HR1 := Lib.hid hr1
        have hr3 : ifOK (chk p s) (runM (xchM p at_) s) = ifOK (chk p s) (runM p s) := by rw [hr2]
        have HR3 := Lib.hid hr3
        clear hr1 hr2 hr3
        clear hx0
        obtain ⟨cb, hcb⟩ : ∃ z, canB p at_ = z := ⟨_, rfl⟩
        have HCB := Lib.hid hcb
        clear hcb
        obtain ⟨ce, hce⟩ : ∃ z, canE p at_ = z := ⟨_, rfl⟩
        have HCE := Lib.hid hce
        clear hce
        have HXE := HX0
        obtain ⟨m, hm⟩ : ∃ z, xchM p at_ = z := ⟨_, rfl⟩
        have HM := Lib.hid hm
        clear hm
        obtain ⟨e, he⟩ : ∃ z, chk p s = z := ⟨_, rfl⟩
        have HE := Lib.hid he
        clear he
        obtain ⟨r, hr⟩ : ∃ z, ifOK (chk p s) (runM p s) = z := ⟨_, rfl⟩
        have HRN := Lib.hid hr
        clear hr
        go_enter Try.func11, Try.ntmps11
        go_wp2_with fail
        refine long_any p _ _ (by first | exact HP_.out | exact HP_.out.grow ((Grow.refl _).alloc _) | exact HP_.out.grow (((Grow.refl _).alloc _).alloc _) | exact HP_.out.grow ((((Grow.refl _).alloc _).alloc _).alloc _) | exact HP_.out.grow (((((Grow.refl _).alloc _).alloc _).alloc _).alloc _) | exact HP_.out.grow ((Grow.refl _).drewN _)) _ ?_
        rw [HD0.out]
        go_wp2_with fail
        refine large_any s _ _ (by first | exact HS_.out | exact HS_.out.grow ((Grow.refl _).alloc _) | exact HS_.out.grow (((Grow.refl _).alloc _).alloc _) | exact HS_.out.grow ((((Grow.refl _).alloc _).alloc _).alloc _) | exact HS_.out.grow (((((Grow.refl _).alloc _).alloc _).alloc _).alloc _) | exact HS_.out.grow ((Grow.refl _).drewN _)) _ ?_
        rw [HD1.out]
        go_wp2_with fail
        refine Can_any p at_ _ _ (by first | exact HP_.out | exact HP_.out.grow ((Grow.refl _).alloc _) | exact HP_.out.grow (((Grow.refl _).alloc _).alloc _) | exact HP_.out.grow ((((Grow.refl _).alloc _).alloc _).alloc _) | exact HP_.out.grow (((((Grow.refl _).alloc _).alloc _).alloc _).alloc _) | exact HP_.out.grow ((Grow.refl _).drewN _)) _ ?_
        intro wz1 hg1 
        have hgr1 : Grow w wz1 := by first | exact hg1 | exact Grow.trans ((Grow.refl _).alloc _) hg1 | exact Grow.trans (((Grow.refl _).alloc _).alloc _) hg1 | exact Grow.trans ((((Grow.refl _).alloc _).alloc _).alloc _) hg1 | exact Grow.trans (((((Grow.refl _).alloc _).alloc _).alloc _).alloc _) hg1 | exact Grow.trans ((Grow.refl _).drewN _) hg1
        have HP_1 := Lib.hid (HP_.out.grow hgr1)
        have HS_1 := Lib.hid (HS_.out.grow hgr1)
        have GCH1 := Lib.hid hgr1
        clear hg1 hgr1 HP_ HS_
        rw [HCB.out, HCE.out]
        go_wp2_with fail
        refine rCan_any p at_ _ _ (by first | exact HP_1.out | exact HP_1.out.grow ((Grow.refl _).alloc _) | exact HP_1.out.grow (((Grow.refl _).alloc _).alloc _) | exact HP_1.out.grow ((((Grow.refl _).alloc _).alloc _).alloc _) | exact HP_1.out.grow (((((Grow.refl _).alloc _).alloc _).alloc _).alloc _) | exact HP_1.out.grow ((Grow.refl _).drewN _)) _ ?_
        intro wz2 hg2 
        have hgr2 : Grow wz1 wz2 := by first | exact hg2 | exact Grow.trans ((Grow.refl _).alloc _) hg2 | exact Grow.trans (((Grow.refl _).alloc _).alloc _) hg2 | exact Grow.trans ((((Grow.refl _).alloc _).alloc _).alloc _) hg2 | exact Grow.trans (((((Grow.refl _).alloc _).alloc _).alloc _).alloc _) hg2 | exact Grow.trans ((Grow.refl _).drewN _) hg2
        have HP_2 := Lib.hid (HP_1.out.grow hgr2)
        have HS_2 := Lib.hid (HS_1.out.grow hgr2)
        have GCH2 := Lib.hid (GCH1.out.trans hgr2)
        clear hg2 hgr2 HP_1 HS_1 GCH1
        rw [HCB.out, HCE.out]
        go_wp2_with fail
        refine Xch_any p at_ _ _ (by first | exact HP_2.out | exact HP_2.out.grow ((Grow.refl _).alloc _) | exact HP_2.out.grow (((Grow.refl _).alloc _).alloc _) | exact HP_2.out.grow ((((Grow.refl _).alloc _).alloc _).alloc _) | exact HP_2.out.grow (((((Grow.refl _).alloc _).alloc _).alloc _).alloc _) | exact HP_2.out.grow ((Grow.refl _).drewN _)) _ ?_
        intro wz3 x3_0 hg3 hx3_0
        have hgr3 : Grow wz2 wz3 := by first | exact hg3 | exact Grow.trans ((Grow.refl _).alloc _) hg3 | exact Grow.trans (((Grow.refl _).alloc _).alloc _) hg3 | exact Grow.trans ((((Grow.refl _).alloc _).alloc _).alloc _) hg3 | exact Grow.trans (((((Grow.refl _).alloc _).alloc _).alloc _).alloc _) hg3 | exact Grow.trans ((Grow.refl _).drewN _) hg3
        have HP_3 := Lib.hid (HP_2.out.grow hgr3)
        have HS_3 := Lib.hid (HS_2.out.grow hgr3)
        have GCH3 := Lib.hid (GCH2.out.trans hgr3)
        clear hg3 hgr3 HP_2 HS_2 GCH2
        rw [HM.out] at hx3_0
        have hyHC_3 := hx3_0
        have HC_3 := Lib.hid hyHC_3
        obtain ⟨aHC_3, cHC_3, rfl, qHC_31, qHC_32, _⟩ := hyHC_3
        clear hx3_0
        rw [HXE.out]
        go_wp2_with fail
        refine rXch_any p at_ _ _ (by first | exact HP_3.out | exact HP_3.out.grow ((Grow.refl _).alloc _) | exact HP_3.out.grow (((Grow.refl _).alloc _).alloc _) | exact HP_3.out.grow ((((Grow.refl _).alloc _).alloc _).alloc _) | exact HP_3.out.grow (((((Grow.refl _).alloc _).alloc _).alloc _).alloc _) | exact HP_3.out.grow ((Grow.refl _).drewN _)) _ ?_
        intro wz4 x4_0 hg4 hx4_0
        have hgr4 : Grow wz3 wz4 := by first | exact hg4 | exact Grow.trans ((Grow.refl _).alloc _) hg4 | exact Grow.trans (((Grow.refl _).alloc _).alloc _) hg4 | exact Grow.trans ((((Grow.refl _).alloc _).alloc _).alloc _) hg4 | exact Grow.trans (((((Grow.refl _).alloc _).alloc _).alloc _).alloc _) hg4 | exact Grow.trans ((Grow.refl _).drewN _) hg4
        have HP_4 := Lib.hid (HP_3.out.grow hgr4)
        have HS_4 := Lib.hid (HS_3.out.grow hgr4)
        have HC_4 := Lib.hid (HC_3.out.grow hgr4)
        have GCH4 := Lib.hid (GCH3.out.trans hgr4)
        clear hg4 hgr4 HP_3 HS_3 HC_3 GCH3
        rw [HM.out] at hx4_0
        have hyHD_4 := hx4_0
        have HD_4 := Lib.hid hyHD_4
        obtain ⟨aHD_4, cHD_4, rfl, qHD_41, qHD_42, _⟩ := hyHD_4
        clear hx4_0
        rw [HXE.out]
        go_wp2_with fail
        refine rsame_any m m _ _ _ (by first | exact HC_4.out | exact HC_4.out.grow ((Grow.refl _).alloc _) | exact HC_4.out.grow (((Grow.refl _).alloc _).alloc _) | exact HC_4.out.grow ((((Grow.refl _).alloc _).alloc _).alloc _) | exact HC_4.out.grow (((((Grow.refl _).alloc _).alloc _).alloc _).alloc _) | exact HC_4.out.grow ((Grow.refl _).drewN _)) (by first | exact HD_4.out | exact HD_4.out.grow ((Grow.refl _).alloc _) | exact HD_4.out.grow (((Grow.refl _).alloc _).alloc _) | exact HD_4.out.grow ((((Grow.refl _).alloc _).alloc _).alloc _) | exact HD_4.out.grow (((((Grow.refl _).alloc _).alloc _).alloc _).alloc _) | exact HD_4.out.grow ((Grow.refl _).drewN _)) _ ?_
        intro wz5 hg5 
        have hgr5 : Grow wz4 wz5 := by first | exact hg5 | exact Grow.trans ((Grow.refl _).alloc _) hg5 | exact Grow.trans (((Grow.refl _).alloc _).alloc _) hg5 | exact Grow.trans ((((Grow.refl _).alloc _).alloc _).alloc _) hg5 | exact Grow.trans (((((Grow.refl _).alloc _).alloc _).alloc _).alloc _) hg5 | exact Grow.trans ((Grow.refl _).drewN _) hg5
        have HP_5 := Lib.hid (HP_4.out.grow hgr5)
        have HS_5 := Lib.hid (HS_4.out.grow hgr5)
        have HC_5 := Lib.hid (HC_4.out.grow hgr5)
        have HD_5 := Lib.hid (HD_4.out.grow hgr5)
        have GCH5 := Lib.hid (GCH4.out.trans hgr5)
        clear hg5 hgr5 HP_4 HS_4 HC_4 HD_4 GCH4
        rw [show decide (m = m) = true from decide_eq_true rfl]
        go_wp2_with fail
        refine Run_any p s _ _ _ (by first | exact HP_5.out | exact HP_5.out.grow ((Grow.refl _).alloc _) | exact HP_5.out.grow (((Grow.refl _).alloc _).alloc _) | exact HP_5.out.grow ((((Grow.refl _).alloc _).alloc _).alloc _) | exact HP_5.out.grow (((((Grow.refl _).alloc _).alloc _).alloc _).alloc _) | exact HP_5.out.grow ((Grow.refl _).drewN _)) (by first | exact HS_5.out | exact HS_5.out.grow ((Grow.refl _).alloc _) | exact HS_5.out.grow (((Grow.refl _).alloc _).alloc _) | exact HS_5.out.grow ((((Grow.refl _).alloc _).alloc _).alloc _) | exact HS_5.out.grow (((((Grow.refl _).alloc _).alloc _).alloc _).alloc _) | exact HS_5.out.grow ((Grow.refl _).drewN _)) _ ?_
        intro wz6 x6_0 hg6 hx6_0
        have hgr6 : Grow wz5 wz6 := by first | exact hg6 | exact Grow.trans ((Grow.refl _).alloc _) hg6 | exact Grow.trans (((Grow.refl _).alloc _).alloc _) hg6 | exact Grow.trans ((((Grow.refl _).alloc _).alloc _).alloc _) hg6 | exact Grow.trans (((((Grow.refl _).alloc _).alloc _).alloc _).alloc _) hg6 | exact Grow.trans ((Grow.refl _).drewN _) hg6
        have HP_6 := Lib.hid (HP_5.out.grow hgr6)
        have HS_6 := Lib.hid (HS_5.out.grow hgr6)
        have HC_6 := Lib.hid (HC_5.out.grow hgr6)
        have HD_6 := Lib.hid (HD_5.out.grow hgr6)
        have GCH6 := Lib.hid (GCH5.out.trans hgr6)
        clear hg6 hgr6 HP_5 HS_5 HC_5 HD_5 GCH5
        rw [HRN.out] at hx6_0
        have hyHA_6 := hx6_0.slc encI_len
        have HA_6 := Lib.hid hyHA_6
        obtain ⟨aHA_6, cHA_6, rfl, qHA_61, qHA_62, _⟩ := hyHA_6
        clear hx6_0
        rw [HE.out]
        go_wp2_with fail
        have hrm := HR1.out
        rw [HM.out, HE.out] at hrm
        have hrn := HR3.out
        rw [HRN.out, HM.out, HE.out] at hrn
        have HRM := Lib.hid hrm
        have HRX := Lib.hid hrn
        clear hrm hrn
        refine Run_any m s _ _ _ (by first | exact HC_6.out | exact HC_6.out.grow ((Grow.refl _).alloc _) | exact HC_6.out.grow (((Grow.refl _).alloc _).alloc _) | exact HC_6.out.grow ((((Grow.refl _).alloc _).alloc _).alloc _) | exact HC_6.out.grow (((((Grow.refl _).alloc _).alloc _).alloc _).alloc _) | exact HC_6.out.grow ((Grow.refl _).drewN _)) (by first | exact HS_6.out | exact HS_6.out.grow ((Grow.refl _).alloc _) | exact HS_6.out.grow (((Grow.refl _).alloc _).alloc _) | exact HS_6.out.grow ((((Grow.refl _).alloc _).alloc _).alloc _) | exact HS_6.out.grow (((((Grow.refl _).alloc _).alloc _).alloc _).alloc _) | exact HS_6.out.grow ((Grow.refl _).drewN _)) _ ?_
        intro wz7 x7_0 hg7 hx7_0
        have hgr7 : Grow wz6 wz7 := by first | exact hg7 | exact Grow.trans ((Grow.refl _).alloc _) hg7 | exact Grow.trans (((Grow.refl _).alloc _).alloc _) hg7 | exact Grow.trans ((((Grow.refl _).alloc _).alloc _).alloc _) hg7 | exact Grow.trans (((((Grow.refl _).alloc _).alloc _).alloc _).alloc _) hg7 | exact Grow.trans ((Grow.refl _).drewN _) hg7
        have HP_7 := Lib.hid (HP_6.out.grow hgr7)
        have HS_7 := Lib.hid (HS_6.out.grow hgr7)
        have HC_7 := Lib.hid (HC_6.out.grow hgr7)
        have HD_7 := Lib.hid (HD_6.out.grow hgr7)
        have HA_7 := Lib.hid (HA_6.out.grow hgr7)
        have GCH7 := Lib.hid (GCH6.out.trans hgr7)
        clear hg7 hgr7 HP_6 HS_6 HC_6 HD_6 HA_6 GCH6
        rw [HRM.out, HRX.out] at hx7_0
        have hyHB_7 := hx7_0.slc encI_len
        have HB_7 := Lib.hid hyHB_7
        obtain ⟨aHB_7, cHB_7, rfl, qHB_71, qHB_72, _⟩ := hyHB_7
        clear hx7_0
        rw [HRM.out]
        go_wp2_with fail
        refine sameInts_any r r _ _ _ (by first | exact HA_7.out | exact HA_7.out.grow ((Grow.refl _).alloc _) | exact HA_7.out.grow (((Grow.refl _).alloc _).alloc _) | exact HA_7.out.grow ((((Grow.refl _).alloc _).alloc _).alloc _) | exact HA_7.out.grow (((((Grow.refl _).alloc _).alloc _).alloc _).alloc _) | exact HA_7.out.grow ((Grow.refl _).drewN _)) (by first | exact HB_7.out | exact HB_7.out.grow ((Grow.refl _).alloc _) | exact HB_7.out.grow (((Grow.refl _).alloc _).alloc _) | exact HB_7.out.grow ((((Grow.refl _).alloc _).alloc _).alloc _) | exact HB_7.out.grow (((((Grow.refl _).alloc _).alloc _).alloc _).alloc _) | exact HB_7.out.grow ((Grow.refl _).drewN _)) _ ?_
        intro wz8 hg8 
        have hgr8 : Grow wz7 wz8 := by first | exact hg8 | exact Grow.trans ((Grow.refl _).alloc _) hg8 | exact Grow.trans (((Grow.refl _).alloc _).alloc _) hg8 | exact Grow.trans ((((Grow.refl _).alloc _).alloc _).alloc _) hg8 | exact Grow.trans (((((Grow.refl _).alloc _).alloc _).alloc _).alloc _) hg8 | exact Grow.trans ((Grow.refl _).drewN _) hg8
        have HP_8 := Lib.hid (HP_7.out.grow hgr8)
        have HS_8 := Lib.hid (HS_7.out.grow hgr8)
        have HC_8 := Lib.hid (HC_7.out.grow hgr8)
        have HD_8 := Lib.hid (HD_7.out.grow hgr8)
        have HA_8 := Lib.hid (HA_7.out.grow hgr8)
        have HB_8 := Lib.hid (HB_7.out.grow hgr8)
        have GCH8 := Lib.hid (GCH7.out.trans hgr8)
        clear hg8 hgr8 HP_7 HS_7 HC_7 HD_7 HA_7 HB_7 GCH7
        rw [show decide (r = r) = true from decide_eq_true rfl]
        go_wp2_with fail
        refine known_any _ _ ?_
        intro wz9 hg9 
        have hgr9 : Grow wz8 wz9 := by first | exact hg9 | exact Grow.trans ((Grow.refl _).alloc _) hg9 | exact Grow.trans (((Grow.refl _).alloc _).alloc _) hg9 | exact Grow.trans ((((Grow.refl _).alloc _).alloc _).alloc _) hg9 | exact Grow.trans (((((Grow.refl _).alloc _).alloc _).alloc _).alloc _) hg9 | exact Grow.trans ((Grow.refl _).drewN _) hg9
        have HP_9 := Lib.hid (HP_8.out.grow hgr9)
        have HS_9 := Lib.hid (HS_8.out.grow hgr9)
        have HC_9 := Lib.hid (HC_8.out.grow hgr9)
        have HD_9 := Lib.hid (HD_8.out.grow hgr9)
        have HA_9 := Lib.hid (HA_8.out.grow hgr9)
        have HB_9 := Lib.hid (HB_8.out.grow hgr9)
        have GCH9 := Lib.hid (GCH8.out.trans hgr9)
        clear hg9 hgr9 HP_8 HS_8 HC_8 HD_8 HA_8 HB_8 GCH8
        go_wp2_with fail
        first | exact HR.out _ (GCH9.out) | exact HR.out _ (Grow.trans GCH9.out ((Grow.refl _).alloc _)) | exact HR.out _ (Grow.trans GCH9.out (((Grow.refl _).alloc _).alloc _)) | exact HR.out _ (Grow.trans GCH9.out ((((Grow.refl _).alloc _).alloc _).alloc _)) | exact HR.out _ (Grow.trans GCH9.out (((((Grow.refl _).alloc _).alloc _).alloc _).alloc _)) | exact HR.out _ (Grow.trans GCH9.out ((Grow.refl _).drewN _))
      · have HX0 := Lib.hid hx0
        clear hx0
        obtain ⟨cb, hcb⟩ : ∃ z, canB p at_ = z := ⟨_, rfl⟩
        have HCB := Lib.hid hcb
        clear hcb
        obtain ⟨ce, hce⟩ : ∃ z, canE p at_ = z := ⟨_, rfl⟩
        have HCE := Lib.hid hce
        clear hce
        obtain ⟨g, hg⟩ : ∃ g, xchE p at_ = g := ⟨_, rfl⟩
        have hg0 : g ≠ 0 := by rw [← hg]; exact HX0.out
        have t1 : (g == 0) = false := by simpa using hg0
        have t2 : (g != 0) = true := by simpa using hg0
        have HXE := Lib.hid hg
        clear hg hg0
        obtain ⟨m, hm⟩ : ∃ z, xchM p at_ = z := ⟨_, rfl⟩
        have HM := Lib.hid hm
        clear hm
        obtain ⟨e, he⟩ : ∃ z, chk p s = z := ⟨_, rfl⟩
        have HE := Lib.hid he
        clear he
        obtain ⟨r, hr⟩ : ∃ z, ifOK (chk p s) (runM p s) = z := ⟨_, rfl⟩
        have HRN := Lib.hid hr
        clear hr
        obtain ⟨e2, he2⟩ : ∃ z, chk m s = z := ⟨_, rfl⟩
        have HE2 := Lib.hid he2
        clear he2
        obtain ⟨r2, hr2⟩ : ∃ z, ifOK (chk m s) (runM m s) = z := ⟨_, rfl⟩
        have HRN2 := Lib.hid hr2
        clear hr2
        go_enter Try.func11, Try.ntmps11
        go_wp2_with fail
        refine long_any p _ _ (by first | exact HP_.out | exact HP_.out.grow ((Grow.refl _).alloc _) | exact HP_.out.grow (((Grow.refl _).alloc _).alloc _) | exact HP_.out.grow ((((Grow.refl _).alloc _).alloc _).alloc _) | exact HP_.out.grow (((((Grow.refl _).alloc _).alloc _).alloc _).alloc _) | exact HP_.out.grow ((Grow.refl _).drewN _)) _ ?_
        rw [HD0.out]
        go_wp2_with fail
        refine large_any s _ _ (by first | exact HS_.out | exact HS_.out.grow ((Grow.refl _).alloc _) | exact HS_.out.grow (((Grow.refl _).alloc _).alloc _) | exact HS_.out.grow ((((Grow.refl _).alloc _).alloc _).alloc _) | exact HS_.out.grow (((((Grow.refl _).alloc _).alloc _).alloc _).alloc _) | exact HS_.out.grow ((Grow.refl _).drewN _)) _ ?_
        rw [HD1.out]
        go_wp2_with fail
        refine Can_any p at_ _ _ (by first | exact HP_.out | exact HP_.out.grow ((Grow.refl _).alloc _) | exact HP_.out.grow (((Grow.refl _).alloc _).alloc _) | exact HP_.out.grow ((((Grow.refl _).alloc _).alloc _).alloc _) | exact HP_.out.grow (((((Grow.refl _).alloc _).alloc _).alloc _).alloc _) | exact HP_.out.grow ((Grow.refl _).drewN _)) _ ?_
        intro wz1 hg1 
        have hgr1 : Grow w wz1 := by first | exact hg1 | exact Grow.trans ((Grow.refl _).alloc _) hg1 | exact Grow.trans (((Grow.refl _).alloc _).alloc _) hg1 | exact Grow.trans ((((Grow.refl _).alloc _).alloc _).alloc _) hg1 | exact Grow.trans (((((Grow.refl _).alloc _).alloc _).alloc _).alloc _) hg1 | exact Grow.trans ((Grow.refl _).drewN _) hg1
        have HP_1 := Lib.hid (HP_.out.grow hgr1)
        have HS_1 := Lib.hid (HS_.out.grow hgr1)
        have GCH1 := Lib.hid hgr1
        clear hg1 hgr1 HP_ HS_
        rw [HCB.out, HCE.out]
        go_wp2_with fail
        refine rCan_any p at_ _ _ (by first | exact HP_1.out | exact HP_1.out.grow ((Grow.refl _).alloc _) | exact HP_1.out.grow (((Grow.refl _).alloc _).alloc _) | exact HP_1.out.grow ((((Grow.refl _).alloc _).alloc _).alloc _) | exact HP_1.out.grow (((((Grow.refl _).alloc _).alloc _).alloc _).alloc _) | exact HP_1.out.grow ((Grow.refl _).drewN _)) _ ?_
        intro wz2 hg2 
        have hgr2 : Grow wz1 wz2 := by first | exact hg2 | exact Grow.trans ((Grow.refl _).alloc _) hg2 | exact Grow.trans (((Grow.refl _).alloc _).alloc _) hg2 | exact Grow.trans ((((Grow.refl _).alloc _).alloc _).alloc _) hg2 | exact Grow.trans (((((Grow.refl _).alloc _).alloc _).alloc _).alloc _) hg2 | exact Grow.trans ((Grow.refl _).drewN _) hg2
        have HP_2 := Lib.hid (HP_1.out.grow hgr2)
        have HS_2 := Lib.hid (HS_1.out.grow hgr2)
        have GCH2 := Lib.hid (GCH1.out.trans hgr2)
        clear hg2 hgr2 HP_1 HS_1 GCH1
        rw [HCB.out, HCE.out]
        go_wp2_with fail
        refine Xch_any p at_ _ _ (by first | exact HP_2.out | exact HP_2.out.grow ((Grow.refl _).alloc _) | exact HP_2.out.grow (((Grow.refl _).alloc _).alloc _) | exact HP_2.out.grow ((((Grow.refl _).alloc _).alloc _).alloc _) | exact HP_2.out.grow (((((Grow.refl _).alloc _).alloc _).alloc _).alloc _) | exact HP_2.out.grow ((Grow.refl _).drewN _)) _ ?_
        intro wz3 x3_0 hg3 hx3_0
        have hgr3 : Grow wz2 wz3 := by first | exact hg3 | exact Grow.trans ((Grow.refl _).alloc _) hg3 | exact Grow.trans (((Grow.refl _).alloc _).alloc _) hg3 | exact Grow.trans ((((Grow.refl _).alloc _).alloc _).alloc _) hg3 | exact Grow.trans (((((Grow.refl _).alloc _).alloc _).alloc _).alloc _) hg3 | exact Grow.trans ((Grow.refl _).drewN _) hg3
        have HP_3 := Lib.hid (HP_2.out.grow hgr3)
        have HS_3 := Lib.hid (HS_2.out.grow hgr3)
        have GCH3 := Lib.hid (GCH2.out.trans hgr3)
        clear hg3 hgr3 HP_2 HS_2 GCH2
        rw [HM.out] at hx3_0
        have hyHC_3 := hx3_0
        have HC_3 := Lib.hid hyHC_3
        obtain ⟨aHC_3, cHC_3, rfl, qHC_31, qHC_32, _⟩ := hyHC_3
        clear hx3_0
        rw [HXE.out]
        go_wp2_with fail
        refine rXch_any p at_ _ _ (by first | exact HP_3.out | exact HP_3.out.grow ((Grow.refl _).alloc _) | exact HP_3.out.grow (((Grow.refl _).alloc _).alloc _) | exact HP_3.out.grow ((((Grow.refl _).alloc _).alloc _).alloc _) | exact HP_3.out.grow (((((Grow.refl _).alloc _).alloc _).alloc _).alloc _) | exact HP_3.out.grow ((Grow.refl _).drewN _)) _ ?_
        intro wz4 x4_0 hg4 hx4_0
        have hgr4 : Grow wz3 wz4 := by first | exact hg4 | exact Grow.trans ((Grow.refl _).alloc _) hg4 | exact Grow.trans (((Grow.refl _).alloc _).alloc _) hg4 | exact Grow.trans ((((Grow.refl _).alloc _).alloc _).alloc _) hg4 | exact Grow.trans (((((Grow.refl _).alloc _).alloc _).alloc _).alloc _) hg4 | exact Grow.trans ((Grow.refl _).drewN _) hg4
        have HP_4 := Lib.hid (HP_3.out.grow hgr4)
        have HS_4 := Lib.hid (HS_3.out.grow hgr4)
        have HC_4 := Lib.hid (HC_3.out.grow hgr4)
        have GCH4 := Lib.hid (GCH3.out.trans hgr4)
        clear hg4 hgr4 HP_3 HS_3 HC_3 GCH3
        rw [HM.out] at hx4_0
        have hyHD_4 := hx4_0
        have HD_4 := Lib.hid hyHD_4
        obtain ⟨aHD_4, cHD_4, rfl, qHD_41, qHD_42, _⟩ := hyHD_4
        clear hx4_0
        rw [HXE.out]
        go_wp2_with fail
        refine rsame_any m m _ _ _ (by first | exact HC_4.out | exact HC_4.out.grow ((Grow.refl _).alloc _) | exact HC_4.out.grow (((Grow.refl _).alloc _).alloc _) | exact HC_4.out.grow ((((Grow.refl _).alloc _).alloc _).alloc _) | exact HC_4.out.grow (((((Grow.refl _).alloc _).alloc _).alloc _).alloc _) | exact HC_4.out.grow ((Grow.refl _).drewN _)) (by first | exact HD_4.out | exact HD_4.out.grow ((Grow.refl _).alloc _) | exact HD_4.out.grow (((Grow.refl _).alloc _).alloc _) | exact HD_4.out.grow ((((Grow.refl _).alloc _).alloc _).alloc _) | exact HD_4.out.grow (((((Grow.refl _).alloc _).alloc _).alloc _).alloc _) | exact HD_4.out.grow ((Grow.refl _).drewN _)) _ ?_
        intro wz5 hg5 
        have hgr5 : Grow wz4 wz5 := by first | exact hg5 | exact Grow.trans ((Grow.refl _).alloc _) hg5 | exact Grow.trans (((Grow.refl _).alloc _).alloc _) hg5 | exact Grow.trans ((((Grow.refl _).alloc _).alloc _).alloc _) hg5 | exact Grow.trans (((((Grow.refl _).alloc _).alloc _).alloc _).alloc _) hg5 | exact Grow.trans ((Grow.refl _).drewN _) hg5
        have HP_5 := Lib.hid (HP_4.out.grow hgr5)
        have HS_5 := Lib.hid (HS_4.out.grow hgr5)
        have HC_5 := Lib.hid (HC_4.out.grow hgr5)
        have HD_5 := Lib.hid (HD_4.out.grow hgr5)
        have GCH5 := Lib.hid (GCH4.out.trans hgr5)
        clear hg5 hgr5 HP_4 HS_4 HC_4 HD_4 GCH4
        rw [show decide (m = m) = true from decide_eq_true rfl]
        go_wp2_with fail
        refine Run_any p s _ _ _ (by first | exact HP_5.out | exact HP_5.out.grow ((Grow.refl _).alloc _) | exact HP_5.out.grow (((Grow.refl _).alloc _).alloc _) | exact HP_5.out.grow ((((Grow.refl _).alloc _).alloc _).alloc _) | exact HP_5.out.grow (((((Grow.refl _).alloc _).alloc _).alloc _).alloc _) | exact HP_5.out.grow ((Grow.refl _).drewN _)) (by first | exact HS_5.out | exact HS_5.out.grow ((Grow.refl _).alloc _) | exact HS_5.out.grow (((Grow.refl _).alloc _).alloc _) | exact HS_5.out.grow ((((Grow.refl _).alloc _).alloc _).alloc _) | exact HS_5.out.grow (((((Grow.refl _).alloc _).alloc _).alloc _).alloc _) | exact HS_5.out.grow ((Grow.refl _).drewN _)) _ ?_
        intro wz6 x6_0 hg6 hx6_0
        have hgr6 : Grow wz5 wz6 := by first | exact hg6 | exact Grow.trans ((Grow.refl _).alloc _) hg6 | exact Grow.trans (((Grow.refl _).alloc _).alloc _) hg6 | exact Grow.trans ((((Grow.refl _).alloc _).alloc _).alloc _) hg6 | exact Grow.trans (((((Grow.refl _).alloc _).alloc _).alloc _).alloc _) hg6 | exact Grow.trans ((Grow.refl _).drewN _) hg6
        have HP_6 := Lib.hid (HP_5.out.grow hgr6)
        have HS_6 := Lib.hid (HS_5.out.grow hgr6)
        have HC_6 := Lib.hid (HC_5.out.grow hgr6)
        have HD_6 := Lib.hid (HD_5.out.grow hgr6)
        have GCH6 := Lib.hid (GCH5.out.trans hgr6)
        clear hg6 hgr6 HP_5 HS_5 HC_5 HD_5 GCH5
        rw [HRN.out] at hx6_0
        have hyHA_6 := hx6_0.slc encI_len
        have HA_6 := Lib.hid hyHA_6
        obtain ⟨aHA_6, cHA_6, rfl, qHA_61, qHA_62, _⟩ := hyHA_6
        clear hx6_0
        rw [HE.out]
        go_wp2_with fail
        refine Run_any m s _ _ _ (by first | exact HC_6.out | exact HC_6.out.grow ((Grow.refl _).alloc _) | exact HC_6.out.grow (((Grow.refl _).alloc _).alloc _) | exact HC_6.out.grow ((((Grow.refl _).alloc _).alloc _).alloc _) | exact HC_6.out.grow (((((Grow.refl _).alloc _).alloc _).alloc _).alloc _) | exact HC_6.out.grow ((Grow.refl _).drewN _)) (by first | exact HS_6.out | exact HS_6.out.grow ((Grow.refl _).alloc _) | exact HS_6.out.grow (((Grow.refl _).alloc _).alloc _) | exact HS_6.out.grow ((((Grow.refl _).alloc _).alloc _).alloc _) | exact HS_6.out.grow (((((Grow.refl _).alloc _).alloc _).alloc _).alloc _) | exact HS_6.out.grow ((Grow.refl _).drewN _)) _ ?_
        intro wz7 x7_0 hg7 hx7_0
        have hgr7 : Grow wz6 wz7 := by first | exact hg7 | exact Grow.trans ((Grow.refl _).alloc _) hg7 | exact Grow.trans (((Grow.refl _).alloc _).alloc _) hg7 | exact Grow.trans ((((Grow.refl _).alloc _).alloc _).alloc _) hg7 | exact Grow.trans (((((Grow.refl _).alloc _).alloc _).alloc _).alloc _) hg7 | exact Grow.trans ((Grow.refl _).drewN _) hg7
        have HP_7 := Lib.hid (HP_6.out.grow hgr7)
        have HS_7 := Lib.hid (HS_6.out.grow hgr7)
        have HC_7 := Lib.hid (HC_6.out.grow hgr7)
        have HD_7 := Lib.hid (HD_6.out.grow hgr7)
        have HA_7 := Lib.hid (HA_6.out.grow hgr7)
        have GCH7 := Lib.hid (GCH6.out.trans hgr7)
        clear hg7 hgr7 HP_6 HS_6 HC_6 HD_6 HA_6 GCH6
        rw [HRN2.out] at hx7_0
        have hyHB_7 := hx7_0.slc encI_len
        have HB_7 := Lib.hid hyHB_7
        obtain ⟨aHB_7, cHB_7, rfl, qHB_71, qHB_72, _⟩ := hyHB_7
        clear hx7_0
        rw [HE2.out]
        go_wp2_with fail
        refine known_any _ _ ?_
        intro wz8 hg8 
        have hgr8 : Grow wz7 wz8 := by first | exact hg8 | exact Grow.trans ((Grow.refl _).alloc _) hg8 | exact Grow.trans (((Grow.refl _).alloc _).alloc _) hg8 | exact Grow.trans ((((Grow.refl _).alloc _).alloc _).alloc _) hg8 | exact Grow.trans (((((Grow.refl _).alloc _).alloc _).alloc _).alloc _) hg8 | exact Grow.trans ((Grow.refl _).drewN _) hg8
        have HP_8 := Lib.hid (HP_7.out.grow hgr8)
        have HS_8 := Lib.hid (HS_7.out.grow hgr8)
        have HC_8 := Lib.hid (HC_7.out.grow hgr8)
        have HD_8 := Lib.hid (HD_7.out.grow hgr8)
        have HA_8 := Lib.hid (HA_7.out.grow hgr8)
        have HB_8 := Lib.hid (HB_7.out.grow hgr8)
        have GCH8 := Lib.hid (GCH7.out.trans hgr8)
        clear hg8 hgr8 HP_7 HS_7 HC_7 HD_7 HA_7 HB_7 GCH7
        go_wp2_with fail
        first | exact HR.out _ (GCH8.out) | exact HR.out _ (Grow.trans GCH8.out ((Grow.refl _).alloc _)) | exact HR.out _ (Grow.trans GCH8.out (((Grow.refl _).alloc _).alloc _)) | exact HR.out _ (Grow.trans GCH8.out ((((Grow.refl _).alloc _).alloc _).alloc _)) | exact HR.out _ (Grow.trans GCH8.out (((((Grow.refl _).alloc _).alloc _).alloc _).alloc _)) | exact HR.out _ (Grow.trans GCH8.out ((Grow.refl _).drewN _))
end Go.Proofs.Ytmaphlbmmemgcaa
