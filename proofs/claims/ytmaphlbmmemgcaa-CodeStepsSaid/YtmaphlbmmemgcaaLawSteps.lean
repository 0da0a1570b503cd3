/- The walk of the statement CodeSteps. -/
import Derived.Test.YtmaphlbmmemgcaaLawA
import Derived.Test.YtmaphlbmmemgcaaHelp
import Derived.Test.YtmaphlbmmemgcaaSets
import Derived.Test.YtmaphlbmmemgcaaRefC
import Derived.Test.YtmaphlbmmemgcaaOpen
namespace Go.Proofs.Ytmaphlbmmemgcaa
open Go.RowKit

set_option maxRecDepth 100000 in
set_option maxHeartbeats 8000000 in
theorem codeSteps_any (p : List Ln) (s : List Int) (w : World) (vp vs : Value) (hp : LinesAt w vp p) (hs : IntsAt w vs s) (R : Ending → World → Prop) (hR : ∀ w', Grow w w' → R (.returned (.bool true)) w') :
    Calls Try.prog 10 #[vp, vs] w R := by
  have HR := Lib.hid hR
  have HP_ := Lib.hid hp
  obtain ⟨adp, cpp, rfl, qp1, qp2, _⟩ := hp
  have HS_ := Lib.hid hs
  obtain ⟨ads, cps, rfl, qs1, qs2, _⟩ := hs
  clear hR
  by_cases gd0 : 100 < p.length
  · have hd0 : decide (100 < p.length) = true := decide_eq_true gd0
    have HD0 := Lib.hid hd0
    clear hd0 gd0
    go_enter Try.func10, Try.ntmps10
    go_wp2_with fail
    refine long_any p _ _ (by first | exact HP_.out | exact HP_.out.grow ((Grow.refl _).alloc _) | exact HP_.out.grow (((Grow.refl _).alloc _).alloc _) | exact HP_.out.grow ((((Grow.refl _).alloc _).alloc _).alloc _) | exact HP_.out.grow (((((Grow.refl _).alloc _).alloc _).alloc _).alloc _) | exact HP_.out.grow ((Grow.refl _).drewN _)) _ ?_
    rw [HD0.out]
    go_wp2_with fail
    refine known_any _ _ ?_
    intro wz1 hg1 
    have hgr1 : Grow w wz1 := by first | exact hg1 | exact Grow.trans ((Grow.refl _).alloc _) hg1 | exact Grow.trans (((Grow.refl _).alloc _).alloc _) hg1 | exact Grow.trans ((((Grow.refl _).alloc _).alloc _).alloc _) hg1 | exact Grow.trans (((((Grow.refl _).alloc _).alloc _).alloc _).alloc _) hg1 | exact Grow.trans ((Grow.refl _).drewN _) hg1
    have HP_1 := Lib.hid (HP_.out.grow hgr1)
    have HS_1 := Lib.hid (HS_.out.grow hgr1)
    have GCH1 := Lib.hid hgr1
    clear hg1 hgr1 HP_ HS_
    go_wp2_with fail
    first | exact HR.out _ (GCH1.out) | exact HR.out _ (Grow.trans GCH1.out ((Grow.refl _).alloc _)) | exact HR.out _ (Grow.trans GCH1.out (((Grow.refl _).alloc _).alloc _)) | exact HR.out _ (Grow.trans GCH1.out ((((Grow.refl _).alloc _).alloc _).alloc _)) | exact HR.out _ (Grow.trans GCH1.out (((((Grow.refl _).alloc _).alloc _).alloc _).alloc _)) | exact HR.out _ (Grow.trans GCH1.out ((Grow.refl _).drewN _))
  · have hd0 : decide (100 < p.length) = false := decide_eq_false gd0
    have HD0 := Lib.hid hd0
    clear hd0
    by_cases gd1 : 100 < s.length
    · have hd1 : decide (100 < s.length) = true := decide_eq_true gd1
      have HD1 := Lib.hid hd1
      clear hd1 gd1
      go_enter Try.func10, Try.ntmps10
      go_wp2_with fail
      refine long_any p _ _ (by first | exact HP_.out | exact HP_.out.grow ((Grow.refl _).alloc _) | exact HP_.out.grow (((Grow.refl _).alloc _).alloc _) | exact HP_.out.grow ((((Grow.refl _).alloc _).alloc _).alloc _) | exact HP_.out.grow (((((Grow.refl _).alloc _).alloc _).alloc _).alloc _) | exact HP_.out.grow ((Grow.refl _).drewN _)) _ ?_
      rw [HD0.out]
      go_wp2_with fail
      refine large_any s _ _ (by first | exact HS_.out | exact HS_.out.grow ((Grow.refl _).alloc _) | exact HS_.out.grow (((Grow.refl _).alloc _).alloc _) | exact HS_.out.grow ((((Grow.refl _).alloc _).alloc _).alloc _) | exact HS_.out.grow (((((Grow.refl _).alloc _).alloc _).alloc _).alloc _) | exact HS_.out.grow ((Grow.refl _).drewN _)) _ ?_
      rw [HD1.out]
      go_wp2_with fail
      refine known_any _ _ ?_
      intro wz1 hg1 
      have hgr1 : Grow w wz1 := by first | exact hg1 | exact Grow.trans ((Grow.refl _).alloc _) hg1 | exact Grow.trans (((Grow.refl _).alloc _).alloc _) hg1 | exact Grow.trans ((((Grow.refl _).alloc _).alloc _).alloc _) hg1 | exact Grow.trans (((((Grow.refl _).alloc _).alloc _).alloc _).alloc _) hg1 | exact Grow.trans ((Grow.refl _).drewN _) hg1
      have HP_1 := Lib.hid (HP_.out.grow hgr1)
      have HS_1 := Lib.hid (HS_.out.grow hgr1)
      have GCH1 := Lib.hid hgr1
      clear hg1 hgr1 HP_ HS_
      go_wp2_with fail
      first | exact HR.out _ (GCH1.out) | exact HR.out _ (Grow.trans GCH1.out ((Grow.refl _).alloc _)) | exact HR.out _ (Grow.trans GCH1.out (((Grow.refl _).alloc _).alloc _)) | exact HR.out _ (Grow.trans GCH1.out ((((Grow.refl _).alloc _).alloc _).alloc _)) | exact HR.out _ (Grow.trans GCH1.out (((((Grow.refl _).alloc _).alloc _).alloc _).alloc _)) | exact HR.out _ (Grow.trans GCH1.out ((Grow.refl _).drewN _))
    · have hd1 : decide (100 < s.length) = false := decide_eq_false gd1
      have HD1 := Lib.hid hd1
      clear hd1
      by_cases hck : chk p s = 0
      · have HCK := Lib.hid hck
        have he0 := ifOK_ok (doneM p s)
        have he1 := ifOK_ok (runM p s)
        rw [← hck] at he0 he1
        have HE0 := Lib.hid he0
        have HE1 := Lib.hid he1
        clear he0 he1 hck
        go_enter Try.func10, Try.ntmps10
        go_wp2_with fail
        refine long_any p _ _ (by first | exact HP_.out | exact HP_.out.grow ((Grow.refl _).alloc _) | exact HP_.out.grow (((Grow.refl _).alloc _).alloc _) | exact HP_.out.grow ((((Grow.refl _).alloc _).alloc _).alloc _) | exact HP_.out.grow (((((Grow.refl _).alloc _).alloc _).alloc _).alloc _) | exact HP_.out.grow ((Grow.refl _).drewN _)) _ ?_
        rw [HD0.out]
        go_wp2_with fail
        refine large_any s _ _ (by first | exact HS_.out | exact HS_.out.grow ((Grow.refl _).alloc _) | exact HS_.out.grow (((Grow.refl _).alloc _).alloc _) | exact HS_.out.grow ((((Grow.refl _).alloc _).alloc _).alloc _) | exact HS_.out.grow (((((Grow.refl _).alloc _).alloc _).alloc _).alloc _) | exact HS_.out.grow ((Grow.refl _).drewN _)) _ ?_
        rw [HD1.out]
        go_wp2_with fail
        refine Done_any p s _ _ _ (by first | exact HP_.out | exact HP_.out.grow ((Grow.refl _).alloc _) | exact HP_.out.grow (((Grow.refl _).alloc _).alloc _) | exact HP_.out.grow ((((Grow.refl _).alloc _).alloc _).alloc _) | exact HP_.out.grow (((((Grow.refl _).alloc _).alloc _).alloc _).alloc _) | exact HP_.out.grow ((Grow.refl _).drewN _)) (by first | exact HS_.out | exact HS_.out.grow ((Grow.refl _).alloc _) | exact HS_.out.grow (((Grow.refl _).alloc _).alloc _) | exact HS_.out.grow ((((Grow.refl _).alloc _).alloc _).alloc _) | exact HS_.out.grow (((((Grow.refl _).alloc _).alloc _).alloc _).alloc _) | exact HS_.out.grow ((Grow.refl _).drewN _)) _ ?_
        intro wz1 x1_0 hg1 hx1_0
        have hgr1 : Grow w wz1 := by first | exact hg1 | exact Grow.trans ((Grow.refl _).alloc _) hg1 | exact Grow.trans (((Grow.refl _).alloc _).alloc _) hg1 | exact Grow.trans ((((Grow.refl _).alloc _).alloc _).alloc _) hg1 | exact Grow.trans (((((Grow.refl _).alloc _).alloc _).alloc _).alloc _) hg1 | exact Grow.trans ((Grow.refl _).drewN _) hg1
        have HP_1 := Lib.hid (HP_.out.grow hgr1)
        have HS_1 := Lib.hid (HS_.out.grow hgr1)
        have GCH1 := Lib.hid hgr1
        clear hg1 hgr1 HP_ HS_
        rw [HE0.out] at hx1_0
        have hyHD_1 := hx1_0.slc encI_len
        have HD_1 := Lib.hid hyHD_1
        obtain ⟨aHD_1, cHD_1, rfl, qHD_11, qHD_12, _⟩ := hyHD_1
        clear hx1_0
        rw [HCK.out]
        go_wp2_with fail
        refine Run_any p s _ _ _ (by first | exact HP_1.out | exact HP_1.out.grow ((Grow.refl _).alloc _) | exact HP_1.out.grow (((Grow.refl _).alloc _).alloc _) | exact HP_1.out.grow ((((Grow.refl _).alloc _).alloc _).alloc _) | exact HP_1.out.grow (((((Grow.refl _).alloc _).alloc _).alloc _).alloc _) | exact HP_1.out.grow ((Grow.refl _).drewN _)) (by first | exact HS_1.out | exact HS_1.out.grow ((Grow.refl _).alloc _) | exact HS_1.out.grow (((Grow.refl _).alloc _).alloc _) | exact HS_1.out.grow ((((Grow.refl _).alloc _).alloc _).alloc _) | exact HS_1.out.grow (((((Grow.refl _).alloc _).alloc _).alloc _).alloc _) | exact HS_1.out.grow ((Grow.refl _).drewN _)) _ ?_
        intro wz2 x2_0 hg2 hx2_0
        have hgr2 : Grow wz1 wz2 := by first | exact hg2 | exact Grow.trans ((Grow.refl _).alloc _) hg2 | exact Grow.trans (((Grow.refl _).alloc _).alloc _) hg2 | exact Grow.trans ((((Grow.refl _).alloc _).alloc _).alloc _) hg2 | exact Grow.trans (((((Grow.refl _).alloc _).alloc _).alloc _).alloc _) hg2 | exact Grow.trans ((Grow.refl _).drewN _) hg2
        have HP_2 := Lib.hid (HP_1.out.grow hgr2)
        have HS_2 := Lib.hid (HS_1.out.grow hgr2)
        have HD_2 := Lib.hid (HD_1.out.grow hgr2)
        have GCH2 := Lib.hid (GCH1.out.trans hgr2)
        clear hg2 hgr2 HP_1 HS_1 HD_1 GCH1
        rw [HE1.out] at hx2_0
        have hyHN_2 := hx2_0.slc encI_len
        have HN_2 := Lib.hid hyHN_2
        obtain ⟨aHN_2, cHN_2, rfl, qHN_21, qHN_22, _⟩ := hyHN_2
        clear hx2_0
        rw [HCK.out]
        rw [show (runM p s).length = 4 from rfl] at HN_2 ⊢
        have hvl := visits_length p s
        have hdl := doneM_length p s
        have hv8 := (valP_ok.1 (chk_ok.1 HCK.out).1).1
        have HDL := Lib.hid hdl
        clear hdl
        have hcmp : decide (p.length < (doneM p s).length) = false := decide_eq_false (by rw [HDL.out]; omega)
        have hcmp2 : decide ((p.length : Int) < ((doneM p s).length : Int)) = false := decide_eq_false (by rw [HDL.out]; omega)
        go_wp2_with fail
        refine rIsSet_any (doneM p s) _ _ (by first | exact HD_2.out | exact HD_2.out.grow ((Grow.refl _).alloc _) | exact HD_2.out.grow (((Grow.refl _).alloc _).alloc _) | exact HD_2.out.grow ((((Grow.refl _).alloc _).alloc _).alloc _) | exact HD_2.out.grow (((((Grow.refl _).alloc _).alloc _).alloc _).alloc _) | exact HD_2.out.grow ((Grow.refl _).drewN _)) _ ?_
        intro wz3 hg3 
        have hgr3 : Grow wz2 wz3 := by first | exact hg3 | exact Grow.trans ((Grow.refl _).alloc _) hg3 | exact Grow.trans (((Grow.refl _).alloc _).alloc _) hg3 | exact Grow.trans ((((Grow.refl _).alloc _).alloc _).alloc _) hg3 | exact Grow.trans (((((Grow.refl _).alloc _).alloc _).alloc _).alloc _) hg3 | exact Grow.trans ((Grow.refl _).drewN _) hg3
        have HP_3 := Lib.hid (HP_2.out.grow hgr3)
        have HS_3 := Lib.hid (HS_2.out.grow hgr3)
        have HD_3 := Lib.hid (HD_2.out.grow hgr3)
        have HN_3 := Lib.hid (HN_2.out.grow hgr3)
        have GCH3 := Lib.hid (GCH2.out.trans hgr3)
        clear hg3 hgr3 HP_2 HS_2 HD_2 HN_2 GCH2
        rw [doneM_asc p s]
        go_wp2_with fail
        have hs4 : s.length = 4 := (valS_ok.1 (chk_ok.1 HCK.out).2).1
        have hs0 : (stAt p s 0).toL = s := by
          rw [stAt_zero]
          obtain ⟨q, rfl, _⟩ := St.of_valS (chk_ok.1 HCK.out).2
          rfl
        have HS0 := Lib.hid hs0
        have HS4 := Lib.hid hs4
        have HDO := Lib.hid HD_3.out
        have HPP := Lib.hid HP_3.out
        clear hs0 hs4 hcmp hcmp2 gd0 gd1
        go_loopw [9, 10] (fun nw i wr => ∃ (k : Nat) (a : Option Addr) (c : Nat), k ≤ (visits p s).length + 1 ∧ i = .int .i64 k ∧ nw = .slice a 4 c ∧ Grow wz3 wr ∧ IntsAt wr (.slice a 4 c) (stAt p s (k - 1)).toL) (fun _ i _ => (visits p s).length + 1 - (intOf i).toNat)
        case atStart =>
          refine ⟨0, ads, cps, by omega, rfl, by rw [HS4.out], Grow.refl _, ?_⟩
          have := HS_3.out
          rw [HS4.out] at this
          rw [show (0 - 1 : Nat) = 0 from rfl, HS0.out]
          exact this
        case round =>
          obtain ⟨k, na, nc, hk, rfl, rfl, hgr, hnw⟩ := hrel
          have HGR0 := Lib.hid hgr
          have HNW0 := Lib.hid hnw
          clear hgr hnw
          by_cases hkn : k < (visits p s).length
          · obtain ⟨⟨ln, st⟩, hv⟩ : ∃ v, (visits p s)[k]? = some v := ⟨_, List.getElem?_eq_getElem hkn⟩
            obtain ⟨b0, o0, e0, _, x0⟩ := ints_at (HDO.out.grow HGR0.out) (doneM_at p s hv)
            cases e0
            obtain ⟨hbe, hbo⟩ := bef_done HCK.out hv
            have hst : stAt p s k = st := stAt_some hv
            have HBE := Lib.hid hbe
            have HBO := Lib.hid hbo
            have HST := Lib.hid hst
            have q1 : decide ((k : Int) ≤ ((doneM p s).length : Int)) = true := decide_eq_true (by rw [HDL.out]; omega)
            have q2 : decide ((k : Int) < ((doneM p s).length : Int)) = true := decide_eq_true (by rw [HDL.out]; omega)
            have q3 : decide (k ≤ (doneM p s).length) = true := decide_eq_true (by rw [HDL.out]; omega)
            have q4 : decide (k < (doneM p s).length) = true := decide_eq_true (by rw [HDL.out]; omega)
            have q5 : (k : Int) ≤ ((doneM p s).length : Int) := by rw [HDL.out]; omega
            have q6 : (k : Int) < ((doneM p s).length : Int) := by rw [HDL.out]; omega
            try dsimp only at x0
            clear hv hbe hbo hst
            go_wp2_with fail
            refine Before_any p s (ln : Int) _ _ _ (HPP.out.grow HGR0.out) (HS_3.out.grow HGR0.out) (by omega) _ ?_
            intro wb xb hgb hxb
            have hb1 := HBE.out
            have hb2 := HBO.out
            try dsimp only at hb1 hb2
            rw [hb2] at hxb
            rw [hb1, hb2, show (some st).isSome = true from rfl]
            have hxs : IntsAt wb xb st.toL := hxb.slc encI_len
            have HXS := Lib.hid hxs
            obtain ⟨ab, cb, rfl, _, _, _⟩ := hxs
            have HGR := Lib.hid (Grow.trans HGR0.out hgb)
            have HNW := Lib.hid (HNW0.out.grow hgb)
            have hnx : IntsAt wb (.slice ab 4 cb) (stAt p s k).toL := by rw [HST.out]; exact HXS.out
            have HNX := Lib.hid hnx
            rw [show st.toL.length = 4 from rfl]
            clear hgb hxb hnx hb1 hb2 x0
            go_wp2_with fail
            go_loopw [15] (fun ir wi => ∃ r : Nat, r ≤ 4 ∧ ir = .int .i64 r ∧ Grow wb wi) (fun ir _ => 4 - (intOf ir).toNat)
            case atStart => exact ⟨0, by omega, rfl, Grow.refl _⟩
            case round =>
              obtain ⟨r, hr, rfl, hg⟩ := hrel
              have HGI := Lib.hid hg
              clear hg
              by_cases hr4 : r < 4
              · obtain ⟨b1, o1, e1, _, x1⟩ := st_at (HNW.out.grow HGI.out) hr4
                obtain ⟨b2, o2, e2, _, x2⟩ := st_at (HNX.out.grow HGI.out) hr4
                cases e1
                cases e2
                obtain ⟨y1, hy1⟩ : ∃ y, (stAt p s (k - 1)).get r = y := ⟨_, rfl⟩
                obtain ⟨y2, hy2⟩ : ∃ y, (stAt p s k).get r = y := ⟨_, rfl⟩
                rw [hy1] at x1
                rw [hy2] at x2
                have HY1 := Lib.hid hy1
                have HY2 := Lib.hid hy2
                clear hy1 hy2
                by_cases hy : y1 = y2
                · subst hy
                  go_wp2_with (go_quiet (fail))
                  go_roundw
                  case rel => exact ⟨r + 1, by omega, by go_num, HGI.out.drewN _⟩
                  case measure => simp [intOf]; omega
                · have t1 : (y1 == y2) = false := by simpa using hy
                  obtain ⟨j, hj⟩ : ∃ j, k = j + 1 := ⟨k - 1, by
                    have : k ≠ 0 := by
                      intro h0
                      have a1 := HY1.out
                      have a2 := HY2.out
                      rw [h0] at a1 a2
                      exact hy (a1.symm.trans a2)
                    omega⟩
                  have hjn : k - 1 = j := by omega
                  have hjk : (k : Int) - 1 = (j : Int) := by omega
                  have HJ := Lib.hid hj
                  have HJN := Lib.hid hjn
                  obtain ⟨⟨ln, st⟩, hv⟩ : ∃ v, (visits p s)[j]? = some v := ⟨_, List.getElem?_eq_getElem (by omega)⟩
                  have hlt := visits_lt p s _ (List.mem_of_getElem? hv)
                  obtain ⟨⟨op, d, a, b⟩, hl⟩ : ∃ l, p[ln]? = some l := ⟨_, List.getElem?_eq_getElem hlt⟩
                  have hok := (valP_ok.1 (chk_ok.1 HCK.out).1).2 _ (List.mem_of_getElem? hl)
                  have hw : wrB op = true ∧ d = (r : Int) := by
                    refine step_only hok ln (stAt p s j) (r := (r : Int)) (by omega) (by omega) ?_
                    rw [← stAt_succ hv hl]
                    have a1 := HY1.out
                    have a2 := HY2.out
                    rw [hjn] at a1
                    rw [hj] at a2
                    rw [a1, a2]; exact fun e => hy e.symm
                  obtain ⟨hw1, rfl⟩ := hw
                  obtain ⟨b3, o3, e3, _, x3⟩ := ints_at (HDO.out.grow (Grow.trans HGR.out HGI.out)) (doneM_at p s hv)
                  cases e3
                  obtain ⟨b4, o4, e4, _, l0, l1, l2, l3⟩ := lines_at (HPP.out.grow (Grow.trans HGR.out HGI.out)) hl
                  cases e4
                  have hwo : wrO op r a b = (r : Int) := by unfold wrO wrT; rw [show vL op r a b = true from hok, hw1]; rfl
                  have hwi : wrI op r a b = true := by unfold wrI; rw [show vL op r a b = true from hok, hw1]; rfl
                  have hwe : errB (vL op r a b) = 0 := by rw [show vL op r a b = true from hok]; rfl
                  have HWO := Lib.hid hwo
                  have HWI := Lib.hid hwi
                  have HWE := Lib.hid hwe
                  try dsimp only at hlt x3
                  clear hj hjn hv hl hok hwo hwi hwe hw1 hy
                  have t3 : ((k : Int) == 0) = false := by have := HJ.out; simp; omega
                  have t4 : decide ((ln : Int) < 0) = false := decide_eq_false (by omega)
                  have t5 : decide ((p.length : Int) ≤ (ln : Int)) = false := decide_eq_false (by omega)
                  have t6 : decide (p.length ≤ ln) = false := decide_eq_false (by omega)
                  have t7 : j < (doneM p s).length := by have := HJ.out; rw [HDL.out]; omega
                  have t8 : (j : Int) < ((doneM p s).length : Int) := by omega
                  go_wp2_with (go_quiet (fail))
                  refine Writes_any op r a b _ _ ?_
                  intro wc hgc
                  rw [HWO.out, HWI.out, HWE.out]
                  have HGJ := Lib.hid (Grow.trans (HGI.out.drewN _) hgc)
                  clear hgc
                  go_wp2_with fail
                  go_roundw
                  case rel => exact ⟨r + 1, by omega, by go_num, HGJ.out⟩
                  case measure => simp [intOf]; omega
              · go_wp2_with fail
                go_roundw
                case rel => exact ⟨k + 1, _, _, by omega, by go_num, rfl, Grow.trans HGR.out HGI.out, by rw [show k + 1 - 1 = k by omega]; exact HNX.out.grow HGI.out⟩
                case measure => simp [intOf]; omega
          · by_cases hke : k = (visits p s).length
            · have hnx : IntsAt wr (.slice aHN_2 4 cHN_2) (stAt p s k).toL := by
                rw [stAt_end (p := p) (s := s) (j := k) (by omega)]
                exact HN_3.out.grow HGR0.out
              have HNX := Lib.hid hnx
              have HGR := Lib.hid HGR0.out
              have HNW := Lib.hid HNW0.out
              have q1 : decide ((k : Int) ≤ ((doneM p s).length : Int)) = true := decide_eq_true (by rw [HDL.out]; omega)
              have q2 : decide ((k : Int) < ((doneM p s).length : Int)) = false := decide_eq_false (by rw [HDL.out]; omega)
              have q3 : decide (k ≤ (doneM p s).length) = true := decide_eq_true (by rw [HDL.out]; omega)
              have q4 : decide (k < (doneM p s).length) = false := decide_eq_false (by rw [HDL.out]; omega)
              have q5 : (k : Int) ≤ ((doneM p s).length : Int) := by rw [HDL.out]; omega
              have q6 : ¬ (k : Int) < ((doneM p s).length : Int) := by rw [HDL.out]; omega
              have HKE := Lib.hid hke
              have hk2 : k ≤ (visits p s).length := by omega
              clear hke hnx
              go_wp2_with fail
              go_loopw [15] (fun ir wi => ∃ r : Nat, r ≤ 4 ∧ ir = .int .i64 r ∧ Grow wr wi) (fun ir _ => 4 - (intOf ir).toNat)
              case atStart => exact ⟨0, by omega, rfl, Grow.refl _⟩
              case round =>
                obtain ⟨r, hr, rfl, hg⟩ := hrel
                have HGI := Lib.hid hg
                clear hg
                by_cases hr4 : r < 4
                · obtain ⟨b1, o1, e1, _, x1⟩ := st_at (HNW.out.grow HGI.out) hr4
                  obtain ⟨b2, o2, e2, _, x2⟩ := st_at (HNX.out.grow HGI.out) hr4
                  cases e1
                  cases e2
                  obtain ⟨y1, hy1⟩ : ∃ y, (stAt p s (k - 1)).get r = y := ⟨_, rfl⟩
                  obtain ⟨y2, hy2⟩ : ∃ y, (stAt p s k).get r = y := ⟨_, rfl⟩
                  rw [hy1] at x1
                  rw [hy2] at x2
                  have HY1 := Lib.hid hy1
                  have HY2 := Lib.hid hy2
                  clear hy1 hy2
                  by_cases hy : y1 = y2
                  · subst hy
                    go_wp2_with (go_quiet (fail))
                    go_roundw
                    case rel => exact ⟨r + 1, by omega, by go_num, HGI.out.drewN _⟩
                    case measure => simp [intOf]; omega
                  · have t1 : (y1 == y2) = false := by simpa using hy
                    obtain ⟨j, hj⟩ : ∃ j, k = j + 1 := ⟨k - 1, by
                      have : k ≠ 0 := by
                        intro h0
                        have a1 := HY1.out
                        have a2 := HY2.out
                        rw [h0] at a1 a2
                        exact hy (a1.symm.trans a2)
                      omega⟩
                    have hjn : k - 1 = j := by omega
                    have hjk : (k : Int) - 1 = (j : Int) := by omega
                    have HJ := Lib.hid hj
                    have HJN := Lib.hid hjn
                    obtain ⟨⟨ln, st⟩, hv⟩ : ∃ v, (visits p s)[j]? = some v := ⟨_, List.getElem?_eq_getElem (by omega)⟩
                    have hlt := visits_lt p s _ (List.mem_of_getElem? hv)
                    obtain ⟨⟨op, d, a, b⟩, hl⟩ : ∃ l, p[ln]? = some l := ⟨_, List.getElem?_eq_getElem hlt⟩
                    have hok := (valP_ok.1 (chk_ok.1 HCK.out).1).2 _ (List.mem_of_getElem? hl)
                    have hw : wrB op = true ∧ d = (r : Int) := by
                      refine step_only hok ln (stAt p s j) (r := (r : Int)) (by omega) (by omega) ?_
                      rw [← stAt_succ hv hl]
                      have a1 := HY1.out
                      have a2 := HY2.out
                      rw [hjn] at a1
                      rw [hj] at a2
                      rw [a1, a2]; exact fun e => hy e.symm
                    obtain ⟨hw1, rfl⟩ := hw
                    obtain ⟨b3, o3, e3, _, x3⟩ := ints_at (HDO.out.grow (Grow.trans HGR.out HGI.out)) (doneM_at p s hv)
                    cases e3
                    obtain ⟨b4, o4, e4, _, l0, l1, l2, l3⟩ := lines_at (HPP.out.grow (Grow.trans HGR.out HGI.out)) hl
                    cases e4
                    have hwo : wrO op r a b = (r : Int) := by unfold wrO wrT; rw [show vL op r a b = true from hok, hw1]; rfl
                    have hwi : wrI op r a b = true := by unfold wrI; rw [show vL op r a b = true from hok, hw1]; rfl
                    have hwe : errB (vL op r a b) = 0 := by rw [show vL op r a b = true from hok]; rfl
                    have HWO := Lib.hid hwo
                    have HWI := Lib.hid hwi
                    have HWE := Lib.hid hwe
                    try dsimp only at hlt x3
                    clear hj hjn hv hl hok hwo hwi hwe hw1 hy
                    have t3 : ((k : Int) == 0) = false := by have := HJ.out; simp; omega
                    have t4 : decide ((ln : Int) < 0) = false := decide_eq_false (by omega)
                    have t5 : decide ((p.length : Int) ≤ (ln : Int)) = false := decide_eq_false (by omega)
                    have t6 : decide (p.length ≤ ln) = false := decide_eq_false (by omega)
                    have t7 : j < (doneM p s).length := by have := HJ.out; rw [HDL.out]; omega
                    have t8 : (j : Int) < ((doneM p s).length : Int) := by omega
                    go_wp2_with (go_quiet (fail))
                    refine Writes_any op r a b _ _ ?_
                    intro wc hgc
                    rw [HWO.out, HWI.out, HWE.out]
                    have HGJ := Lib.hid (Grow.trans (HGI.out.drewN _) hgc)
                    clear hgc
                    go_wp2_with fail
                    go_roundw
                    case rel => exact ⟨r + 1, by omega, by go_num, HGJ.out⟩
                    case measure => simp [intOf]; omega
                · go_wp2_with fail
                  go_roundw
                  case rel => exact ⟨k + 1, _, _, by omega, by go_num, rfl, Grow.trans HGR.out HGI.out, by rw [show k + 1 - 1 = k by omega]; exact HNX.out.grow HGI.out⟩
                  case measure => simp [intOf]; omega
            · have q1 : decide ((k : Int) ≤ ((doneM p s).length : Int)) = false := decide_eq_false (by rw [HDL.out]; omega)
              have q3 : decide (k ≤ (doneM p s).length) = false := decide_eq_false (by rw [HDL.out]; omega)
              have q5 : ¬ (k : Int) ≤ ((doneM p s).length : Int) := by rw [HDL.out]; omega
              go_wp2_with fail
              refine known_any _ _ ?_
              intro wk hgk
              have HF := Lib.hid (HR.out _ (Grow.trans GCH3.out (Grow.trans HGR0.out hgk)))
              clear hgk
              go_wp2_with fail
              exact HF.out
      · have he0 := ifOK_err hck (doneM p s)
        have he1 := ifOK_err hck (runM p s)
        obtain ⟨e, he⟩ : ∃ z, chk p s = z := ⟨_, rfl⟩
        have HE := Lib.hid he
        clear he
        have hne : e ≠ 0 := by rw [← HE.out]; exact hck
        have t1 : (e == 0) = false := by simpa using hne
        have t2 : (e != 0) = true := by simpa using hne
        have HE0 := Lib.hid he0
        have HE1 := Lib.hid he1
        clear he0 he1 hck hne
        go_enter Try.func10, Try.ntmps10
        go_wp2_with fail
        refine long_any p _ _ (by first | exact HP_.out | exact HP_.out.grow ((Grow.refl _).alloc _) | exact HP_.out.grow (((Grow.refl _).alloc _).alloc _) | exact HP_.out.grow ((((Grow.refl _).alloc _).alloc _).alloc _) | exact HP_.out.grow (((((Grow.refl _).alloc _).alloc _).alloc _).alloc _) | exact HP_.out.grow ((Grow.refl _).drewN _)) _ ?_
        rw [HD0.out]
        go_wp2_with fail
        refine large_any s _ _ (by first | exact HS_.out | exact HS_.out.grow ((Grow.refl _).alloc _) | exact HS_.out.grow (((Grow.refl _).alloc _).alloc _) | exact HS_.out.grow ((((Grow.refl _).alloc _).alloc _).alloc _) | exact HS_.out.grow (((((Grow.refl _).alloc _).alloc _).alloc _).alloc _) | exact HS_.out.grow ((Grow.refl _).drewN _)) _ ?_
        rw [HD1.out]
        go_wp2_with fail
        refine Done_any p s _ _ _ (by first | exact HP_.out | exact HP_.out.grow ((Grow.refl _).alloc _) | exact HP_.out.grow (((Grow.refl _).alloc _).alloc _) | exact HP_.out.grow ((((Grow.refl _).alloc _).alloc _).alloc _) | exact HP_.out.grow (((((Grow.refl _).alloc _).alloc _).alloc _).alloc _) | exact HP_.out.grow ((Grow.refl _).drewN _)) (by first | exact HS_.out | exact HS_.out.grow ((Grow.refl _).alloc _) | exact HS_.out.grow (((Grow.refl _).alloc _).alloc _) | exact HS_.out.grow ((((Grow.refl _).alloc _).alloc _).alloc _) | exact HS_.out.grow (((((Grow.refl _).alloc _).alloc _).alloc _).alloc _) | exact HS_.out.grow ((Grow.refl _).drewN _)) _ ?_
        intro wz1 x1_0 hg1 hx1_0
        have hgr1 : Grow w wz1 := by first | exact hg1 | exact Grow.trans ((Grow.refl _).alloc _) hg1 | exact Grow.trans (((Grow.refl _).alloc _).alloc _) hg1 | exact Grow.trans ((((Grow.refl _).alloc _).alloc _).alloc _) hg1 | exact Grow.trans (((((Grow.refl _).alloc _).alloc _).alloc _).alloc _) hg1 | exact Grow.trans ((Grow.refl _).drewN _) hg1
        have HP_1 := Lib.hid (HP_.out.grow hgr1)
        have HS_1 := Lib.hid (HS_.out.grow hgr1)
        have GCH1 := Lib.hid hgr1
        clear hg1 hgr1 HP_ HS_
        rw [HE0.out] at hx1_0
        have hyHD_1 := hx1_0.slc encI_len
        have HD_1 := Lib.hid hyHD_1
        obtain ⟨aHD_1, cHD_1, rfl, qHD_11, qHD_12, _⟩ := hyHD_1
        clear hx1_0
        rw [HE.out]
        go_wp2_with fail
        refine Run_any p s _ _ _ (by first | exact HP_1.out | exact HP_1.out.grow ((Grow.refl _).alloc _) | exact HP_1.out.grow (((Grow.refl _).alloc _).alloc _) | exact HP_1.out.grow ((((Grow.refl _).alloc _).alloc _).alloc _) | exact HP_1.out.grow (((((Grow.refl _).alloc _).alloc _).alloc _).alloc _) | exact HP_1.out.grow ((Grow.refl _).drewN _)) (by first | exact HS_1.out | exact HS_1.out.grow ((Grow.refl _).alloc _) | exact HS_1.out.grow (((Grow.refl _).alloc _).alloc _) | exact HS_1.out.grow ((((Grow.refl _).alloc _).alloc _).alloc _) | exact HS_1.out.grow (((((Grow.refl _).alloc _).alloc _).alloc _).alloc _) | exact HS_1.out.grow ((Grow.refl _).drewN _)) _ ?_
        intro wz2 x2_0 hg2 hx2_0
        have hgr2 : Grow wz1 wz2 := by first | exact hg2 | exact Grow.trans ((Grow.refl _).alloc _) hg2 | exact Grow.trans (((Grow.refl _).alloc _).alloc _) hg2 | exact Grow.trans ((((Grow.refl _).alloc _).alloc _).alloc _) hg2 | exact Grow.trans (((((Grow.refl _).alloc _).alloc _).alloc _).alloc _) hg2 | exact Grow.trans ((Grow.refl _).drewN _) hg2
        have HP_2 := Lib.hid (HP_1.out.grow hgr2)
        have HS_2 := Lib.hid (HS_1.out.grow hgr2)
        have HD_2 := Lib.hid (HD_1.out.grow hgr2)
        have GCH2 := Lib.hid (GCH1.out.trans hgr2)
        clear hg2 hgr2 HP_1 HS_1 HD_1 GCH1
        rw [HE1.out] at hx2_0
        have hyHN_2 := hx2_0.slc encI_len
        have HN_2 := Lib.hid hyHN_2
        obtain ⟨aHN_2, cHN_2, rfl, qHN_21, qHN_22, _⟩ := hyHN_2
        clear hx2_0
        rw [HE.out]
        go_wp2_with fail
        refine known_any _ _ ?_
        intro wz3 hg3 
        have hgr3 : Grow wz2 wz3 := by first | exact hg3 | exact Grow.trans ((Grow.refl _).alloc _) hg3 | exact Grow.trans (((Grow.refl _).alloc _).alloc _) hg3 | exact Grow.trans ((((Grow.refl _).alloc _).alloc _).alloc _) hg3 | exact Grow.trans (((((Grow.refl _).alloc _).alloc _).alloc _).alloc _) hg3 | exact Grow.trans ((Grow.refl _).drewN _) hg3
        have HP_3 := Lib.hid (HP_2.out.grow hgr3)
        have HS_3 := Lib.hid (HS_2.out.grow hgr3)
        have HD_3 := Lib.hid (HD_2.out.grow hgr3)
        have HN_3 := Lib.hid (HN_2.out.grow hgr3)
        have GCH3 := Lib.hid (GCH2.out.trans hgr3)
        clear hg3 hgr3 HP_2 HS_2 HD_2 HN_2 GCH2
        go_wp2_with fail
        first | exact HR.out _ (GCH3.out) | exact HR.out _ (Grow.trans GCH3.out ((Grow.refl _).alloc _)) | exact HR.out _ (Grow.trans GCH3.out (((Grow.refl _).alloc _).alloc _)) | exact HR.out _ (Grow.trans GCH3.out ((((Grow.refl _).alloc _).alloc _).alloc _)) | exact HR.out _ (Grow.trans GCH3.out (((((Grow.refl _).alloc _).alloc _).alloc _).alloc _)) | exact HR.out _ (Grow.trans GCH3.out ((Grow.refl _).drewN _))
end Go.Proofs.Ytmaphlbmmemgcaa
