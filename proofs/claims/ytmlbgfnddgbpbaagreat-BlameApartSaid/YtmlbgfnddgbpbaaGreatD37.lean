/- The walk of the document's Apart. -/
import Derived.Test.YtmlbgfnddgbpbaaGreatD34
import Derived.Test.YtmlbgfnddgbpbaaGreatD36
import Derived.Test.YtmlbgfnddgbpbaaGreatD35
namespace Go.Proofs.YtmlbgfnddgbpbaaGreat
open Go.RowKit
open Mk Bm

theorem most_any_le {F : List Nat} : (Apt.most F 0 0).length ≤ F.length := most_len F.length 0 0 (by omega)
set_option maxRecDepth 100000 in
set_option maxHeartbeats 32000000 in
theorem r3Apart_any (f : List (List Int)) (v : Value) (w : World) (hf : FamAt w v f) (R : Ending → World → Prop) (hR : ∀ w' v, Grow w w' → IntsAt w' v (apE f) → R (.returned (.tuple #[v, .int .i64 (valF f)])) w') :
    Calls Tryz.prog 55 #[v] w R := by
  have HFM := Lib.hid hf
  unfold apE at hR
  have HR := Lib.hid hR
  obtain ⟨e, he⟩ : ∃ e, valF f = e := ⟨_, rfl⟩
  rw [he] at HR
  have HE := Lib.hid he
  obtain ⟨a, c, rfl, h1, h2⟩ := hf.out
  clear hR hf
  by_cases h0 : e = 0
  · subst h0
    have hml := masks_lt he
    obtain ⟨hl70, hall⟩ := valF_ok.1 he
    have HALL := Lib.hid hall
    have HR2 := Lib.hid (fun w' v (h : Grow w w') (h2 : IntsAt w' v (nI (Apt.most (f.map mask) 0 0))) => HR.out w' v h (by rw [ifOK_ok]; exact h2))
    clear he hall HR
    go_enter Tryz.func55, Tryz.ntmps55
    go_wp2_with fail
    refine r3Validate_any f _ _ HFM.out _ ?_
    intro w1 hg1
    rw [HE.out]
    have HG1 := Lib.hid hg1
    clear hg1
    go_wp2_with fail
    refine r3masks_any f _ _ (HFM.out.grow HG1.out) HALL.out hl70 _ ?_
    intro w3 v3 hg3 hv3
    obtain ⟨F, hFF⟩ : ∃ z, f.map mask = z := ⟨_, rfl⟩
    have hfl : F.length ≤ 70 := by rw [← hFF, List.length_map]; exact hl70
    rw [hFF] at hv3 HR2 hml
    have hv4 := hv3.slc encI_len
    have HML := Lib.hid hml
    have HG3 := Lib.hid (HG1.out.trans hg3)
    obtain ⟨a3, c3, rfl, q1, q2, jk⟩ := hv4
    have HV4 := Lib.hid (show IntsAt w3 (.slice a3 (nI F).length c3) (nI F) from ⟨a3, c3, rfl, q1, q2, jk⟩)
    rw [nI_len] at HV4 q1 ⊢
    clear hg3 hv3 jk hFF hml
    go_wp2_with fail
    go_loopw [6, 7, 8, 9] (fun out i _ _ wr => ∃ j : Nat, j ≤ F.length ∧ i = .int .i64 j ∧ Grow w3 wr ∧ wr.ownsRow w3.heap.size 3 1 out (nI ((Apt.once F).take j)).length ((nI ((Apt.once F).take j)).flatMap encI)) (fun _ i _ _ _ => F.length - (intOf i).toNat)
    case atStart => exact ⟨0, Nat.zero_le _, rfl, Grow.refl _, World.ownsRow_nil _ _ _ _⟩
    case round =>
      obtain ⟨j, hj, rfl, hg, how⟩ := hrel
      have HGJ := Lib.hid hg
      have HOJ := Lib.hid how
      have hzj := hg.sz
      clear hg how
      by_cases hjn : j < F.length
      · obtain ⟨x, hx⟩ : ∃ x, F[j]? = some x := ⟨_, List.getElem?_eq_getElem hjn⟩
        have hjn2 : (j : Int) < (F.length : Int) := by omega
        obtain ⟨xb, xo, hxa, hxb, e0⟩ := ints_at (HV4.out.grow HGJ.out) (nI_at hx)
        have hx0 : onX F j 0 = x := by rw [onX_start, List.getD_eq_getElem?_getD, hx]; rfl
        have HX0 := Lib.hid hx0
        have HTK := Lib.hid (once_take hjn)
        subst hxa
        clear hx hx0
        obtain ⟨w5, hw5⟩ : ∃ z : World, z = wr := ⟨_, rfl⟩
        rw [← hw5] at HGJ HOJ hzj e0 hxb ⊢
        clear hw5
        go_wp2_with fail
        go_loopw [8, 9] (fun xv kv wx => ∃ k : Nat, k ≤ j ∧ kv = .int .i64 k ∧ xv = .int .i64 (onX F j k : Int) ∧ wx = w5) (fun _ kv _ => j - (intOf kv).toNat)
        case atStart => exact ⟨0, Nat.zero_le _, rfl, by rw [HX0.out], rfl⟩
        case round =>
          obtain ⟨k, hk, rfl, rfl, rfl⟩ := hrel
          obtain ⟨ox, hox⟩ : ∃ z, onX F j k = z := ⟨_, rfl⟩
          rw [hox]
          have HOX := Lib.hid hox
          clear hox
          by_cases hkj : k < j
          · obtain ⟨y, hy⟩ : ∃ x, F[k]? = some x := ⟨_, List.getElem?_eq_getElem (by omega)⟩
            have hk2 : (k : Int) < (j : Int) := by omega
            have hk3 : (k : Int) < (F.length : Int) := by omega
            obtain ⟨yb, yo, hya, hyb, e1⟩ := ints_at (HV4.out.grow HGJ.out) (nI_at hy)
            cases hya
            have hs := onX_succ (i := j) hy
            rw [HOX.out] at hs
            by_cases he : y = ox
            · rw [if_pos he] at hs
              have HS := Lib.hid hs
              have t1 : ((y : Int) == (ox : Int)) = true := by rw [he]; simp
              clear hs hy he
              go_wp2_with fail
              go_roundw
              case rel => exact ⟨k + 1, by omega, by go_num, by rw [HS.out]; rfl, trivial⟩
              case measure => simp [intOf]; omega
            · rw [if_neg he] at hs
              have HS := Lib.hid hs
              have t1 : ((y : Int) == (ox : Int)) = false := beq_eq_false_iff_ne.2 (by omega)
              clear hs hy he
              go_wp2_with fail
              go_roundw
              case rel => exact ⟨k + 1, by omega, by go_num, by rw [HS.out], trivial⟩
              case measure => simp [intOf]; omega
          · have hk2 : ¬ (k : Int) < (j : Int) := by omega
            have hke : k = j := by omega
            have hox := HOX.out
            rw [hke] at hox
            have htk := HTK.out
            rw [hox] at htk
            have HTK2 := Lib.hid htk
            clear hox htk hke hkj
            have hol : (nI ((Apt.once F).take j)).length < 100000000000 := by rw [nI_len, List.length_take]; omega
            go_wp2_with (at_builtin; refine Classical.byContradiction (fun hcon => ?_))
            refine hcon ?_
            clear hcon
            refine wpList_app _ rfl (.tmp 46) (.tmp 48) 29 rfl w3.heap.size 3 Tryz.underlying29 info_int rfl (by decide) (by decide) encI encI_len encI_one _ (nI ((Apt.once F).take j)) rfl (((Grow.refl _).alloc _).owns HOJ.out) _ (ox : Int) 1 rfl (newsG _ _ (by simp) (encI (ox : Int)) _) hol (by simp; omega) ?_
            intro out2 w7 hown7 hgr7
            have HG10 := Lib.hid (show Grow w3 w7 from grown_below HOJ.out hgr7 (Nat.le_refl _) (by simp; omega) (HGJ.out.alloc _))
            have hn7 : nI ((Apt.once F).take j) ++ [(ox : Int)] = nI ((Apt.once F).take (j + 1)) := by rw [HTK2.out]; unfold nI; rw [List.map_append]; rfl
            rw [hn7] at hown7
            have HO7 := Lib.hid hown7
            clear hown7 hgr7 hn7 hol
            go_wp2_with fail
            go_roundw
            case rel => exact ⟨j + 1, by omega, by go_num, HG10.out, HO7.out⟩
            case measure => simp [intOf]; omega
      · have hjn2 : ¬ (j : Int) < (F.length : Int) := by omega
        have how := HOJ.out
        rw [List.take_of_length_le (by rw [Apt.once_len]; omega)] at how
        have HOW := Lib.hid how
        have hsl := slc_of_owns encI_len how
        obtain ⟨O, hO⟩ : ∃ z, Apt.once F = z := ⟨_, rfl⟩
        have hol : O.length = F.length := by rw [← hO, Apt.once_len]
        have hOl : ∀ x ∈ O, x < 256 := fun x hx => by
          by_cases h : x = 0
          · omega
          · rw [← hO] at hx
            have := Apt.once_sub (F := F) (p := 0) (by rw [List.drop_zero]; exact hx) h
            rw [List.drop_zero] at this
            exact HML.out x this
        have HR3 := Lib.hid (fun w' v (h : Grow w w') (h2 : IntsAt w' v (nI (Apt.most O 0 0))) => HR2.out w' v h (by rw [← Apt.once_same F, hO]; exact h2))
        rw [hO] at hsl
        have HGW := Lib.hid (HG3.out.trans HGJ.out)
        have HOL := Lib.hid hOl
        have HSL := Lib.hid hsl
        obtain ⟨ao, co, rfl, p1, p2, _⟩ := hsl
        rw [nI_len] at HSL p1 ⊢
        have ho70 : O.length ≤ 70 := by omega
        clear how hO hOl hjn hol
        have hnl : (nI O).length < 100000000000 := by rw [nI_len]; omega
        go_wp2_with (at_builtin; refine Classical.byContradiction (fun hcon => ?_))
        refine hcon ?_
        clear hcon
        refine wpList_appAll _ rfl (.tmp 50) (.tmp 51) 29 rfl wr.heap.size 3 Tryz.underlying29 info_int rfl (by decide) (by decide) encI encI_len encI_one _ [] rfl (ownsRow_empty wr 1 _ _ _ (Nat.le_refl _)) _ (nI O) rfl (by exact HSL.out.grow ((Grow.refl wr).alloc _)) (by simp; omega) (by simp) ?_
        intro v5 w5 hown5 hgr5
        rw [List.nil_append] at hown5
        have hg5 : Grow wr w5 := grown_below (ownsRow_empty wr 1 3 encI _ (Nat.le_refl _)) hgr5 (Nat.le_refl _) (by simp) ((Grow.refl wr).alloc _)
        obtain ⟨g, hgw, hsm⟩ : ∃ g, wr.heap.size ≤ g ∧ (O ≠ [] → ∃ cc, v5 = .slice (some ⟨g, 0, none⟩) (nI O).length cc ∧ RowI w5 g (nI O) ∧ g < w5.heap.size) := by
          have hrow := hown5
          rcases hown5.2 with ⟨_, h0⟩ | ⟨g1, cap1, cur1, hv, hbg, hh, _⟩
          · refine ⟨wr.heap.size, Nat.le_refl _, fun h => absurd ?_ h⟩
            rw [nI_len] at h0
            exact List.length_eq_zero_iff.1 h0
          · subst hv
            exact ⟨g1, hbg, fun _ => ⟨cap1, rfl, RowI.of_own hrow, lt_of_block hh⟩⟩
        obtain ⟨a5, c5, rfl, r1, r2, r3⟩ := slc_of_owns encI_len hown5
        rw [nI_len] at r1 hsm ⊢
        have hnil : O = [] → ∀ W, IntsAt W (.slice a5 O.length c5) (nI (smallF O)) := fun h W => by
          subst h
          refine ⟨a5, c5, rfl, r1, r2, .inl ⟨rfl, fun e => ?_⟩⟩
          rcases r3 with ⟨_, r3⟩ | ⟨_, _, r3, _⟩
          · exact r3 e
          · rw [r3] at e; cases e
        have hsm2 : O ≠ [] → a5 = some ⟨g, 0, none⟩ ∧ RowI w5 g (nI O) ∧ g < w5.heap.size := fun h => by
          obtain ⟨cc, e, k1, k2⟩ := hsm h
          cases e
          exact ⟨rfl, k1, k2⟩
        have HNIL := Lib.hid hnil
        have HSM := Lib.hid hsm2
        have HG5 := Lib.hid hg5
        have hz5 := hg5.sz
        clear hown5 hgr5 hg5 hsm hsm2 hnil r3
        obtain ⟨w4, hw4⟩ : ∃ z : World, z = wr := ⟨_, rfl⟩
        rw [← hw4] at HG5 HSL HGW hgw hz5
        clear hw4
        go_wp2_with fail
        go_loopw [11, 12] (fun iv _ wx => ∃ i : Nat, i ≤ O.length ∧ iv = .int .i64 i ∧ Grow w4 wx ∧ w5.heap.size ≤ wx.heap.size ∧ (O ≠ [] → RowI wx g (nI (smK O i 0)))) (fun iv _ _ => O.length - (intOf iv).toNat)
        case atStart => exact ⟨0, Nat.zero_le _, rfl, HG5.out, Nat.le_refl _, fun h => by rw [smK_start]; exact (HSM.out h).2.1⟩
        case round =>
          obtain ⟨i, hi, rfl, hg, hz, hro⟩ := hrel
          have HGI := Lib.hid hg
          have HRO := Lib.hid hro
          clear hg hro
          by_cases hio : i < O.length
          · obtain ⟨x, hx⟩ : ∃ x, O[i]? = some x := ⟨_, List.getElem?_eq_getElem hio⟩
            have hi2 : (i : Int) < (O.length : Int) := by omega
            have hne : O ≠ [] := fun h => by rw [h] at hio; cases hio
            obtain ⟨ha5, _, hg5⟩ := HSM.out hne
            have hx256 := HOL.out x (List.mem_of_getElem? hx)
            have HX := Lib.hid hx
            have HRO1 := Lib.hid (HRO.out hne)
            have HNE := Lib.hid hne
            subst ha5
            clear hx hne
            obtain ⟨w6, hw6⟩ : ∃ z : World, z = wr := ⟨_, rfl⟩
            rw [← hw6] at HGI HRO1 hz ⊢
            clear hw6
            go_wp2_with fail
            go_loopw [12] (fun kv wx => ∃ k : Nat, k ≤ O.length ∧ kv = .int .i64 k ∧ Grow w4 wx ∧ w5.heap.size ≤ wx.heap.size ∧ RowI wx g (nI (smK O i k))) (fun kv _ => O.length - (intOf kv).toNat)
            case atStart => exact ⟨0, Nat.zero_le _, rfl, HGI.out, hz, HRO1.out⟩
            case round =>
              obtain ⟨k, hk, rfl, hg, hz2, hro⟩ := hrel
              have HGK := Lib.hid hg
              have HRK := Lib.hid hro
              clear hg hro
              by_cases hko : k < O.length
              · obtain ⟨y, hy⟩ : ∃ x, O[k]? = some x := ⟨_, List.getElem?_eq_getElem hko⟩
                have hk2 : (k : Int) < (O.length : Int) := by omega
                obtain ⟨yb, yo, hya, hyb, e1⟩ := ints_at (HSL.out.grow HGK.out) (nI_at hy)
                obtain ⟨_, _, hxa, _, e0⟩ := ints_at (HSL.out.grow HGK.out) (nI_at HX.out)
                rw [hya] at hxa
                cases hxa
                subst hya
                have hy256 := HOL.out y (List.mem_of_getElem? hy)
                have hand := Mk.bits_and y x (by omega) (by omega)
                have HNO := Lib.hid (fun hc => smK_no HX.out hy hc)
                have HYE := Lib.hid (fun hc => smK_yes HX.out hy hc)
                have hsl : i < (nI (smK O i k)).length := by rw [nI_len, smK_len]; exact hio
                obtain ⟨hcl, hfr⟩ := HRK.out i _ (List.getElem?_eq_getElem hsl)
                have hst := HRK.out.set hsl 0
                have HST := Lib.hid hst
                obtain ⟨z, hz0⟩ : ∃ z, y &&& x = z := ⟨_, rfl⟩
                rw [hz0] at hand HNO HYE
                clear hy hz0 hst
                have hgg : g < wr.heap.size := by omega
                by_cases c1 : y = 0
                · have t1 : ((y : Int) != 0) = false := by rw [c1]; rfl
                  have HRN := Lib.hid (HNO.out (by simp [c1]))
                  clear c1 hcl
                  go_wp2_with (go_quiet (fail))
                  go_roundw
                  case rel => exact ⟨k + 1, by omega, by go_num, HGK.out.trans ((Grow.refl wr).drewN _), Nat.le_trans hz2 ((Grow.refl wr).drewN _).sz, by rw [HRN.out]; exact HRK.out.grow ((Grow.refl wr).drewN _) hgg⟩
                  case measure => simp [intOf]; omega
                have t1 : ((y : Int) != 0) = true := bne_iff_ne.2 (by omega)
                by_cases c2 : y = x
                · have t2 : ((y : Int) != (x : Int)) = false := by rw [c2]; simp
                  have HRN := Lib.hid (HNO.out (by simp [c2]))
                  clear c1 c2 hcl
                  go_wp2_with (go_quiet (fail))
                  go_roundw
                  case rel => exact ⟨k + 1, by omega, by go_num, HGK.out.trans ((Grow.refl wr).drewN _), Nat.le_trans hz2 ((Grow.refl wr).drewN _).sz, by rw [HRN.out]; exact HRK.out.grow ((Grow.refl wr).drewN _) hgg⟩
                  case measure => simp [intOf]; omega
                have t2 : ((y : Int) != (x : Int)) = true := bne_iff_ne.2 (by omega)
                by_cases c3 : z = y
                rotate_left
                · have t3 : ((z : Int) == (y : Int)) = false := beq_eq_false_iff_ne.2 (by omega)
                  have HRN := Lib.hid (HNO.out (by simp [c3]))
                  clear c1 c2 c3 hcl
                  go_wp2_with (go_quiet (fail))
                  go_roundw
                  case rel => exact ⟨k + 1, by omega, by go_num, HGK.out.trans ((Grow.refl wr).drewN _), Nat.le_trans hz2 ((Grow.refl wr).drewN _).sz, by rw [HRN.out]; exact HRK.out.grow ((Grow.refl wr).drewN _) hgg⟩
                  case measure => simp [intOf]; omega
                have t3 : ((z : Int) == (y : Int)) = true := by rw [c3]; simp
                have hyy := HYE.out (by simp [c1, c2, c3])
                have HA3 := Lib.hid (fun (W9 : World) (h : Grow wr W9) => show Grow w4 (W9.setCell ⟨g, i, none⟩ (.int .i64 0)) ∧ w5.heap.size ≤ (W9.setCell ⟨g, i, none⟩ (.int .i64 0)).heap.size ∧ RowI (W9.setCell ⟨g, i, none⟩ (.int .i64 0)) g (nI (smK O i (k + 1))) from by
                  refine ⟨Below.setCell (HGK.out.trans h) hgw _, by rw [World.size_setCell]; exact Nat.le_trans hz2 h.sz, ?_⟩
                  have h9 := (HRK.out.grow h hgg).set hsl 0
                  rw [← hyy]
                  unfold nI at h9 ⊢
                  rw [List.map_set]
                  exact h9)
                clear c1 c2 c3 hyy
                go_wp2_with (go_quiet (fail))
                go_roundw
                case rel => exact ⟨k + 1, by omega, by go_num, (HA3.out _ ((Grow.refl wr).drewN _)).1, (HA3.out _ ((Grow.refl wr).drewN _)).2.1, (HA3.out _ ((Grow.refl wr).drewN _)).2.2⟩
                case measure => simp [intOf]; omega
              · have hk2 : ¬ (k : Int) < (O.length : Int) := by omega
                have hke : k = O.length := by omega
                have hro := HRK.out
                rw [hke, smK_next] at hro
                have HRF := Lib.hid hro
                clear hro hke hko
                go_wp2_with fail
                go_roundw
                case rel => exact ⟨i + 1, by omega, by go_num, HGK.out, hz2, fun _ => HRF.out⟩
                case measure => simp [intOf]; omega
          · have hi2 : ¬ (i : Int) < (O.length : Int) := by omega
            have hie : i = O.length := by omega
            have hsm : IntsAt wr (.slice a5 O.length c5) (nI (smallF O)) := by
              by_cases h : O = []
              · exact HNIL.out h wr
              · obtain ⟨e, _, hg5⟩ := HSM.out h
                have hr := HRO.out h
                rw [hie, smK_end] at hr
                subst e
                have := hr.ints (c := c5) (by omega) (by rw [nI_len]; unfold smallF; rw [List.length_map]; exact r1) r2
                rw [nI_len] at this
                unfold smallF at this ⊢
                rw [List.length_map] at this
                exact this
            have HSF := Lib.hid hsm
            clear hsm hie hio
            go_wp2_with fail
            rw [zero_cast]
            refine rmost_any (smallF O) (smallF_lt HOL.out) 0 (by omega) _ _ HSF.out _ ?_
            intro w7 t hg7 htab
            rw [need_is HOL.out htab]
            have hml := most_any_le (F := O)
            have HG7 := Lib.hid (HGI.out.trans hg7)
            clear htab hg7
            obtain ⟨M, hM⟩ : ∃ z, Apt.most O 0 0 = z := ⟨_, rfl⟩
            rw [hM] at HR3 hml ⊢
            have HM := Lib.hid hM
            have HS7 := Lib.hid (HSL.out.grow HG7.out)
            have HGW7 := Lib.hid (HGW.out.trans HG7.out)
            clear hM
            go_wp2_with fail
            clear hgw hz5 HG5 HNIL HSM
            go_loopw [14, 15, 16, 17] (fun ov tv fv _ wx => ∃ (L : List Int) (u p : Nat), u < 256 ∧ p ≤ O.length ∧ tv = .int .i64 u ∧ fv = .int .i64 p ∧ Grow w7 wx ∧ wx.ownsRow w7.heap.size 3 1 ov L.length (L.flatMap encI) ∧ L ++ nI (Apt.most O p u) = nI M) (fun _ _ fv _ _ => O.length - (intOf fv).toNat)
            case atStart => exact ⟨[], 0, 0, by omega, Nat.zero_le _, rfl, rfl, Grow.refl _, World.ownsRow_nil _ _ _ _, by rw [HM.out]; rfl⟩
            case round =>
              obtain ⟨L, u, p, hu, hp, rfl, rfl, hg, how, hlm⟩ := hrel
              have HGO := Lib.hid hg
              have HOW2 := Lib.hid how
              have HLM := Lib.hid hlm
              have hlen : L.length + (Apt.most O p u).length = M.length := by
                have := congrArg List.length hlm
                rwa [List.length_append, nI_len, nI_len] at this
              obtain ⟨a8, c8, rfl, s1, s2, jk⟩ := slc_of_owns encI_len how
              have HV8 := Lib.hid (show IntsAt wr (.slice a8 L.length c8) L from ⟨a8, c8, rfl, s1, s2, jk⟩)
              clear hg how hlm jk
              by_cases hlt : L.length < M.length
              · have hlt2 : (L.length : Int) < (M.length : Int) := by omega
                obtain ⟨Q, hQ⟩ : ∃ z, Apt.most O p u = z := ⟨_, rfl⟩
                rw [hQ] at hlen HLM
                have HQ := Lib.hid hQ
                clear hQ
                obtain ⟨w8, hw8⟩ : ∃ z : World, z = wr := ⟨_, rfl⟩
                rw [← hw8] at HGO HOW2 HV8 ⊢
                clear hw8
                go_wp2_with fail
                go_loopw [14, 15, 16, 17] (fun ov tv fv iv wx => ∃ i : Nat, p ≤ i ∧ i ≤ O.length ∧ iv = .int .i64 i ∧ ov = .slice a8 L.length c8 ∧ tv = .int .i64 u ∧ fv = .int .i64 p ∧ Grow w8 wx ∧ Apt.most O i u = Q) (fun _ _ _ iv _ => O.length - (intOf iv).toNat)
                case atStart => exact ⟨p, Nat.le_refl _, hp, rfl, rfl, rfl, rfl, Grow.refl _, HQ.out⟩
                case round =>
                  obtain ⟨i, hpi, hi, rfl, rfl, rfl, rfl, hg, hmq⟩ := hrel
                  have HGI2 := Lib.hid hg
                  have HMQ := Lib.hid hmq
                  clear hg hmq
                  by_cases hio : i < O.length
                  · obtain ⟨x, hx⟩ : ∃ x, O[i]? = some x := ⟨_, List.getElem?_eq_getElem hio⟩
                    have hi2 : (i : Int) < (O.length : Int) := by omega
                    obtain ⟨yb, yo, hya, hyb, e0⟩ := ints_at (HS7.out.grow (HGO.out.trans HGI2.out)) (nI_at hx)
                    subst hya
                    have hx256 := HOL.out x (List.mem_of_getElem? hx)
                    have hand := Mk.bits_and x u (by omega) (by omega)
                    have hor := Mk.bits_or u x hu hx256
                    have HX := Lib.hid hx
                    obtain ⟨z, hz0⟩ : ∃ z, x &&& u = z := ⟨_, rfl⟩
                    rw [hz0] at hand
                    have HZ0 := Lib.hid hz0
                    clear hx hz0
                    by_cases c1 : x = 0
                    · have t1 : ((x : Int) == 0) = true := by rw [c1]; rfl
                      have HSK := Lib.hid (gr_skip HMQ.out HX.out fun h => h.1 c1)
                      have HGD := Lib.hid (fun nq => HGI2.out.trans ((Grow.refl wr).drewN nq))
                      clear c1
                      go_wp2_with (go_quiet (fail))
                      go_roundw
                      case rel => exact ⟨i + 1, by omega, by omega, by go_num, rfl, rfl, rfl, (by first | exact HGI2.out | exact HGD.out _), HSK.out⟩
                      case measure => simp [intOf]; omega
                    have t1 : ((x : Int) == 0) = false := beq_eq_false_iff_ne.2 (by omega)
                    by_cases c2 : z = 0
                    rotate_left
                    · have t2 : ((z : Int) != 0) = true := bne_iff_ne.2 (by omega)
                      have HSK := Lib.hid (gr_skip HMQ.out HX.out fun h => c2 (by rw [← HZ0.out]; exact h.2))
                      have HGD := Lib.hid (fun nq => HGI2.out.trans ((Grow.refl wr).drewN nq))
                      clear c1 c2
                      go_wp2_with (go_quiet (fail))
                      go_roundw
                      case rel => exact ⟨i + 1, by omega, by omega, by go_num, rfl, rfl, rfl, (by first | exact HGI2.out | exact HGD.out _), HSK.out⟩
                      case measure => simp [intOf]; omega
                    have t2 : ((z : Int) != 0) = false := by rw [c2]; rfl
                    have HZ1 := Lib.hid (HZ0.out.trans c2)
                    have HC1 := Lib.hid c1
                    clear c1 c2
                    go_wp2_with (go_quiet (fail))
                    have hwi : IntKind.i64.wrap ((i : Int) + 1) = ((i + 1 : Nat) : Int) := by rw [IntWalk.i64_in _ (by omega)]; omega
                    have hw1 : IntKind.i64.wrap ((M.length : Int) - (L.length : Int)) = (M.length : Int) - (L.length : Int) := IntWalk.i64_in _ (by omega)
                    have hw2 : IntKind.i64.wrap ((M.length : Int) - (L.length : Int) - 1) = (M.length : Int) - (L.length : Int) - 1 := IntWalk.i64_in _ (by omega)
                    obtain ⟨w9a, hw9a⟩ : ∃ z : World, z = wr := ⟨_, rfl⟩
                    rw [← hw9a] at HGI2 e0 hyb ⊢
                    clear hw9a
                    refine wp_region_held_drew (S := fun X => Grow w9a X) (by kernel_rfl) ((Grow.refl w9a).drew) (fun hH => ?_)
                    refine wpAnyH_take (i := 0) (v := .slice (some ⟨yb, yo, none⟩) O.length co) rfl (by kernel_rfl) (by kernel_rfl) (by kernel_rfl) (fun _ _ _ h => h) (Or.inl ⟨by rfl, ?_⟩) hH ?_
                    · intro w9 hw9
                      go_simp
                    try simp only [List.getElem_toArray, List.getElem_cons_zero, Act.put, List.setIfInBounds_toArray, List.set_cons_zero, List.set_cons_succ]
                    refine wpAnyH_take (i := 1) (v := .int .i64 (i : Int)) rfl (by kernel_rfl) (by kernel_rfl) (by kernel_rfl) (fun _ _ _ h => h) (Or.inl ⟨by rfl, ?_⟩) hH ?_
                    · intro w9 hw9
                      go_simp
                    try simp only [List.getElem_toArray, List.getElem_cons_succ, List.getElem_cons_zero, Act.put, List.setIfInBounds_toArray, List.set_cons_zero, List.set_cons_succ]
                    refine wpAnyH_take (i := 2) (v := .int .i64 ((i + 1 : Nat) : Int)) rfl (by kernel_rfl) (by kernel_rfl) (by kernel_rfl) (fun _ _ _ h => h) (Or.inl ⟨by rfl, ?_⟩) hH ?_
                    · intro w9 hw9
                      go_simp
                    try simp only [List.getElem_toArray, List.getElem_cons_succ, List.getElem_cons_zero, Act.put, List.setIfInBounds_toArray, List.set_cons_zero, List.set_cons_succ]
                    refine wpAnyH_take (i := 4) (v := .int .i64 (u : Int)) rfl (by kernel_rfl) (by kernel_rfl) (by kernel_rfl) (fun _ _ _ h => h) (Or.inl ⟨by rfl, ?_⟩) hH ?_
                    · intro w9 hw9
                      go_simp
                    try simp only [List.getElem_toArray, List.getElem_cons_succ, List.getElem_cons_zero, Act.put, List.setIfInBounds_toArray, List.set_cons_zero, List.set_cons_succ]
                    refine wpAnyH_take (i := 5) (v := .slice (some ⟨yb, yo, none⟩) O.length co) rfl (by kernel_rfl) (by kernel_rfl) (by kernel_rfl) (fun _ _ _ h => h) (Or.inl ⟨by rfl, ?_⟩) hH ?_
                    · intro w9 hw9
                      go_simp
                    try simp only [List.getElem_toArray, List.getElem_cons_succ, List.getElem_cons_zero, Act.put, List.setIfInBounds_toArray, List.set_cons_zero, List.set_cons_succ]
                    refine wpAnyH_take (i := 6) (v := .int .i64 (i : Int)) rfl (by kernel_rfl) (by kernel_rfl) (by kernel_rfl) (fun _ _ _ h => h) (Or.inl ⟨by rfl, ?_⟩) hH ?_
                    · intro w9 hw9
                      go_simp
                    try simp only [List.getElem_toArray, List.getElem_cons_succ, List.getElem_cons_zero, Act.put, List.setIfInBounds_toArray, List.set_cons_zero, List.set_cons_succ]
                    refine wpAnyH_take (i := 7) (v := .pointer (some ⟨yb, yo + i, none⟩)) rfl (by kernel_rfl) (by kernel_rfl) (by kernel_rfl) (fun _ _ _ h => h) (Or.inl ⟨by rfl, ?_⟩) hH ?_
                    · intro w9 hw9
                      have hz9 := hw9.sz
                      go_simp
                    try simp only [List.getElem_toArray, List.getElem_cons_succ, List.getElem_cons_zero, Act.put, List.setIfInBounds_toArray, List.set_cons_zero, List.set_cons_succ]
                    refine wpAnyH_take (i := 8) (v := .int .i64 (x : Int)) rfl (by kernel_rfl) (by kernel_rfl) (by kernel_rfl) (fun _ _ _ h => h) (Or.inl ⟨by rfl, ?_⟩) hH ?_
                    · intro w9 hw9
                      have hz9 := hw9.sz
                      have c9 := hw9.cell e0
                      go_simp
                    try simp only [List.getElem_toArray, List.getElem_cons_succ, List.getElem_cons_zero, Act.put, List.setIfInBounds_toArray, List.set_cons_zero, List.set_cons_succ]
                    refine wpAnyH_take (i := 9) (v := .int .i64 ((u ||| x : Nat) : Int)) rfl (by kernel_rfl) (by kernel_rfl) (by kernel_rfl) (fun _ _ _ h => h) (Or.inl ⟨by rfl, ?_⟩) hH ?_
                    · intro w9 hw9
                      go_simp
                    try simp only [List.getElem_toArray, List.getElem_cons_succ, List.getElem_cons_zero, Act.put, List.setIfInBounds_toArray, List.set_cons_zero, List.set_cons_succ]
                    refine wpAnyH_take (i := 11) (v := .int .i64 (M.length : Int)) rfl (by kernel_rfl) (by kernel_rfl) (by kernel_rfl) (fun _ _ _ h => h) (Or.inl ⟨by rfl, ?_⟩) hH ?_
                    · intro w9 hw9
                      go_simp
                    try simp only [List.getElem_toArray, List.getElem_cons_succ, List.getElem_cons_zero, Act.put, List.setIfInBounds_toArray, List.set_cons_zero, List.set_cons_succ]
                    refine wpAnyH_take (i := 12) (v := .slice a8 L.length c8) rfl (by kernel_rfl) (by kernel_rfl) (by kernel_rfl) (fun _ _ _ h => h) (Or.inl ⟨by rfl, ?_⟩) hH ?_
                    · intro w9 hw9
                      go_simp
                    try simp only [List.getElem_toArray, List.getElem_cons_succ, List.getElem_cons_zero, Act.put, List.setIfInBounds_toArray, List.set_cons_zero, List.set_cons_succ]
                    refine wpAnyH_take (i := 13) (v := .int .i64 (L.length : Int)) rfl (by kernel_rfl) (by kernel_rfl) (by kernel_rfl) (fun _ _ _ h => h) (Or.inl ⟨by rfl, ?_⟩) hH ?_
                    · intro w9 hw9
                      go_simp
                    try simp only [List.getElem_toArray, List.getElem_cons_succ, List.getElem_cons_zero, Act.put, List.setIfInBounds_toArray, List.set_cons_zero, List.set_cons_succ]
                    refine wpAnyH_take (i := 14) (v := .int .i64 ((M.length : Int) - (L.length : Int))) rfl (by kernel_rfl) (by kernel_rfl) (by kernel_rfl) (fun _ _ _ h => h) (Or.inl ⟨by rfl, ?_⟩) hH ?_
                    · intro w9 hw9
                      go_simp
                    try simp only [List.getElem_toArray, List.getElem_cons_succ, List.getElem_cons_zero, Act.put, List.setIfInBounds_toArray, List.set_cons_zero, List.set_cons_succ]
                    refine wpAnyH_take (i := 15) (v := .int .i64 ((M.length : Int) - (L.length : Int) - 1)) rfl (by kernel_rfl) (by kernel_rfl) (by kernel_rfl) (fun _ _ _ h => h) (Or.inl ⟨by rfl, ?_⟩) hH ?_
                    · intro w9 hw9
                      go_simp
                    try simp only [List.getElem_toArray, List.getElem_cons_succ, List.getElem_cons_zero, Act.put, List.setIfInBounds_toArray, List.set_cons_zero, List.set_cons_succ]
                    refine wpAnyH_ready (rs := [3]) (by kernel_rfl) (by simp) ?_
                    refine AllReadyH.cons rfl (fun K hK => ?_) AllReadyH.nil
                    go_simp
                    refine rbehind_any O (i + 1) (by omega) ho70 _ _ (HS7.out.grow (HGO.out.trans (HGI2.out.trans hH))) _ ?_
                    intro wx vb hgx hvb
                    have HVB := Lib.hid hvb
                    obtain ⟨ab, cb, rfl, _⟩ := hvb
                    have hHx : Grow w9a wx := Grow.trans hH hgx
                    have HHX := Lib.hid hHx
                    clear hgx
                    go_wp2_with fail
                    refine hK.out _ _ hHx (fun hH2 => ?_)
                    clear hK K hH hHx
                    have hH := hH2
                    clear hH2
                    try simp only [List.getElem_toArray, List.getElem_cons_succ, List.getElem_cons_zero, Act.put, List.setIfInBounds_toArray, List.set_cons_zero, List.set_cons_succ]
                    refine wpAnyH_ready (rs := [10]) (by kernel_rfl) (by simp) ?_
                    refine AllReadyH.cons rfl (fun K hK => ?_) AllReadyH.nil
                    go_simp
                    refine rmost_any (beh O (i + 1)) (beh_lt HOL.out (i + 1)) (u ||| x) (or_lt8 hu hx256) _ _ HVB.out _ ?_
                    intro wy tt hgy htab
                    rw [Apt.tab_most htab (beh_lt HOL.out (i + 1)) (or_lt8 hu hx256) (fun q hq => beh_mem hq)]
                    obtain ⟨nn, hnn⟩ : ∃ z, (Apt.most O (i + 1) (u ||| x)).length = z := ⟨_, rfl⟩
                    rw [hnn]
                    have HNN := Lib.hid hnn
                    have hHy : Grow w9a wy := Grow.trans hH hgy
                    have HHY := Lib.hid hHy
                    clear hgy htab hnn
                    go_wp2_with fail
                    refine hK.out _ _ hHy (fun hH2 => ?_)
                    clear hK K hH hHy
                    have hH := hH2
                    clear hH2
                    try simp only [List.getElem_toArray, List.getElem_cons_succ, List.getElem_cons_zero, Act.put, List.setIfInBounds_toArray, List.set_cons_zero, List.set_cons_succ]
                    have HGY := Lib.hid (HGI2.out.trans HHY.out)
                    have hll : (nI (Apt.most O p u)).length + L.length < 100000000000 := by rw [nI_len, HQ.out]; omega
                    by_cases c3 : nn + 1 = Q.length
                    rotate_left
                    · have t3 : ((nn : Int) == (M.length : Int) - (L.length : Int) - 1) = false := beq_eq_false_iff_ne.2 (by omega)
                      have HNX := Lib.hid (gr_no HMQ.out HX.out HC1.out HZ1.out (by rw [HNN.out]; exact c3))
                      refine wpAnyH_take (i := 16) (v := .bool false) rfl (by kernel_rfl) (by kernel_rfl) (by kernel_rfl) (fun _ _ _ h => h) (Or.inl ⟨by rfl, ?_⟩) hH ?_
                      · intro w9 hw9
                        go_simp
                      try simp only [List.getElem_toArray, List.getElem_cons_succ, List.getElem_cons_zero, Act.put, List.setIfInBounds_toArray, List.set_cons_zero, List.set_cons_succ]
                      refine wpAnyH_done (by kernel_rfl) ?_ _
                      clear hH c3 e0
                      go_wp2_with fail
                      go_roundw
                      case rel => exact ⟨i + 1, by omega, by omega, by go_num, rfl, rfl, rfl, HGY.out, HNX.out⟩
                      case measure => simp [intOf]; omega
                    have t3 : ((nn : Int) == (M.length : Int) - (L.length : Int) - 1) = true := beq_iff_eq.2 (by omega)
                    have HYE := Lib.hid (gr_yes HMQ.out HX.out HC1.out HZ1.out (by rw [HNN.out]; exact c3))
                    refine wpAnyH_take (i := 16) (v := .bool true) rfl (by kernel_rfl) (by kernel_rfl) (by kernel_rfl) (fun _ _ _ h => h) (Or.inl ⟨by rfl, ?_⟩) hH ?_
                    · intro w9 hw9
                      go_simp
                    try simp only [List.getElem_toArray, List.getElem_cons_succ, List.getElem_cons_zero, Act.put, List.setIfInBounds_toArray, List.set_cons_zero, List.set_cons_succ]
                    refine wpAnyH_done (by kernel_rfl) ?_ _
                    clear hH c3
                    have e5 := HHY.out.cell e0
                    have hyb5 : yb < wy.heap.size := Nat.lt_of_lt_of_le hyb HHY.out.sz
                    have HG8 := Lib.hid (HGO.out.trans HGY.out)
                    have hz8 := HG8.out.sz
                    have HO8 := Lib.hid (HGY.out.owns HOW2.out)
                    clear e0
                    go_wp2_with (at_builtin; refine Classical.byContradiction (fun hcon => ?_))
                    refine hcon ?_
                    clear hcon
                    refine wpList_app _ rfl (.tmp 144) (.tmp 146) 29 rfl w7.heap.size 3 Tryz.underlying29 info_int rfl (by decide) (by decide) encI encI_len encI_one _ L rfl (((Grow.refl _).alloc _).owns HO8.out) _ (i : Int) 1 rfl (newsG _ _ (by simp) (encI (i : Int)) _) (by omega) (by simp; omega) ?_
                    intro out2 w10 hown10 hgr10
                    have HG10 := Lib.hid (show Grow w7 w10 from grown_below HO8.out hgr10 (Nat.le_refl _) (by simp; omega) (HG8.out.alloc _))
                    have HO10 := Lib.hid hown10
                    have HLL := Lib.hid (show (L ++ [(i : Int)]) ++ nI (Apt.most O (i + 1) (u ||| x)) = nI M by
                        rw [List.append_assoc, ← HLM.out]; congr 1; rw [HYE.out]; rfl)
                    have HG11 := HG10.out
                    have hs7 := HS7.out.grow HG10.out
                    have e6 := ints_at hs7 (nI_at HX.out)
                    obtain ⟨_, _, hya2, hyb6, e7⟩ := e6
                    cases hya2
                    clear hown10 hgr10 e5 hyb5 hs7 HG11
                    go_wp2_with fail
                    go_roundw
                    case rel => exact ⟨L ++ [(i : Int)], u ||| x, i + 1, or_lt8 hu hx256, by omega, by go_num, by go_num, HG10.out, HO10.out, HLL.out⟩
                    case measure => simp [intOf]; omega
                  · have hie : i = O.length := by omega
                    have hmq := HMQ.out
                    rw [Apt.most_end (by omega)] at hmq
                    rw [← hmq] at hlen
                    simp at hlen
                    omega
              · have hlt2 : ¬ (L.length : Int) < (M.length : Int) := by omega
                have hm0 : Apt.most O p u = [] := List.length_eq_zero_iff.1 (by omega)
                have hlm := HLM.out
                rw [hm0, show nI [] = [] from rfl, List.append_nil] at hlm
                have HF := Lib.hid (HR3.out wr _ (HGW7.out.trans HGO.out) (by rw [← hlm]; exact HV8.out))
                clear hlm hm0 hlen hlt
                go_wp2_with fail
                exact HF.out
  · have t1 : (e != 0) = true := by simpa using h0
    have HF := Lib.hid (fun w' h => HR.out w' (.slice none 0 0) h (by rw [ifOK_err h0]; exact SlcAt.nil _ _ _))
    clear h0 he
    go_enter Tryz.func55, Tryz.ntmps55
    go_wp2_with fail
    refine r3Validate_any f _ _ HFM.out _ ?_
    intro w1 hg1
    rw [HE.out]
    have HF2 := Lib.hid (HF.out w1 hg1)
    clear hg1
    go_wp2_with fail
    exact HF2.out
end Go.Proofs.YtmlbgfnddgbpbaaGreat
