/- The walks of the document's answer to layer 2: which tests fail. -/
import Derived.Test.YtmlbgfnddgbpbaaGreatD03
namespace Go.Proofs.YtmlbgfnddgbpbaaGreat
open Go.RowKit

set_option maxRecDepth 100000 in
set_option maxHeartbeats 16000000 in
theorem r2sorted_any (p : List Ln) (ts : List Tst) (pv tv : Value) (w : World) (hp : LinesAt w pv p) (ht : TestsAt w tv ts) (R : Ending → World → Prop)
    (hR : ∀ w' v, Grow w w' → IntsAt w' v (ifOK (chkT p ts) (whereL (fun t => !passM p t) ts)) → R (.returned (.tuple #[v, .int .i64 (chkT p ts)])) w') :
    Calls Tryz.prog 149 #[pv, tv, .bool false] w R := by
  have HP := Lib.hid hp
  have HT := Lib.hid ht
  obtain ⟨e, he⟩ : ∃ e, chkT p ts = e := ⟨_, rfl⟩
  rw [he] at hR
  have HR := Lib.hid hR
  have HE := Lib.hid he
  obtain ⟨pa, pc, rfl, _⟩ := hp
  obtain ⟨⟨ta, tc, rfl, t1', t2', _⟩, _⟩ := ht
  clear hR
  by_cases h0 : e = 0
  rotate_left
  · have t1 : (e != 0) = true := by simpa using h0
    have HF := Lib.hid (fun w' h => HR.out w' (.slice none 0 0) h (by rw [ifOK_err h0]; exact SlcAt.nil _ _ _))
    clear h0 he
    go_enter Tryz.func149, Tryz.ntmps149
    go_wp2_with fail
    refine r2tested_any p ts _ _ _ HP.out HT.out _ ?_
    intro w1 hg1
    rw [HE.out]
    have HF2 := Lib.hid (HF.out w1 hg1)
    clear hg1
    go_wp2_with fail
    exact HF2.out
  subst h0
  obtain ⟨hval, htv⟩ := chkT_ok.1 he
  obtain ⟨ht8, htok⟩ := valT_ok.1 htv
  have HVAL := Lib.hid hval
  have HTOK := Lib.hid htok
  clear he hval htv htok
  go_enter Tryz.func149, Tryz.ntmps149
  go_wp2_with fail
  refine r2tested_any p ts _ _ _ HP.out HT.out _ ?_
  intro w1 hg1
  rw [HE.out]
  have HG1 := Lib.hid hg1
  clear hg1
  go_wp2_with fail
  go_loopw [9, 10] (fun out i wr => ∃ k : Nat, k ≤ ts.length ∧ i = .int .i64 k ∧ Grow w1 wr ∧ wr.ownsRow w1.heap.size 3 1 out (whereN (fun t => !passM p t) ts k).length ((whereN (fun t => !passM p t) ts k).flatMap encI)) (fun _ i _ => ts.length - (intOf i).toNat)
  case atStart => exact ⟨0, Nat.zero_le _, rfl, Grow.refl _, World.ownsRow_nil _ _ _ _⟩
  case round =>
    obtain ⟨k, hk, rfl, hg, how⟩ := hrel
    have HG := Lib.hid hg
    have HO := Lib.hid how
    have hzw := hg.sz
    clear hg how
    by_cases hlt : k < ts.length
    · obtain ⟨t, htk⟩ : ∃ t, ts[k]? = some t := ⟨_, List.getElem?_eq_getElem hlt⟩
      have HWS := Lib.hid (whereN_succ (f := fun t => !passM p t) htk)
      have hto := HTOK.out t (List.mem_of_getElem? htk)
      have hti := (HT.out.grow (HG1.out.trans HG.out)).ins _ (List.mem_of_getElem? htk)
      obtain ⟨gt, ot, hta, hgt, f0, f1, f2⟩ := tests_at (HT.out.grow (HG1.out.trans HG.out)).at_ htk
      subst hta
      have HPM := Lib.hid (show passM p t = decide (endM p t.xs t.o = t.wt) from rfl)
      obtain ⟨v, xs, o, wt⟩ := t
      obtain ⟨m1, ⟨m2, m3⟩, _⟩ := Tst.ok_iff.1 hto
      have HCK := Lib.hid (chk_ok.2 ⟨HVAL.out, m1⟩)
      obtain ⟨sa, sc, hve, s1, s2, s3⟩ := hti
      dsimp only at f0 f1 f2 hve HPM HWS HCK m2 m3
      subst hve
      have HTI := Lib.hid (show IntsAt wr (.slice sa xs.length sc) xs from ⟨sa, sc, rfl, s1, s2, s3⟩)
      have hk2 : (k : Int) < (ts.length : Int) := by omega
      have HPR := Lib.hid (HP.out.grow (HG1.out.trans HG.out))
      obtain ⟨q, hq⟩ : ∃ q, endM p xs o = q := ⟨_, rfl⟩
      rw [hq] at HPM
      have HQ := Lib.hid hq
      have F0 := Lib.hid f0
      have F1 := Lib.hid f1
      have F2 := Lib.hid f2
      have HLB := Lib.hid (show (whereN (fun t => !passM p t) ts k).length < 100000000000 by have := whereN_len (fun t => !passM p t) ts k; omega)
      clear htk hto m1 s3 f0 f1 f2 hq
      go_wp2_with fail
      refine wp_region_held_drew (S := fun X => Grow wr X) (by kernel_rfl) ((Grow.refl wr).drew) (fun hH => ?_)
      refine wpAnyH_take (i := 0) (v := .slice pa p.length pc) rfl (by kernel_rfl) (by kernel_rfl) (by kernel_rfl) (fun _ _ _ h => h) (Or.inl ⟨by rfl, ?_⟩) hH ?_
      · intro w9 hw9
        go_simp
      try simp only [List.getElem_toArray, List.getElem_cons_zero, Act.put, List.setIfInBounds_toArray, List.set_cons_zero, List.set_cons_succ]
      refine wpAnyH_take (i := 1) (v := .slice (some ⟨gt, ot, none⟩) ts.length tc) rfl (by kernel_rfl) (by kernel_rfl) (by kernel_rfl) (fun _ _ _ h => h) (Or.inl ⟨by rfl, ?_⟩) hH ?_
      · intro w9 hw9
        go_simp
      try simp only [List.getElem_toArray, List.getElem_cons_succ, List.getElem_cons_zero, Act.put, List.setIfInBounds_toArray, List.set_cons_zero, List.set_cons_succ]
      refine wpAnyH_take (i := 2) (v := .int .i64 (k : Int)) rfl (by kernel_rfl) (by kernel_rfl) (by kernel_rfl) (fun _ _ _ h => h) (Or.inl ⟨by rfl, ?_⟩) hH ?_
      · intro w9 hw9
        go_simp
      try simp only [List.getElem_toArray, List.getElem_cons_succ, List.getElem_cons_zero, Act.put, List.setIfInBounds_toArray, List.set_cons_zero, List.set_cons_succ]
      refine wpAnyH_take (i := 3) (v := .pointer (some ⟨gt, ot + k * 3, none⟩)) rfl (by kernel_rfl) (by kernel_rfl) (by kernel_rfl) (fun _ _ _ h => h) (Or.inl ⟨by rfl, ?_⟩) hH ?_
      · intro w9 hw9
        have hz := hw9.sz
        go_simp
      try simp only [List.getElem_toArray, List.getElem_cons_succ, List.getElem_cons_zero, Act.put, List.setIfInBounds_toArray, List.set_cons_zero, List.set_cons_succ]
      refine wpAnyH_take (i := 4) (v := .pointer (some ⟨gt, ot + k * 3, none⟩)) rfl (by kernel_rfl) (by kernel_rfl) (by kernel_rfl) (fun _ _ _ h => h) (Or.inl ⟨by rfl, ?_⟩) hH ?_
      · intro w9 hw9
        have hz := hw9.sz
        go_simp
      try simp only [List.getElem_toArray, List.getElem_cons_succ, List.getElem_cons_zero, Act.put, List.setIfInBounds_toArray, List.set_cons_zero, List.set_cons_succ]
      refine wpAnyH_take (i := 5) (v := .slice sa xs.length sc) rfl (by kernel_rfl) (by kernel_rfl) (by kernel_rfl) (fun _ _ _ h => h) (Or.inl ⟨by rfl, ?_⟩) hH ?_
      · intro w9 hw9
        have u0 := hw9.cell F0.out
        go_simp
      try simp only [List.getElem_toArray, List.getElem_cons_succ, List.getElem_cons_zero, Act.put, List.setIfInBounds_toArray, List.set_cons_zero, List.set_cons_succ]
      refine wpAnyH_take (i := 6) (v := .slice (some ⟨gt, ot, none⟩) ts.length tc) rfl (by kernel_rfl) (by kernel_rfl) (by kernel_rfl) (fun _ _ _ h => h) (Or.inl ⟨by rfl, ?_⟩) hH ?_
      · intro w9 hw9
        go_simp
      try simp only [List.getElem_toArray, List.getElem_cons_succ, List.getElem_cons_zero, Act.put, List.setIfInBounds_toArray, List.set_cons_zero, List.set_cons_succ]
      refine wpAnyH_take (i := 7) (v := .int .i64 (k : Int)) rfl (by kernel_rfl) (by kernel_rfl) (by kernel_rfl) (fun _ _ _ h => h) (Or.inl ⟨by rfl, ?_⟩) hH ?_
      · intro w9 hw9
        go_simp
      try simp only [List.getElem_toArray, List.getElem_cons_succ, List.getElem_cons_zero, Act.put, List.setIfInBounds_toArray, List.set_cons_zero, List.set_cons_succ]
      refine wpAnyH_take (i := 8) (v := .pointer (some ⟨gt, ot + k * 3, none⟩)) rfl (by kernel_rfl) (by kernel_rfl) (by kernel_rfl) (fun _ _ _ h => h) (Or.inl ⟨by rfl, ?_⟩) hH ?_
      · intro w9 hw9
        have hz := hw9.sz
        go_simp
      try simp only [List.getElem_toArray, List.getElem_cons_succ, List.getElem_cons_zero, Act.put, List.setIfInBounds_toArray, List.set_cons_zero, List.set_cons_succ]
      refine wpAnyH_take (i := 9) (v := .pointer (some ⟨gt, ot + k * 3 + 1, none⟩)) rfl (by kernel_rfl) (by kernel_rfl) (by kernel_rfl) (fun _ _ _ h => h) (Or.inl ⟨by rfl, ?_⟩) hH ?_
      · intro w9 hw9
        have hz := hw9.sz
        go_simp
      try simp only [List.getElem_toArray, List.getElem_cons_succ, List.getElem_cons_zero, Act.put, List.setIfInBounds_toArray, List.set_cons_zero, List.set_cons_succ]
      refine wpAnyH_take (i := 10) (v := .int .i64 o) rfl (by kernel_rfl) (by kernel_rfl) (by kernel_rfl) (fun _ _ _ h => h) (Or.inl ⟨by rfl, ?_⟩) hH ?_
      · intro w9 hw9
        have u0 := hw9.cell F1.out
        go_simp
      try simp only [List.getElem_toArray, List.getElem_cons_succ, List.getElem_cons_zero, Act.put, List.setIfInBounds_toArray, List.set_cons_zero, List.set_cons_succ]
      refine wpAnyH_take (i := 12) (v := .slice (some ⟨gt, ot, none⟩) ts.length tc) rfl (by kernel_rfl) (by kernel_rfl) (by kernel_rfl) (fun _ _ _ h => h) (Or.inl ⟨by rfl, ?_⟩) hH ?_
      · intro w9 hw9
        go_simp
      try simp only [List.getElem_toArray, List.getElem_cons_succ, List.getElem_cons_zero, Act.put, List.setIfInBounds_toArray, List.set_cons_zero, List.set_cons_succ]
      refine wpAnyH_take (i := 13) (v := .int .i64 (k : Int)) rfl (by kernel_rfl) (by kernel_rfl) (by kernel_rfl) (fun _ _ _ h => h) (Or.inl ⟨by rfl, ?_⟩) hH ?_
      · intro w9 hw9
        go_simp
      try simp only [List.getElem_toArray, List.getElem_cons_succ, List.getElem_cons_zero, Act.put, List.setIfInBounds_toArray, List.set_cons_zero, List.set_cons_succ]
      refine wpAnyH_take (i := 14) (v := .pointer (some ⟨gt, ot + k * 3, none⟩)) rfl (by kernel_rfl) (by kernel_rfl) (by kernel_rfl) (fun _ _ _ h => h) (Or.inl ⟨by rfl, ?_⟩) hH ?_
      · intro w9 hw9
        have hz := hw9.sz
        go_simp
      try simp only [List.getElem_toArray, List.getElem_cons_succ, List.getElem_cons_zero, Act.put, List.setIfInBounds_toArray, List.set_cons_zero, List.set_cons_succ]
      refine wpAnyH_take (i := 15) (v := .pointer (some ⟨gt, ot + k * 3 + 2, none⟩)) rfl (by kernel_rfl) (by kernel_rfl) (by kernel_rfl) (fun _ _ _ h => h) (Or.inl ⟨by rfl, ?_⟩) hH ?_
      · intro w9 hw9
        have hz := hw9.sz
        go_simp
      try simp only [List.getElem_toArray, List.getElem_cons_succ, List.getElem_cons_zero, Act.put, List.setIfInBounds_toArray, List.set_cons_zero, List.set_cons_succ]
      refine wpAnyH_take (i := 16) (v := .int .i64 wt) rfl (by kernel_rfl) (by kernel_rfl) (by kernel_rfl) (fun _ _ _ h => h) (Or.inl ⟨by rfl, ?_⟩) hH ?_
      · intro w9 hw9
        have u0 := hw9.cell F2.out
        go_simp
      try simp only [List.getElem_toArray, List.getElem_cons_succ, List.getElem_cons_zero, Act.put, List.setIfInBounds_toArray, List.set_cons_zero, List.set_cons_succ]
      refine wpAnyH_take (i := 18) (v := .bool false) rfl (by kernel_rfl) (by kernel_rfl) (by kernel_rfl) (fun _ _ _ h => h) (Or.inl ⟨by rfl, ?_⟩) hH ?_
      · intro w9 hw9
        go_simp
      try simp only [List.getElem_toArray, List.getElem_cons_succ, List.getElem_cons_zero, Act.put, List.setIfInBounds_toArray, List.set_cons_zero, List.set_cons_succ]
      refine wpAnyH_ready (rs := [11]) (by kernel_rfl) (by simp) ?_
      refine AllReadyH.cons rfl (fun K hK => ?_) AllReadyH.nil
      go_simp
      refine r2made_any p xs o _ _ _ (HPR.out.grow hH) (HTI.out.grow hH) HCK.out m2 m3 _ ?_
      intro w2 hg2
      rw [HQ.out]
      have hH3 : Grow wr w2 := Grow.trans hH hg2
      clear hg2
      go_wp2_with fail
      refine hK.out _ _ hH3 (fun hH2 => ?_)
      clear hK K hH
      have hH := hH2
      clear hH2
      try simp only [List.getElem_toArray, List.getElem_cons_succ, List.getElem_cons_zero, Act.put, List.setIfInBounds_toArray, List.set_cons_zero, List.set_cons_succ]
      obtain ⟨b, hb⟩ : ∃ b, decide (q = wt) = b := ⟨_, rfl⟩
      have hqb : (q == wt) = b := by rw [← hb]; by_cases h : q = wt <;> simp [h]
      rw [hb] at HPM
      refine wpAnyH_take (i := 17) (v := .bool b) rfl (by kernel_rfl) (by kernel_rfl) (by kernel_rfl) (fun _ _ _ h => h) (Or.inl ⟨by rfl, ?_⟩) hH ?_
      · intro w9 hw9
        go_simp
      try simp only [List.getElem_toArray, List.getElem_cons_succ, List.getElem_cons_zero, Act.put, List.setIfInBounds_toArray, List.set_cons_zero, List.set_cons_succ]
      refine wpAnyH_take (i := 19) (v := .bool (b == false)) rfl (by kernel_rfl) (by kernel_rfl) (by kernel_rfl) (fun _ _ _ h => h) (Or.inl ⟨by rfl, ?_⟩) hH ?_
      · intro w9 hw9
        go_simp
      try simp only [List.getElem_toArray, List.getElem_cons_succ, List.getElem_cons_zero, Act.put, List.setIfInBounds_toArray, List.set_cons_zero, List.set_cons_succ]
      refine wpAnyH_done (by kernel_rfl) ?_ _
      have HG2 := Lib.hid (HG.out.trans hH3)
      have HO2 := Lib.hid (hH3.owns HO.out)
      have hz2 := hH3.sz
      clear hH hH3 hb hqb
      cases b with
      | true =>
        have HBE := Lib.hid (show whereN (fun t => !passM p t) ts (k + 1) = whereN (fun t => !passM p t) ts k by rw [HWS.out, HPM.out]; simp)
        go_wp2_with fail
        go_roundw
        case rel => exact ⟨k + 1, by omega, by go_num, HG2.out, by rw [HBE.out]; exact HO2.out⟩
        case measure => simp [intOf]; omega
      | false =>
        have HBE := Lib.hid (show whereN (fun t => !passM p t) ts (k + 1) = whereN (fun t => !passM p t) ts k ++ [(k : Int)] by rw [HWS.out, HPM.out]; simp)
        go_wp2_with (at_builtin; refine Classical.byContradiction (fun hcon => ?_))
        refine hcon ?_
        clear hcon
        refine wpList_app _ rfl (.tmp 43) (.tmp 45) 29 rfl w1.heap.size 3 Tryz.underlying29 info_int rfl (by decide) (by decide) encI encI_len encI_one _ (whereN (fun t => !passM p t) ts k) rfl (((Grow.refl _).alloc _).owns HO2.out) _ (k : Int) 1 rfl (newsG _ _ (by simp) (encI (k : Int)) _) HLB.out (by simp; omega) ?_
        intro out2 w7 hown7 hgr7
        go_wp2_with fail
        have HG10 := Lib.hid (show Grow w1 w7 from grown_below HO2.out hgr7 (Nat.le_refl _) (by simp; omega) (HG2.out.alloc _))
        have HO7 := Lib.hid hown7
        clear hown7 hgr7
        go_roundw
        case rel => exact ⟨k + 1, by omega, by go_num, HG10.out, by rw [HBE.out]; exact HO7.out⟩
        case measure => simp [intOf]; omega
    · have hkn : k = ts.length := by omega
      have ho := HO.out
      rw [hkn, whereN_all] at ho
      have HO2 := Lib.hid (slc_of_owns encI_len ho)
      have HF := Lib.hid (HR.out wr _ (HG1.out.trans HG.out) (by rw [ifOK_ok]; exact HO2.out))
      have hk3 : ¬ (k : Int) < (ts.length : Int) := by omega
      clear ho hkn
      go_wp2_with fail
      exact HF.out
set_option maxHeartbeats 2000000 in
theorem r2Failing_any (p : List Ln) (ts : List Tst) (pv tv : Value) (w : World) (hp : LinesAt w pv p) (ht : TestsAt w tv ts) (R : Ending → World → Prop)
    (hR : ∀ w' v, Grow w w' → IntsAt w' v (ifOK (chkT p ts) (whereL (fun t => !passM p t) ts)) → R (.returned (.tuple #[v, .int .i64 (chkT p ts)])) w') :
    Calls Tryz.prog 109 #[pv, tv] w R := by
  have HP := Lib.hid hp
  have HT := Lib.hid ht
  have HR := Lib.hid hR
  obtain ⟨pa, pc, rfl, _⟩ := hp
  obtain ⟨⟨ta, tc, rfl, _⟩, _⟩ := ht
  clear hR
  go_enter Tryz.func109, Tryz.ntmps109
  go_wp2_with fail
  refine r2sorted_any p ts _ _ _ HP.out HT.out _ ?_
  intro w1 v1 hg1 hv1
  have HF := Lib.hid (HR.out w1 v1 hg1 hv1)
  obtain ⟨a1, c1, rfl, _⟩ := hv1
  clear hg1
  generalize chkT p ts = e at HF ⊢
  go_wp2_with fail
  first | exact HF.out | exact bodyPost_ret (by simp [results, Tryz.results109, go_sem]) rfl HF.out
end Go.Proofs.YtmlbgfnddgbpbaaGreat
