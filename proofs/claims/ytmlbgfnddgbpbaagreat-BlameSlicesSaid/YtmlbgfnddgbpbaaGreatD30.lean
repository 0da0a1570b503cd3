/- The walks of the document's answer to layer 3: the slices of failing tests, and the sets that hit them. -/
import Derived.Test.YtmlbgfnddgbpbaaGreatD28
import Derived.Test.YtmlbgfnddgbpbaaGreatD29
namespace Go.Proofs.YtmlbgfnddgbpbaaGreat
open Go.RowKit
open Mk Bm

set_option maxRecDepth 100000 in
set_option maxHeartbeats 16000000 in
theorem r3Slices_any (p : List Ln) (ts : List Tst) (pv tv : Value) (w : World) (hp : LinesAt w pv p) (ht : TestsAt w tv ts) (R : Ending → World → Prop)
    (hR : ∀ w' v, Grow w w' → FamAt w' v (slcO p ts) → R (.returned (.tuple #[v, .int .i64 (chkT p ts)])) w') :
    Calls Tryz.prog 58 #[pv, tv] w R := by
  have HP := Lib.hid hp
  have HT := Lib.hid ht
  unfold slcO at hR
  obtain ⟨e, he⟩ : ∃ e, chkT p ts = e := ⟨_, rfl⟩
  rw [he] at hR
  have HR := Lib.hid hR
  have HE := Lib.hid he
  obtain ⟨pa, pc, rfl, _⟩ := hp
  obtain ⟨⟨ta, tc, rfl, _⟩, _⟩ := ht
  clear hR
  by_cases h0 : e = 0
  rotate_left
  · have t1 : (e != 0) = true := by simpa using h0
    have HF := Lib.hid (fun w' h => HR.out w' (.slice none 0 0) h (by rw [ifOK_err h0]; exact FamAt.nil _))
    clear h0 he
    go_enter Tryz.func58, Tryz.ntmps58
    go_wp2_with fail
    refine r2Failing_any p ts _ _ _ HP.out HT.out _ ?_
    intro w1 v1 hg1 hv1
    rw [HE.out]
    have HF2 := Lib.hid (HF.out w1 hg1)
    obtain ⟨a1, c1, rfl, _⟩ := hv1
    clear hg1
    go_wp2_with fail
    exact HF2.out
  subst h0
  obtain ⟨hval, htv⟩ := chkT_ok.1 he
  obtain ⟨ht8, htok⟩ := valT_ok.1 htv
  have HVAL := Lib.hid hval
  have HTOK := Lib.hid htok
  clear he hval htv htok
  go_enter Tryz.func58, Tryz.ntmps58
  go_wp2_with fail
  refine r2Failing_any p ts _ _ _ HP.out HT.out _ ?_
  intro w2 v2 hg2 hv2
  rw [HE.out, ifOK_ok] at hv2
  rw [HE.out]
  obtain ⟨FL, hFL⟩ : ∃ z, whereL (fun t => !passM p t) ts = z := ⟨_, rfl⟩
  rw [hFL] at hv2
  have HFL := Lib.hid hFL
  have hfl8 : FL.length ≤ 8 := by rw [← hFL]; have := whereN_len (fun t => !passM p t) ts ts.length; rw [whereN_all] at this; omega
  have HX2 := Lib.hid hv2
  have HG2 := Lib.hid hg2
  obtain ⟨a2, c2, rfl, _⟩ := hv2
  clear hg2 hFL
  go_wp2_with fail
  go_loopw [8, 9, 10, 11, 12] (fun out i _ _ _ wr => ∃ (k : Nat) (L : List (Lo Int)), k ≤ FL.length ∧ i = .int .i64 k ∧ Grow w2 wr ∧ LoOwn w2.heap.size 29 1 encI wr out L ∧ L.map Lo.x = slK p ts (FL.take k)) (fun _ i _ _ _ _ => FL.length - (intOf i).toNat)
  case atStart => exact ⟨0, [], Nat.zero_le _, rfl, Grow.refl _, LoOwn.nil _ _ _ _ _, rfl⟩
  case round =>
    obtain ⟨k, L, hk, rfl, hg, how, hmp⟩ := hrel
    have HG := Lib.hid hg
    have HO := Lib.hid how
    have HMP := Lib.hid hmp
    have hzj := hg.sz
    have HLE := Lib.hid (show L.length < 100000000000 by
      have := congrArg List.length hmp
      unfold slK at this
      rw [List.length_map, List.length_map, List.length_take] at this; omega)
    clear hg how hmp
    by_cases hlt : k < FL.length
    · obtain ⟨i, hi⟩ : ∃ x, FL[k]? = some x := ⟨_, List.getElem?_eq_getElem hlt⟩
      have hmem := List.mem_of_getElem? hi
      rw [← HFL.out] at hmem
      obtain ⟨q, t, rfl, hq, _⟩ := mem_whereL.1 hmem
      obtain ⟨gf, of, rfl, hgf, e0⟩ := ints_at (HX2.out.grow HG.out) hi
      have HTK := Lib.hid (slK_take (p := p) hi hq)
      have hto := HTOK.out t (List.mem_of_getElem? hq)
      have hti := (HT.out.grow (HG2.out.trans HG.out)).ins _ (List.mem_of_getElem? hq)
      have hql : q < ts.length := (List.getElem?_eq_some_iff.1 hq).1
      obtain ⟨gt, ot, hta, hgt, f0, f1, f2⟩ := tests_at (HT.out.grow (HG2.out.trans HG.out)).at_ hq
      obtain ⟨v, xs, o, wt⟩ := t
      obtain ⟨m1, ⟨m2, m3⟩, _⟩ := Tst.ok_iff.1 hto
      have hse : sliceE p xs o = 0 := by unfold sliceE; rw [if_pos (chk_ok.2 ⟨HVAL.out, m1⟩), inB_true.2 ⟨m2, m3⟩]; rfl
      have HSE := Lib.hid hse
      obtain ⟨sa, sc, hve, s1, s2, s3⟩ := hti
      dsimp only at f0 f1 f2 HTK hve
      subst hve
      have HTI := Lib.hid (show IntsAt wr (.slice sa xs.length sc) xs from ⟨sa, sc, rfl, s1, s2, s3⟩)
      have hlt2 : (k : Int) < (FL.length : Int) := by omega
      have hq2 : (q : Int) < (ts.length : Int) := by omega
      have hq0 : (0 : Int) ≤ (q : Int) := by omega
      have HPR := Lib.hid (HP.out.grow (HG2.out.trans HG.out))
      clear hi hmem hq hto hse m1 s3
      subst hta
      go_wp2_with fail
      have hga := (Grow.refl wr).alloc (.cells #[.slice sa xs.length sc, .int .i64 o, .int .i64 wt] 37)
      generalize wr.alloc (.cells #[.slice sa xs.length sc, .int .i64 o, .int .i64 wt] 37) = wa at hga ⊢
      have HGA := Lib.hid hga
      have hza := hga.sz
      clear hga e0 f0 f1 f2
      refine rSliceO_any p xs o _ _ _ (HPR.out.grow HGA.out) (HTI.out.grow HGA.out) _ ?_
      intro w5 x5 hg5 hx5
      rw [HSE.out, ifOK_ok] at hx5
      rw [HSE.out]
      have hx6 := hx5.slc encI_len
      obtain ⟨a5, c5, hve, q1, q2, jk⟩ := hx6
      subst hve
      have HX5 := Lib.hid (show IntsAt w5 (.slice a5 (sliceM p xs o).length c5) (sliceM p xs o) from ⟨a5, c5, rfl, q1, q2, jk⟩)
      have HOF := Lib.hid ((HO.out.grow HGA.out).new hx5)
      have HG5 := Lib.hid (HG.out.trans (HGA.out.trans hg5))
      have HO5 := Lib.hid (HO.out.grow (HGA.out.trans hg5))
      have hz5 := hg5.sz
      obtain ⟨sl, hsl⟩ : ∃ z, sliceM p xs o = z := ⟨_, rfl⟩
      rw [hsl] at HX5 HTK ⊢
      clear jk hx5 hg5 hsl
      go_wp2_with (at_builtin; refine Classical.byContradiction (fun hcon => ?_))
      refine hcon ?_
      clear hcon
      refine wpList_appAt _ rfl (.tmp 44) (.tmp 46) 22 rfl w2.heap.size 29 Tryz.underlying22 info_sli rfl (by decide) (by decide) encLo encLo_len encLo_one _ L rfl (((Grow.refl w5).alloc _).owns HO5.out.row) _ (⟨a5, sl.length, c5, sl⟩ : Lo Int) 1 rfl (newsG w5 _ rfl (encLo (⟨a5, sl.length, c5, sl⟩ : Lo Int)) 29) HLE.out (by simp; omega) ?_
      intro out2 w6 hown6 hgr6 hat6
      have hgA := (Grow.refl w5).alloc (.cells #[.slice a5 sl.length c5] 29)
      have HG6 := Lib.hid (show Grow w2 w6 from grown_below HO5.out.row hgr6 (Nat.le_refl _) (by simp; omega) (HG5.out.alloc _))
      have hoff : ∀ b o s, a5 = some ⟨b, o, s⟩ → u8.ownBlock ≠ some b ∧ b < (w5.alloc (.cells #[.slice a5 sl.length c5] 29)).heap.size := fun b o s h => ⟨(HOF.out b o s h).1, by have := (HOF.out b o s h).2; simp; omega⟩
      have HO6 := Lib.hid ((HO5.out.grow hgA).app (t := (⟨a5, sl.length, c5, sl⟩ : Lo Int)) hgr6 hown6 hat6 (HX5.out.grow hgA) hoff)
      clear hown6 hgr6 hat6 hoff hgA
      go_wp2_with fail
      go_roundw
      case rel => exact ⟨k + 1, L ++ [(⟨a5, sl.length, c5, sl⟩ : Lo Int)], by omega, by go_num, HG6.out, HO6.out, by rw [List.map_append, HMP.out, HTK.out]; rfl⟩
      case measure => simp [intOf]; omega
    · have hkn : k = FL.length := by omega
      have hmp := HMP.out
      rw [hkn, List.take_length, ← HFL.out, slK_all] at hmp
      have HF := Lib.hid (HR.out wr _ (HG2.out.trans HG.out) (by rw [ifOK_ok]; exact ⟨L, HO.out.at_, HO.out.ins, hmp⟩))
      have hk3 : ¬ (k : Int) < (FL.length : Int) := by omega
      clear hkn hmp
      go_wp2_with fail
      exact HF.out
set_option maxHeartbeats 4000000 in
theorem r3Diagnoses_any (p : List Ln) (ts : List Tst) (pv tv : Value) (w : World) (hp : LinesAt w pv p) (ht : TestsAt w tv ts) (R : Ending → World → Prop)
    (hR : ∀ w' v, Grow w w' → FamAt w' v (dgO p ts) → R (.returned (.tuple #[v, .int .i64 (chkT p ts)])) w') :
    Calls Tryz.prog 60 #[pv, tv] w R := by
  have HP := Lib.hid hp
  have HT := Lib.hid ht
  unfold dgO at hR
  obtain ⟨e, he⟩ : ∃ e, chkT p ts = e := ⟨_, rfl⟩
  rw [he] at hR
  have HR := Lib.hid hR
  have HE := Lib.hid he
  have hso : slcO p ts = ifOK e (slcs p ts) := by unfold slcO; rw [he]
  have HSO := Lib.hid hso
  obtain ⟨pa, pc, rfl, _⟩ := hp
  obtain ⟨⟨ta, tc, rfl, _⟩, _⟩ := ht
  clear hR he hso
  by_cases h0 : e = 0
  rotate_left
  · have t1 : (e != 0) = true := by simpa using h0
    have HF := Lib.hid (fun w' h => HR.out w' (.slice none 0 0) h (by rw [ifOK_err h0]; exact FamAt.nil _))
    clear h0
    go_enter Tryz.func60, Tryz.ntmps60
    go_wp2_with fail
    refine r3Slices_any p ts _ _ _ HP.out HT.out _ ?_
    intro w1 v1 hg1 hv1
    rw [HE.out]
    have HF2 := Lib.hid (HF.out w1 hg1)
    obtain ⟨a1, c1, rfl, _⟩ := hv1.out
    clear hg1 hv1
    go_wp2_with fail
    exact HF2.out
  subst h0
  have hval := slcs_val HE.out
  have HML := Lib.hid (masks_lt hval)
  obtain ⟨hl70, hall⟩ := valF_ok.1 hval
  have HALL := Lib.hid hall
  clear hval hall
  go_enter Tryz.func60, Tryz.ntmps60
  go_wp2_with fail
  refine r3Slices_any p ts _ _ _ HP.out HT.out _ ?_
  intro w1 v1 hg1 hv1
  rw [HSO.out, ifOK_ok] at hv1
  rw [HE.out]
  have HV1 := Lib.hid hv1
  have HG1 := Lib.hid hg1
  obtain ⟨a1, c1, rfl, _⟩ := hv1.out
  clear hg1 hv1
  go_wp2_with fail
  refine r3masks_any (slcs p ts) _ _ HV1.out HALL.out hl70 _ ?_
  intro w3 v3 hg3 hv3
  have hv4 := hv3.slc encI_len
  have HV4 := Lib.hid hv4
  have HG3 := Lib.hid (HG1.out.trans hg3)
  obtain ⟨a3, c3, rfl, _⟩ := hv4
  clear hg3 hv3
  go_wp2_with fail
  refine r3blocker_any ((slcs p ts).map mask) HML.out _ _ HV4.out _ ?_
  intro w4 v4 hg4 hv4
  have HX4 := Lib.hid hv4
  have HG4 := Lib.hid (HG3.out.trans hg4)
  obtain ⟨a4, c4, rfl, _⟩ := hv4
  clear hg4
  go_wp2_with fail
  refine r3ordered_any (blk ((slcs p ts).map mask)) blk_lt (blk_lenF _) _ _ HX4.out _ ?_
  intro w5 v5 hg5 hv5
  have HF := Lib.hid (HR.out w5 v5 (HG4.out.trans hg5) (by rw [ifOK_ok]; exact hv5))
  clear hg5 hv5
  go_wp2_with fail
  exact HF.out
end Go.Proofs.YtmlbgfnddgbpbaaGreat
