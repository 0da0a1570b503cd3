/-
The walks of the document's answer to layer 3: which sets of lines are to blame.
The walks of package blame: Slices, Diagnoses, Common, Together.
-/
import Derived.Test.YtmlbgfnddgbpbaaGreatD26
import Derived.Test.YtmlbgfnddgbpbaaGreatD27
import Derived.Test.YtmlbgfnddgbpbaaGreatD19
import Derived.Test.YtmlbgfnddgbpbaaGreatD18
import Derived.Test.YtmlbgfnddgbpbaaGreatD14
namespace Go.Proofs.YtmlbgfnddgbpbaaGreat
open Go.RowKit
open Mk Bm

theorem any_take2 {pr : Int → Bool} {l : List Int} {k : Nat} {x : Int} (hx : l[k]? = some x) (hp : pr x = true) : l.any pr = true := List.any_eq_true.2 ⟨x, List.mem_of_getElem? hx, hp⟩
set_option maxRecDepth 100000 in
set_option maxHeartbeats 16000000 in
theorem r3isToBlame_any (p : List Ln) (ts : List Tst) (lines : List Int) (pv tv lv mv : Value) (w : World) (hp : LinesAt w pv p) (ht : TestsAt w tv ts) (hl : IntsAt w lv lines) (hm : FamAt w mv (pk lines.length)) (hc : chkT p ts = 0) (hln : lnE p lines = 0)
    (R : Ending → World → Prop) (hR : ∀ w', Grow w w' → R (.returned (.bool (blm p ts lines))) w') :
    Calls Tryz.prog 90 #[pv, tv, lv, mv] w R := by
  have HP := Lib.hid hp
  have HT := Lib.hid ht
  have HL := Lib.hid hl
  have HM := Lib.hid hm
  have HR := Lib.hid hR
  obtain ⟨hval, htv⟩ := chkT_ok.1 hc
  have HC := Lib.hid hc
  have HVAL := Lib.hid hval
  have HTV := Lib.hid (valT_ok.1 htv).2
  have HLN := Lib.hid hln
  have HBA := Lib.hid (blm_any p ts lines)
  obtain ⟨pa, pc, rfl, _⟩ := hp
  obtain ⟨⟨ta, tc, rfl, _⟩, _⟩ := ht
  obtain ⟨la, lc, rfl, _⟩ := hl
  obtain ⟨ma, mc, hmv, _⟩ := hm.out
  obtain ⟨mn, hmn⟩ : ∃ z, (pk lines.length).length = z := ⟨_, rfl⟩
  rw [hmn] at hmv
  subst hmv
  clear hR hc hval htv hln hm hmn
  go_enter Tryz.func90, Tryz.ntmps90
  go_wp2_with fail
  refine r2Failing_any p ts _ _ _ HP.out HT.out _ ?_
  intro w2 v2 hg2 hv2
  rw [HC.out, ifOK_ok] at hv2
  rw [HC.out]
  obtain ⟨FL, hFL⟩ : ∃ z, whereL (fun t => !passM p t) ts = z := ⟨_, rfl⟩
  rw [hFL] at hv2
  have HFL := Lib.hid hFL
  have HX2 := Lib.hid hv2
  have HG2 := Lib.hid hg2
  obtain ⟨a2, c2, rfl, _⟩ := hv2
  rw [hFL] at HBA
  clear hg2 hFL
  go_wp2_with fail
  go_loopw [11, 12, 13] (fun i _ _ wr => ∃ k : Nat, k ≤ FL.length ∧ i = .int .i64 k ∧ Grow w2 wr ∧ ∀ y ∈ FL.take k, noPass p ts lines y = false) (fun i _ _ _ => FL.length - (intOf i).toNat)
  case atStart => exact ⟨0, Nat.zero_le _, rfl, Grow.refl _, by simp⟩
  case round =>
    obtain ⟨k, hk, rfl, hg, hall⟩ := hrel
    have HG := Lib.hid (HG2.out.trans hg)
    have HGL := Lib.hid hg
    have HALL := Lib.hid hall
    clear hg hall
    by_cases hlt : k < FL.length
    · obtain ⟨i, hi⟩ : ∃ x, FL[k]? = some x := ⟨_, List.getElem?_eq_getElem hlt⟩
      have hmem := List.mem_of_getElem? hi
      rw [← HFL.out] at hmem
      obtain ⟨q, t, rfl, hq, _⟩ := mem_whereL.1 hmem
      obtain ⟨gf, of, rfl, hgf, e0⟩ := ints_at (HX2.out.grow HGL.out) hi
      have HI := Lib.hid hi
      have HNP := Lib.hid (noPass_at (p := p) (lines := lines) hq)
      have HTOK := Lib.hid (HTV.out t (List.mem_of_getElem? hq))
      have hti := (HT.out.grow HG.out).ins _ (List.mem_of_getElem? hq)
      have hql : q < ts.length := (List.getElem?_eq_some_iff.1 hq).1
      obtain ⟨gt, ot, hta, hgt, f0, f1, f2⟩ := tests_at (HT.out.grow HG.out).at_ hq
      obtain ⟨v, xs, o, wt⟩ := t
      obtain ⟨sa, sc, hve, s1, s2, s3⟩ := hti
      dsimp only at f0 f1 f2 hve HNP HTOK
      subst hve
      have HTI := Lib.hid (show IntsAt wr (.slice sa xs.length sc) xs from ⟨sa, sc, rfl, s1, s2, s3⟩)
      have hlt2 : (k : Int) < (FL.length : Int) := by omega
      have hq2 : (q : Int) < (ts.length : Int) := by omega
      have hq0 : (0 : Int) ≤ (q : Int) := by omega
      clear hi hmem hq s3
      subst hta
      go_wp2_with fail
      refine r3canPass_any p ⟨.slice sa xs.length sc, xs, o, wt⟩ lines (pk lines.length) (fun l hl => mem_pk hl) HVAL.out HTOK.out HLN.out _ _ _ _ (HP.out.grow HG.out) HTI.out (HL.out.grow HG.out) (HM.out.grow HG.out) _ ?_
      intro w5 v5 hg5 _
      have HG5 := Lib.hid (HGL.out.trans hg5)
      have HGG := Lib.hid (HG.out.trans hg5)
      obtain ⟨rs, hrs⟩ : ∃ z, (can p ⟨.slice sa xs.length sc, xs, o, wt⟩ lines).isSome = z := ⟨_, rfl⟩
      have hcan : ((pk lines.length).find? (fpass p ⟨.slice sa xs.length sc, xs, o, wt⟩ lines)).isSome = rs := hrs
      rw [hcan]
      rw [hrs] at HNP
      clear hg5 hrs hcan e0 f0 f1 f2
      cases rs with
      | false =>
        have hany := any_take2 HI.out HNP.out
        rw [HBA.out] at hany
        have hb : blm p ts lines = false := by cases h : blm p ts lines with | false => rfl | true => rw [h] at hany; cases hany
        have HF := Lib.hid (show R (.returned (.bool false)) w5 from by have := HR.out w5 HGG.out; rw [hb] at this; exact this)
        clear hany hb
        go_wp2_with fail
        exact HF.out
      | true =>
        go_wp2_with fail
        go_roundw
        case rel => exact ⟨k + 1, by omega, by go_num, HG5.out, any_take HALL.out HI.out HNP.out⟩
        case measure => simp [intOf]; omega
    · have hkn : k = FL.length := by omega
      have hall := HALL.out
      rw [hkn, List.take_length] at hall
      have hany := any_no hall
      rw [HBA.out] at hany
      have hb : blm p ts lines = true := by cases h : blm p ts lines with | true => rfl | false => rw [h] at hany; cases hany
      have HF := Lib.hid (show R (.returned (.bool true)) wr from by have := HR.out wr HG.out; rw [hb] at this; exact this)
      have hk3 : ¬ (k : Int) < (FL.length : Int) := by omega
      clear hall hany hb hkn
      go_wp2_with fail
      exact HF.out
set_option maxHeartbeats 4000000 in
theorem r3IsToBlame_any (p : List Ln) (ts : List Tst) (lines : List Int) (pv tv lv : Value) (w : World) (hp : LinesAt w pv p) (ht : TestsAt w tv ts) (hl : IntsAt w lv lines)
    (R : Ending → World → Prop) (hR : ∀ w', Grow w w' → R (.returned (.tuple #[.bool (ibB p ts lines), .int .i64 (ibE p ts lines)])) w') :
    Calls Tryz.prog 56 #[pv, tv, lv] w R := by
  have HP := Lib.hid hp
  have HT := Lib.hid ht
  have HL := Lib.hid hl
  obtain ⟨e, he⟩ : ∃ e, chkT p ts = e := ⟨_, rfl⟩
  obtain ⟨e', he'⟩ : ∃ e, lnE p lines = e := ⟨_, rfl⟩
  have hE : ibE p ts lines = if e = 0 then e' else e := by unfold ibE; rw [he, he']
  unfold ibB at hR
  rw [hE] at hR
  have HR := Lib.hid hR
  have HE := Lib.hid he
  have HE' := Lib.hid he'
  obtain ⟨pa, pc, rfl, _⟩ := hp
  obtain ⟨⟨ta, tc, rfl, _⟩, _⟩ := ht
  obtain ⟨la, lc, rfl, _⟩ := hl
  clear hR hE he he'
  by_cases h0 : e = 0
  rotate_left
  · rw [if_neg h0] at HR
    have t1 : (e != 0) = true := by simpa using h0
    have HF := Lib.hid (fun w' h => show R (.returned (.tuple #[.bool false, .int .i64 e])) w' from by have := HR.out w' h; rw [decide_eq_false h0] at this; exact this)
    clear h0
    go_enter Tryz.func56, Tryz.ntmps56
    go_wp2_with fail
    refine r3tested_any p ts _ _ _ HP.out HT.out _ ?_
    intro w1 hg1
    rw [HE.out]
    have HF2 := Lib.hid (HF.out w1 hg1)
    clear hg1
    go_wp2_with fail
    exact HF2.out
  subst h0
  rw [if_pos rfl] at HR
  have HVAL := Lib.hid (chkT_ok.1 HE.out).1
  by_cases h1 : e' = 0
  rotate_left
  · have t1 : (e' != 0) = true := by simpa using h1
    have HF := Lib.hid (fun w' h => show R (.returned (.tuple #[.bool false, .int .i64 e'])) w' from by have := HR.out w' h; rw [decide_eq_false h1] at this; exact this)
    clear h1
    go_enter Tryz.func56, Tryz.ntmps56
    go_wp2_with fail
    refine r3tested_any p ts _ _ _ HP.out HT.out _ ?_
    intro w1 hg1
    rw [HE.out]
    have HG1 := Lib.hid hg1
    clear hg1
    go_wp2_with fail
    refine lined_any p lines _ _ _ (HP.out.grow HG1.out) (HL.out.grow HG1.out) HVAL.out _ ?_
    intro w2 hg2
    rw [HE'.out]
    have HF2 := Lib.hid (HF.out w2 (HG1.out.trans hg2))
    clear hg2
    go_wp2_with fail
    exact HF2.out
  subst h1
  have HF := Lib.hid (fun w' h => show R (.returned (.tuple #[.bool (blm p ts lines), .int .i64 0])) w' from HR.out w' h)
  go_enter Tryz.func56, Tryz.ntmps56
  go_wp2_with fail
  refine r3tested_any p ts _ _ _ HP.out HT.out _ ?_
  intro w1 hg1
  rw [HE.out]
  have HG1 := Lib.hid hg1
  clear hg1
  go_wp2_with fail
  refine lined_any p lines _ _ _ (HP.out.grow HG1.out) (HL.out.grow HG1.out) HVAL.out _ ?_
  intro w2 hg2
  rw [HE'.out]
  have HG2 := Lib.hid (HG1.out.trans hg2)
  clear hg2
  go_wp2_with fail
  refine picks_any lines.length (by have := (lnE_ok.1 HE'.out).2.2.1; omega) _ _ ?_
  intro w9 v9 hg9 hv9
  have HV9 := Lib.hid hv9
  have HG9 := Lib.hid (HG2.out.trans hg9)
  obtain ⟨ma, mc, hmv, _⟩ := hv9.out
  obtain ⟨mn, hmn⟩ : ∃ z, (pk lines.length).length = z := ⟨_, rfl⟩
  rw [hmn] at hmv
  subst hmv
  clear hg9 hv9 hmn
  go_wp2_with fail
  refine r3isToBlame_any p ts lines _ _ _ _ _ (HP.out.grow HG9.out) (HT.out.grow HG9.out) (HL.out.grow HG9.out) HV9.out HE.out HE'.out _ ?_
  intro w3 hg3
  have HF2 := Lib.hid (HF.out w3 (HG9.out.trans hg3))
  clear hg3
  generalize blm p ts lines = q at HF2 ⊢
  go_wp2_with fail
  exact HF2.out

end Go.Proofs.YtmlbgfnddgbpbaaGreat

namespace Go.Proofs.YtmlbgfnddgbpbaaGreat
open Go.RowKit
open Mk Bm

def dgO (p : List Ln) (ts : List Tst) : List (List Int) := ifOK (chkT p ts) (bkM (slcs p ts))
set_option maxHeartbeats 4000000 in
theorem Slices_any (p : List Ln) (ts : List Tst) (pv tv : Value) (w : World) (hp : LinesAt w pv p) (ht : TestsAt w tv ts) (R : Ending → World → Prop)
    (hR : ∀ w' v, Grow w w' → FamAt w' v (slcO p ts) → R (.returned (.tuple #[v, .int .i64 (chkT p ts)])) w') :
    Calls Tryz.prog 57 #[pv, tv] w R := by
  have HP := Lib.hid hp
  have HT := Lib.hid ht
  unfold slcO at hR
  obtain ⟨e, he⟩ : ∃ e, chkT p ts = e := ⟨_, rfl⟩
  rw [he] at hR
  have HR := Lib.hid hR
  have HE := Lib.hid he
  obtain ⟨pa, pc, rfl, _⟩ := hp
  obtain ⟨⟨ta, tc, rfl, _⟩, _⟩ := ht
  clear hR he
  by_cases h0 : e = 0
  · subst h0
    go_enter Tryz.func57, Tryz.ntmps57
    go_wp2_with fail
    refine bprograms_any p ts _ _ _ HP.out HT.out _ ?_
    intro w1 hg1
    rw [HE.out]
    have HG1 := Lib.hid hg1
    clear hg1
    go_wp2_with fail
    refine slicesOf_any p ts _ _ _ (HP.out.grow HG1.out) (HT.out.grow HG1.out) HE.out _ ?_
    intro w2 v2 hg2 hv2
    have HF := Lib.hid (HR.out w2 v2 (HG1.out.trans hg2) (by rw [ifOK_ok]; exact hv2))
    clear hg2 hv2
    go_wp2_with fail
    exact HF.out
  · have t1 : (e != 0) = true := by simpa using h0
    have HF := Lib.hid (fun w' h => HR.out w' (.slice none 0 0) h (by rw [ifOK_err h0]; exact FamAt.nil _))
    clear h0
    go_enter Tryz.func57, Tryz.ntmps57
    go_wp2_with fail
    refine bprograms_any p ts _ _ _ HP.out HT.out _ ?_
    intro w1 hg1
    rw [HE.out]
    have HF2 := Lib.hid (HF.out w1 hg1)
    clear hg1
    go_wp2_with fail
    exact HF2.out

set_option maxHeartbeats 4000000 in
theorem Diagnoses_any (p : List Ln) (ts : List Tst) (pv tv : Value) (w : World) (hp : LinesAt w pv p) (ht : TestsAt w tv ts) (R : Ending → World → Prop)
    (hR : ∀ w' v, Grow w w' → FamAt w' v (dgO p ts) → R (.returned (.tuple #[v, .int .i64 (chkT p ts)])) w') :
    Calls Tryz.prog 59 #[pv, tv] w R := by
  have HP := Lib.hid hp
  have HT := Lib.hid ht
  unfold dgO at hR
  obtain ⟨e, he⟩ : ∃ e, chkT p ts = e := ⟨_, rfl⟩
  rw [he] at hR
  have HR := Lib.hid hR
  have HE := Lib.hid he
  obtain ⟨pa, pc, rfl, _⟩ := hp
  obtain ⟨⟨ta, tc, rfl, _⟩, _⟩ := ht
  clear hR he
  by_cases h0 : e = 0
  · subst h0
    go_enter Tryz.func59, Tryz.ntmps59
    go_wp2_with fail
    refine bprograms_any p ts _ _ _ HP.out HT.out _ ?_
    intro w1 hg1
    rw [HE.out]
    have HG1 := Lib.hid hg1
    clear hg1
    go_wp2_with fail
    refine slicesOf_any p ts _ _ _ (HP.out.grow HG1.out) (HT.out.grow HG1.out) HE.out _ ?_
    intro w2 v2 hg2 hv2
    have hval := slcs_val HE.out
    have HML := Lib.hid (masks_lt hval)
    obtain ⟨hl70, hall⟩ := valF_ok.1 hval
    have HALL := Lib.hid hall
    have HG2 := Lib.hid (HG1.out.trans hg2)
    have HV2 := Lib.hid hv2
    obtain ⟨a2, c2, rfl, _⟩ := hv2.out
    clear hg2 hv2 hval hall
    go_wp2_with fail
    refine all_any (slcs p ts) _ _ HV2.out HALL.out hl70 _ ?_
    intro w3 v3 hg3 hv3
    have hv4 := hv3.slc encI_len
    rw [mskI_eq] at hv4
    have HV4 := Lib.hid hv4
    have HG3 := Lib.hid (HG2.out.trans hg3)
    obtain ⟨a3, c3, rfl, _⟩ := hv4
    clear hg3 hv3
    go_wp2_with fail
    refine blocker_any ((slcs p ts).map mask) HML.out _ _ HV4.out _ ?_
    intro w4 v4 L hg4 hL hv4
    obtain ⟨ho, hl, hln⟩ := blkI_ord hL
    have HOR := Lib.hid ho
    have HLL := Lib.hid hl
    have HLN := Lib.hid hL.1
    have hx4 := hv4.slc encI_len
    have HX4 := Lib.hid hx4
    have HG4 := Lib.hid (HG3.out.trans hg4)
    obtain ⟨a4, c4, rfl, _⟩ := hx4
    clear hg4 hL hv4 ho hl
    go_wp2_with fail
    refine lists_any L HLL.out HLN.out (by omega) _ _ HX4.out _ ?_
    rw [HOR.out]
    intro w5 v5 hg5 hv5
    have HF := Lib.hid (HR.out w5 v5 (HG4.out.trans hg5) (by rw [ifOK_ok]; exact hv5.fam))
    clear hg5 hv5
    go_wp2_with fail
    exact HF.out
  · have t1 : (e != 0) = true := by simpa using h0
    have HF := Lib.hid (fun w' h => HR.out w' (.slice none 0 0) h (by rw [ifOK_err h0]; exact FamAt.nil _))
    clear h0
    go_enter Tryz.func59, Tryz.ntmps59
    go_wp2_with fail
    refine bprograms_any p ts _ _ _ HP.out HT.out _ ?_
    intro w1 hg1
    rw [HE.out]
    have HF2 := Lib.hid (HF.out w1 hg1)
    clear hg1
    go_wp2_with fail
    exact HF2.out

theorem cmn_take_lt (F : List Nat) (k : Nat) : cmn (F.take k) < 256 := cmn_lt _
theorem tog_take_lt {F : List Nat} (hF : ∀ x ∈ F, x < 256) (k : Nat) : tog (F.take k) < 256 := tog_lt fun x hx => hF x (List.mem_of_mem_take hx)
set_option maxHeartbeats 4000000 in
theorem Common_any (f : List (List Int)) (v : Value) (w : World) (hf : FamAt w v f) (R : Ending → World → Prop)
    (hR : ∀ w' v, Grow w w' → IntsAt w' v (cmO f) → R (.returned (.tuple #[v, .int .i64 (valF f)])) w') :
    Calls Tryz.prog 40 #[v] w R := by
  have HFM := Lib.hid hf
  unfold cmO at hR
  have HR := Lib.hid hR
  obtain ⟨e, he⟩ : ∃ e, valF f = e := ⟨_, rfl⟩
  rw [he] at HR
  have HE := Lib.hid he
  obtain ⟨a, c, rfl, h1, h2⟩ := hf.out
  clear hR hf
  by_cases h0 : e = 0
  · subst h0
    have hml := masks_lt he
    obtain ⟨hl70, hall⟩ := valF_ok.1 he
    have HALL := Lib.hid hall
    have hlF : (f.map mask).length = f.length := List.length_map ..
    obtain ⟨F, hF⟩ : ∃ F, f.map mask = F := ⟨_, rfl⟩
    rw [hF] at hml HR hlF
    have HML := Lib.hid hml
    have HFE := Lib.hid hF
    have HLF := Lib.hid hlF
    have hl7 : F.length ≤ 70 := by omega
    clear he hall hml hF hlF
    go_enter Tryz.func40, Tryz.ntmps40
    go_wp2_with fail
    refine bValidate_any f _ _ HFM.out _ ?_
    intro w1 hg1
    rw [HE.out]
    have HG1 := Lib.hid hg1
    clear hg1
    go_wp2_with fail
    refine all_any f _ _ (HFM.out.grow HG1.out) HALL.out hl70 _ ?_
    intro w3 v3 hg3 hv3
    have hv4 := hv3.slc encI_len
    rw [mskI_eq, HFE.out] at hv4
    have HG3 := Lib.hid (HG1.out.trans hg3)
    obtain ⟨a3, c3, rfl, jq⟩ := hv4
    have HV4 := Lib.hid (show IntsAt w3 (.slice a3 (nI F).length c3) (nI F) from ⟨a3, c3, rfl, jq⟩)
    rw [nI_len] at HV4 ⊢
    clear hg3 hv3 jq
    go_wp2_with fail
    go_loopw [5, 7, 16] (fun s _ i wr => ∃ k : Nat, k ≤ F.length ∧ i = .int .i64 k ∧ wr = w3 ∧ s = .int .i64 (cmn (F.take k) : Int)) (fun _ _ i _ => F.length - (intOf i).toNat)
    case atStart => exact ⟨0, Nat.zero_le _, rfl, rfl, rfl⟩
    case round =>
      obtain ⟨k, hk, rfl, rfl, rfl⟩ := hrel
      by_cases hlt : k < F.length
      · obtain ⟨x, hx⟩ : ∃ x, F[k]? = some x := ⟨_, List.getElem?_eq_getElem hlt⟩
        obtain ⟨b, o, rfl, hb, e0⟩ := ints_at HV4.out (nI_at hx)
        have hlt2 : (k : Int) < (F.length : Int) := by omega
        have hx256 := HML.out x (List.mem_of_getElem? hx)
        have HTK := Lib.hid (cmn_take hx)
        have hs256 : cmn (F.take k) < 256 := cmn_take_lt _ _
        have hbt := Mk.bits_and (cmn (F.take k)) x (by omega) (by omega)
        clear hx
        go_wp2_with fail
        go_roundw
        case rel => exact ⟨k + 1, by omega, by go_num, by first | rfl | trivial, by rw [HTK.out]⟩
        case measure => simp [intOf]; omega
      · have hkn : k = F.length := by omega
        subst hkn
        have HTL := Lib.hid (List.take_length (l := F))
        have hs256 : cmn F < 256 := by have := (show cmn (F.take F.length) < 256 from cmn_take_lt _ _); rwa [List.take_length] at this
        rw [HTL.out]
        go_wp2_with fail
        refine members_any (cmn F) hs256 _ _ ?_
        intro w5 v5 hg5 hv5
        have HF := Lib.hid (HR.out w5 v5 (HG3.out.trans hg5) (by rw [ifOK_ok]; exact hv5.slc encI_len))
        clear hg5 hv5
        go_wp2_with fail
        exact HF.out
  · have t1 : (e != 0) = true := by simpa using h0
    have HF := Lib.hid (fun w' h => HR.out w' (.slice none 0 0) h (by rw [ifOK_err h0]; exact SlcAt.nil _ _ _))
    clear h0 he
    go_enter Tryz.func40, Tryz.ntmps40
    go_wp2_with fail
    refine bValidate_any f _ _ HFM.out _ ?_
    intro w1 hg1
    rw [HE.out]
    have HF2 := Lib.hid (HF.out w1 hg1)
    clear hg1
    go_wp2_with fail
    exact HF2.out

set_option maxHeartbeats 4000000 in
theorem Together_any (f : List (List Int)) (v : Value) (w : World) (hf : FamAt w v f) (R : Ending → World → Prop)
    (hR : ∀ w' v, Grow w w' → IntsAt w' v (toO f) → R (.returned (.tuple #[v, .int .i64 (valF f)])) w') :
    Calls Tryz.prog 42 #[v] w R := by
  have HFM := Lib.hid hf
  unfold toO at hR
  have HR := Lib.hid hR
  obtain ⟨e, he⟩ : ∃ e, valF f = e := ⟨_, rfl⟩
  rw [he] at HR
  have HE := Lib.hid he
  obtain ⟨a, c, rfl, h1, h2⟩ := hf.out
  clear hR hf
  by_cases h0 : e = 0
  · subst h0
    have hml := masks_lt he
    obtain ⟨hl70, hall⟩ := valF_ok.1 he
    have HALL := Lib.hid hall
    have hlF : (f.map mask).length = f.length := List.length_map ..
    obtain ⟨F, hF⟩ : ∃ F, f.map mask = F := ⟨_, rfl⟩
    rw [hF] at hml HR hlF
    have HML := Lib.hid hml
    have HFE := Lib.hid hF
    have HLF := Lib.hid hlF
    have hl7 : F.length ≤ 70 := by omega
    clear he hall hml hF hlF
    go_enter Tryz.func42, Tryz.ntmps42
    go_wp2_with fail
    refine bValidate_any f _ _ HFM.out _ ?_
    intro w1 hg1
    rw [HE.out]
    have HG1 := Lib.hid hg1
    clear hg1
    go_wp2_with fail
    refine all_any f _ _ (HFM.out.grow HG1.out) HALL.out hl70 _ ?_
    intro w3 v3 hg3 hv3
    have hv4 := hv3.slc encI_len
    rw [mskI_eq, HFE.out] at hv4
    have HG3 := Lib.hid (HG1.out.trans hg3)
    obtain ⟨a3, c3, rfl, jq⟩ := hv4
    have HV4 := Lib.hid (show IntsAt w3 (.slice a3 (nI F).length c3) (nI F) from ⟨a3, c3, rfl, jq⟩)
    rw [nI_len] at HV4 ⊢
    clear hg3 hv3 jq
    go_wp2_with fail
    go_loopw [5, 7, 16] (fun s _ i wr => ∃ k : Nat, k ≤ F.length ∧ i = .int .i64 k ∧ wr = w3 ∧ s = .int .i64 (tog (F.take k) : Int)) (fun _ _ i _ => F.length - (intOf i).toNat)
    case atStart => exact ⟨0, Nat.zero_le _, rfl, rfl, rfl⟩
    case round =>
      obtain ⟨k, hk, rfl, rfl, rfl⟩ := hrel
      by_cases hlt : k < F.length
      · obtain ⟨x, hx⟩ : ∃ x, F[k]? = some x := ⟨_, List.getElem?_eq_getElem hlt⟩
        obtain ⟨b, o, rfl, hb, e0⟩ := ints_at HV4.out (nI_at hx)
        have hlt2 : (k : Int) < (F.length : Int) := by omega
        have hx256 := HML.out x (List.mem_of_getElem? hx)
        have HTK := Lib.hid (tog_take hx)
        have hs256 : tog (F.take k) < 256 := tog_take_lt HML.out _
        have hbt := Mk.bits_or (tog (F.take k)) x hs256 hx256
        clear hx
        go_wp2_with fail
        go_roundw
        case rel => exact ⟨k + 1, by omega, by go_num, by first | rfl | trivial, by rw [HTK.out]⟩
        case measure => simp [intOf]; omega
      · have hkn : k = F.length := by omega
        subst hkn
        have HTL := Lib.hid (List.take_length (l := F))
        have hs256 : tog F < 256 := by have := (show tog (F.take F.length) < 256 from tog_take_lt HML.out _); rwa [List.take_length] at this
        rw [HTL.out]
        go_wp2_with fail
        refine members_any (tog F) hs256 _ _ ?_
        intro w5 v5 hg5 hv5
        have HF := Lib.hid (HR.out w5 v5 (HG3.out.trans hg5) (by rw [ifOK_ok]; exact hv5.slc encI_len))
        clear hg5 hv5
        go_wp2_with fail
        exact HF.out
  · have t1 : (e != 0) = true := by simpa using h0
    have HF := Lib.hid (fun w' h => HR.out w' (.slice none 0 0) h (by rw [ifOK_err h0]; exact SlcAt.nil _ _ _))
    clear h0 he
    go_enter Tryz.func42, Tryz.ntmps42
    go_wp2_with fail
    refine bValidate_any f _ _ HFM.out _ ?_
    intro w1 hg1
    rw [HE.out]
    have HF2 := Lib.hid (HF.out w1 hg1)
    clear hg1
    go_wp2_with fail
    exact HF2.out

end Go.Proofs.YtmlbgfnddgbpbaaGreat
