/-
The statement BlameAll: all sets of so many lines that are to blame are what the document says, for all programs, tests and numbers, and without failing tests all sets of lines that write are. No condition.
-/
import Derived.Test.YtmlbgfnddgbpbaaGreatD19
import Derived.Test.YtmlbgfnddgbpbaaGreatD33
import Derived.ProofKit
import Derived.Lib.SmallJoins
import Derived.Test.YtmlbgfnddgbpbaaGreatD23
namespace Go.Proofs.YtmlbgfnddgbpbaaGreat
open Go.RowKit
open Mk Bm

def wrN (p : List Ln) (k : Nat) : Nat := ((List.range k).filter fun j => wrB (p.getD j default).op).length
theorem wrN_succ (p : List Ln) (k : Nat) : wrN p (k + 1) = wrN p k + if wrB (p.getD k default).op then 1 else 0 := by
  unfold wrN
  rw [List.range_succ, List.filter_append, List.length_append, List.filter_cons, List.filter_nil]
  cases wrB (p.getD k default).op <;> rfl
theorem wrN_le (p : List Ln) (k : Nat) : wrN p k ≤ k := by unfold wrN; have := List.length_filter_le (fun j => wrB (p.getD j default).op) (List.range k); simpa using this
theorem wrN_all (p : List Ln) : wrN p p.length = nWr p 0 := by unfold wrN nWr; simp
def someM (p : List Ln) (n : Int) : Int := if n = 2 then ((nWr p 0 * (nWr p 0 - 1) / 2 : Nat) : Int) else (nWr p 0 : Int)
theorem some_len {p : List Ln} {ts : List Tst} {n : Int} (h : (whereL (fun t => !passM p t) ts).length = 0) (hn : n = 1 ∨ n = 2) : ((bmd p ts n.toNat).length : Int) = someM p n := by
  rw [bmd_len h]
  unfold someM
  rcases hn with rfl | rfl
  · rw [if_neg (by decide)]
    exact congrArg _ (comb_len1 p.length 0 [] (by omega))
  · rw [if_pos rfl]
    have := comb_len2 (p := p) p.length 0 [] (by omega)
    refine congrArg _ ?_
    show (comb p 2 [] 0).length = _
    omega
set_option maxRecDepth 100000 in
set_option maxHeartbeats 8000000 in
theorem some_any (p : List Ln) (hval : valP p = 0) (n : Int) (hn : n = 1 ∨ n = 2) (pv : Value) (w : World) (hp : LinesAt w pv p) (R : Ending → World → Prop) (hR : ∀ w', Grow w w' → R (.returned (.int .i64 (someM p n))) w') :
    Calls Tryz.prog 37 #[pv, .int .i64 n] w R := by
  have HP := Lib.hid hp
  have HR := Lib.hid hR
  have HVAL := Lib.hid hval
  have hp8 := (valP_ok.1 hval).1
  have HN := Lib.hid hn
  have HWA := Lib.hid (wrN_all p)
  obtain ⟨pa, pc, rfl, _⟩ := hp
  clear hR hval hn
  go_enter Tryz.func37, Tryz.ntmps37
  go_wp2_with fail
  go_loopw [5, 6, 7, 8, 9] (fun s i _ _ _ wr => ∃ k : Nat, k ≤ p.length ∧ i = .int .i64 k ∧ Grow w wr ∧ s = .int .i64 (wrN p k : Int)) (fun _ i _ _ _ _ => p.length - (intOf i).toNat)
  case atStart => exact ⟨0, Nat.zero_le _, rfl, Grow.refl _, rfl⟩
  case round =>
    obtain ⟨k, hk, rfl, hg, rfl⟩ := hrel
    have HG := Lib.hid hg
    clear hg
    have hwl := wrN_le p k
    by_cases hlt : k < p.length
    · obtain ⟨⟨op, d, a, b'⟩, hy⟩ : ∃ y, p[k]? = some y := ⟨_, List.getElem?_eq_getElem hlt⟩
      obtain ⟨gb, go, rfl, hgb, f0, f1, f2, f3⟩ := lines_at (HP.out.grow HG.out) hy
      have HWR := Lib.hid (wrI_at3 HVAL.out hy)
      have HWS := Lib.hid (wrN_succ p k)
      have hk2 : (k : Int) < (p.length : Int) := by omega
      clear hy
      go_wp2_with fail
      refine rWrites_any op d a b' _ _ ?_
      intro w5 hg5
      rw [HWR.out]
      have HG5 := Lib.hid (HG.out.trans hg5)
      obtain ⟨z1, hz1⟩ : ∃ z, wrO op d a b' = z := ⟨_, rfl⟩
      obtain ⟨z2, hz2⟩ : ∃ z, errB (vL op d a b') = z := ⟨_, rfl⟩
      rw [hz1, hz2]
      obtain ⟨q, hq⟩ : ∃ q, wrB (p.getD k default).op = q := ⟨_, rfl⟩
      rw [hq]
      rw [hq] at HWS
      obtain ⟨m, hm⟩ : ∃ m, wrN p k = m := ⟨_, rfl⟩
      rw [hm] at HWS hwl ⊢
      clear hg5 hz1 hz2 hq hm f0 f1 f2 f3
      cases q with
      | false =>
        go_wp2_with fail
        go_roundw
        case rel => exact ⟨k + 1, by omega, by go_num, HG5.out, by rw [HWS.out]; rfl⟩
        case measure => simp [intOf]; omega
      | true =>
        go_wp2_with fail
        go_roundw
        case rel => exact ⟨k + 1, by omega, by go_num, HG5.out, by rw [HWS.out]; first | rfl | go_num⟩
        case measure => simp [intOf]; omega
    · have hkn : k = p.length := by omega
      have hm0 : wrN p k = nWr p 0 := by rw [hkn]; exact HWA.out
      have hr := HR.out wr HG.out
      unfold someM at hr
      rw [hm0] at hwl ⊢
      obtain ⟨m, hm⟩ : ∃ m, nWr p 0 = m := ⟨_, rfl⟩
      rw [hm] at hwl hr ⊢
      have hk3 : ¬ (k : Int) < (p.length : Int) := by omega
      have hm8 : m ≤ 8 := by omega
      rcases HN.out with rfl | rfl
      · rw [if_neg (by decide)] at hr
        have HF := Lib.hid hr
        clear hr hm hm0 hkn
        go_wp2_with fail
        exact HF.out
      · rw [if_pos rfl] at hr
        have HF := Lib.hid hr
        clear hr hm hm0 hkn hwl
        have hcases : m = 0 ∨ m = 1 ∨ m = 2 ∨ m = 3 ∨ m = 4 ∨ m = 5 ∨ m = 6 ∨ m = 7 ∨ m = 8 := by omega
        clear hm8
        rcases hcases with rfl | rfl | rfl | rfl | rfl | rfl | rfl | rfl | rfl <;> (go_wp2_with fail; exact HF.out)
set_option maxRecDepth 100000 in
set_option maxHeartbeats 16000000 in
theorem blameAll_any (p : List Ln) (l : List Tst) (size : Int) (w : World) (vp vl : Value) (hp : LinesAt w vp p) (hl : TestsAt w vl l) (R : Ending → World → Prop) (hR : ∀ w', Grow w w' → R (.returned (.bool true)) w') :
    Calls Tryz.prog 7 #[vp, vl, .int .i64 size] w R := by
  have HR := Lib.hid hR
  have HP_ := Lib.hid hp
  obtain ⟨adp, cpp, rfl, qp1, qp2, _⟩ := hp
  have HL_ := Lib.hid hl
  obtain ⟨⟨adl, cpl, rfl, ql1, ql2, _⟩, _⟩ := hl
  clear hR
  obtain ⟨gq0, hgq0⟩ : ∃ z, decide (100 < p.length) = z := ⟨_, rfl⟩
  have HGD0 := Lib.hid hgq0
  clear hgq0
  cases gq0 with
  | true =>
    go_enter Tryz.func7, Tryz.ntmps7
    go_wp2_with fail
    refine long1_any p _ _ (by first | exact HP_.out | exact HP_.out.grow ((Grow.refl _).alloc _) | exact HP_.out.grow (((Grow.refl _).alloc _).alloc _) | exact HP_.out.grow ((((Grow.refl _).alloc _).alloc _).alloc _) | exact HP_.out.grow (((((Grow.refl _).alloc _).alloc _).alloc _).alloc _) | exact HP_.out.grow ((Grow.refl _).drewN _)) _ ?_
    rw [HGD0.out]
    go_wp2_with fail
    refine known3_any _ _ ?_
    intro wz1 hg1 
    have hgr1 : Grow w wz1 := by first | exact hg1 | exact Grow.trans ((Grow.refl _).alloc _) hg1 | exact Grow.trans (((Grow.refl _).alloc _).alloc _) hg1 | exact Grow.trans ((((Grow.refl _).alloc _).alloc _).alloc _) hg1 | exact Grow.trans (((((Grow.refl _).alloc _).alloc _).alloc _).alloc _) hg1 | exact Grow.trans ((Grow.refl _).drewN _) hg1
    have HP_1 := Lib.hid (HP_.out.grow hgr1)
    have HL_1 := Lib.hid (HL_.out.grow hgr1)
    have GCH1 := Lib.hid hgr1
    clear hg1 hgr1 HP_ HL_
    go_wp2_with fail
    first | exact HR.out _ (GCH1.out) | exact HR.out _ (Grow.trans GCH1.out ((Grow.refl _).alloc _)) | exact HR.out _ (Grow.trans GCH1.out (((Grow.refl _).alloc _).alloc _)) | exact HR.out _ (Grow.trans GCH1.out ((((Grow.refl _).alloc _).alloc _).alloc _)) | exact HR.out _ (Grow.trans GCH1.out (((((Grow.refl _).alloc _).alloc _).alloc _).alloc _)) | exact HR.out _ (Grow.trans GCH1.out ((Grow.refl _).drewN _))
  | false =>
    obtain ⟨gq1, hgq1⟩ : ∃ z, manyT l = z := ⟨_, rfl⟩
    have HGD1 := Lib.hid hgq1
    clear hgq1
    cases gq1 with
    | true =>
      go_enter Tryz.func7, Tryz.ntmps7
      go_wp2_with fail
      refine long1_any p _ _ (by first | exact HP_.out | exact HP_.out.grow ((Grow.refl _).alloc _) | exact HP_.out.grow (((Grow.refl _).alloc _).alloc _) | exact HP_.out.grow ((((Grow.refl _).alloc _).alloc _).alloc _) | exact HP_.out.grow (((((Grow.refl _).alloc _).alloc _).alloc _).alloc _) | exact HP_.out.grow ((Grow.refl _).drewN _)) _ ?_
      rw [HGD0.out]
      go_wp2_with fail
      refine manyT_any l _ _ (by first | exact HL_.out | exact HL_.out.grow ((Grow.refl _).alloc _) | exact HL_.out.grow (((Grow.refl _).alloc _).alloc _) | exact HL_.out.grow ((((Grow.refl _).alloc _).alloc _).alloc _) | exact HL_.out.grow (((((Grow.refl _).alloc _).alloc _).alloc _).alloc _) | exact HL_.out.grow ((Grow.refl _).drewN _)) _ ?_
      intro wz1 hg1 
      have hgr1 : Grow w wz1 := by first | exact hg1 | exact Grow.trans ((Grow.refl _).alloc _) hg1 | exact Grow.trans (((Grow.refl _).alloc _).alloc _) hg1 | exact Grow.trans ((((Grow.refl _).alloc _).alloc _).alloc _) hg1 | exact Grow.trans (((((Grow.refl _).alloc _).alloc _).alloc _).alloc _) hg1 | exact Grow.trans ((Grow.refl _).drewN _) hg1
      have HP_1 := Lib.hid (HP_.out.grow hgr1)
      have HL_1 := Lib.hid (HL_.out.grow hgr1)
      have GCH1 := Lib.hid hgr1
      clear hg1 hgr1 HP_ HL_
      rw [HGD1.out]
      go_wp2_with fail
      refine known3_any _ _ ?_
      intro wz2 hg2 
      have hgr2 : Grow wz1 wz2 := by first | exact hg2 | exact Grow.trans ((Grow.refl _).alloc _) hg2 | exact Grow.trans (((Grow.refl _).alloc _).alloc _) hg2 | exact Grow.trans ((((Grow.refl _).alloc _).alloc _).alloc _) hg2 | exact Grow.trans (((((Grow.refl _).alloc _).alloc _).alloc _).alloc _) hg2 | exact Grow.trans ((Grow.refl _).drewN _) hg2
      have HP_2 := Lib.hid (HP_1.out.grow hgr2)
      have HL_2 := Lib.hid (HL_1.out.grow hgr2)
      have GCH2 := Lib.hid (GCH1.out.trans hgr2)
      clear hg2 hgr2 HP_1 HL_1 GCH1
      go_wp2_with fail
      first | exact HR.out _ (GCH2.out) | exact HR.out _ (Grow.trans GCH2.out ((Grow.refl _).alloc _)) | exact HR.out _ (Grow.trans GCH2.out (((Grow.refl _).alloc _).alloc _)) | exact HR.out _ (Grow.trans GCH2.out ((((Grow.refl _).alloc _).alloc _).alloc _)) | exact HR.out _ (Grow.trans GCH2.out (((((Grow.refl _).alloc _).alloc _).alloc _).alloc _)) | exact HR.out _ (Grow.trans GCH2.out ((Grow.refl _).drewN _))
    | false =>
      obtain ⟨z, hz⟩ : ∃ z, bdE p l size = z := ⟨_, rfl⟩
      have HZ := Lib.hid hz
      obtain ⟨A, hA⟩ : ∃ z, bdO p l size = z := ⟨_, rfl⟩
      have HA := Lib.hid hA
      obtain ⟨c, hc⟩ : ∃ z, chkT p l = z := ⟨_, rfl⟩
      have HC := Lib.hid hc
      obtain ⟨B, hB⟩ : ∃ z, ifOK (chkT p l) (whereL (fun t => !passM p t) l) = z := ⟨_, rfl⟩
      have HB := Lib.hid hB
      have t2 : (z != z) = false := by simp
      have hmem : z = 0 → c = 0 ∧ (size = 1 ∨ size = 2) ∧ ∀ x ∈ A, ibE p l x = 0 ∧ ibB p l x = true ∧ (x.length : Int) = size := fun h0 => by
        have hz2 := hz
        unfold bdE at hz2
        rw [hc, h0] at hz2
        by_cases hc0 : c = 0
        · rw [if_pos hc0] at hz2
          cases hin : inB size 1 2 with
          | false => rw [hin] at hz2; cases hz2
          | true =>
            obtain ⟨i0, i1⟩ := inB_true.1 hin
            refine ⟨hc0, by omega, fun x hx => ?_⟩
            have hA2 : A = bmd p l size.toNat := by rw [← hA]; unfold bdO; rw [hz, h0, ifOK_ok]
            rw [hA2] at hx
            obtain ⟨m1, m2, m3⟩ := (mem_bmd (by omega)).1 hx
            have hi : ibE p l x = 0 := by unfold ibE; rw [hc, if_pos hc0]; exact m2
            exact ⟨hi, by unfold ibB; rw [decide_eq_true hi, m3]; rfl, by omega⟩
        · rw [if_neg hc0] at hz2; exact absurd hz2 hc0
      have hall : ∀ x ∈ A, ibE p l x = 0 ∧ ibB p l x = true ∧ (x.length : Int) = size := fun x hx => by
        by_cases h0 : z = 0
        · exact (hmem h0).2.2 x hx
        · rw [← hA] at hx; unfold bdO at hx; rw [hz, ifOK_err h0] at hx; cases hx
      have HALL := Lib.hid hall
      have HMEM := Lib.hid hmem
      clear hall hmem
      go_enter Tryz.func7, Tryz.ntmps7
      go_wp2_with fail
      refine long1_any p _ _ (by first | exact HP_.out | exact HP_.out.grow ((Grow.refl _).alloc _) | exact HP_.out.grow (((Grow.refl _).alloc _).alloc _) | exact HP_.out.grow ((((Grow.refl _).alloc _).alloc _).alloc _) | exact HP_.out.grow (((((Grow.refl _).alloc _).alloc _).alloc _).alloc _) | exact HP_.out.grow ((Grow.refl _).drewN _)) _ ?_
      rw [HGD0.out]
      go_wp2_with fail
      refine manyT_any l _ _ (by first | exact HL_.out | exact HL_.out.grow ((Grow.refl _).alloc _) | exact HL_.out.grow (((Grow.refl _).alloc _).alloc _) | exact HL_.out.grow ((((Grow.refl _).alloc _).alloc _).alloc _) | exact HL_.out.grow (((((Grow.refl _).alloc _).alloc _).alloc _).alloc _) | exact HL_.out.grow ((Grow.refl _).drewN _)) _ ?_
      intro wz1 hg1 
      have hgr1 : Grow w wz1 := by first | exact hg1 | exact Grow.trans ((Grow.refl _).alloc _) hg1 | exact Grow.trans (((Grow.refl _).alloc _).alloc _) hg1 | exact Grow.trans ((((Grow.refl _).alloc _).alloc _).alloc _) hg1 | exact Grow.trans (((((Grow.refl _).alloc _).alloc _).alloc _).alloc _) hg1 | exact Grow.trans ((Grow.refl _).drewN _) hg1
      have HP_1 := Lib.hid (HP_.out.grow hgr1)
      have HL_1 := Lib.hid (HL_.out.grow hgr1)
      have GCH1 := Lib.hid hgr1
      clear hg1 hgr1 HP_ HL_
      rw [HGD1.out]
      go_wp2_with fail
      refine Blamed_any p l size _ _ _ (by first | exact HP_1.out | exact HP_1.out.grow ((Grow.refl _).alloc _) | exact HP_1.out.grow (((Grow.refl _).alloc _).alloc _) | exact HP_1.out.grow ((((Grow.refl _).alloc _).alloc _).alloc _) | exact HP_1.out.grow (((((Grow.refl _).alloc _).alloc _).alloc _).alloc _) | exact HP_1.out.grow ((Grow.refl _).drewN _)) (by first | exact HL_1.out | exact HL_1.out.grow ((Grow.refl _).alloc _) | exact HL_1.out.grow (((Grow.refl _).alloc _).alloc _) | exact HL_1.out.grow ((((Grow.refl _).alloc _).alloc _).alloc _) | exact HL_1.out.grow (((((Grow.refl _).alloc _).alloc _).alloc _).alloc _) | exact HL_1.out.grow ((Grow.refl _).drewN _)) _ ?_
      intro wz2 x2_0 hg2 hx2_0
      have hgr2 : Grow wz1 wz2 := by first | exact hg2 | exact Grow.trans ((Grow.refl _).alloc _) hg2 | exact Grow.trans (((Grow.refl _).alloc _).alloc _) hg2 | exact Grow.trans ((((Grow.refl _).alloc _).alloc _).alloc _) hg2 | exact Grow.trans (((((Grow.refl _).alloc _).alloc _).alloc _).alloc _) hg2 | exact Grow.trans ((Grow.refl _).drewN _) hg2
      have HP_2 := Lib.hid (HP_1.out.grow hgr2)
      have HL_2 := Lib.hid (HL_1.out.grow hgr2)
      have GCH2 := Lib.hid (GCH1.out.trans hgr2)
      clear hg2 hgr2 HP_1 HL_1 GCH1
      rw [HA.out] at hx2_0
      have hyHFAMA_2 := hx2_0
      have HFAMA_2 := Lib.hid hyHFAMA_2
      obtain ⟨aHFAMA_2, cHFAMA_2, rfl, qHFAMA_21, qHFAMA_22⟩ := FamAt.out hyHFAMA_2
      clear hx2_0
      rw [HZ.out]
      go_wp2_with fail
      refine r3Blamed_any p l size _ _ _ (by first | exact HP_2.out | exact HP_2.out.grow ((Grow.refl _).alloc _) | exact HP_2.out.grow (((Grow.refl _).alloc _).alloc _) | exact HP_2.out.grow ((((Grow.refl _).alloc _).alloc _).alloc _) | exact HP_2.out.grow (((((Grow.refl _).alloc _).alloc _).alloc _).alloc _) | exact HP_2.out.grow ((Grow.refl _).drewN _)) (by first | exact HL_2.out | exact HL_2.out.grow ((Grow.refl _).alloc _) | exact HL_2.out.grow (((Grow.refl _).alloc _).alloc _) | exact HL_2.out.grow ((((Grow.refl _).alloc _).alloc _).alloc _) | exact HL_2.out.grow (((((Grow.refl _).alloc _).alloc _).alloc _).alloc _) | exact HL_2.out.grow ((Grow.refl _).drewN _)) _ ?_
      intro wz3 x3_0 hg3 hx3_0
      have hgr3 : Grow wz2 wz3 := by first | exact hg3 | exact Grow.trans ((Grow.refl _).alloc _) hg3 | exact Grow.trans (((Grow.refl _).alloc _).alloc _) hg3 | exact Grow.trans ((((Grow.refl _).alloc _).alloc _).alloc _) hg3 | exact Grow.trans (((((Grow.refl _).alloc _).alloc _).alloc _).alloc _) hg3 | exact Grow.trans ((Grow.refl _).drewN _) hg3
      have HP_3 := Lib.hid (HP_2.out.grow hgr3)
      have HL_3 := Lib.hid (HL_2.out.grow hgr3)
      have HFAMA_3 := Lib.hid (HFAMA_2.out.grow hgr3)
      have GCH3 := Lib.hid (GCH2.out.trans hgr3)
      clear hg3 hgr3 HP_2 HL_2 HFAMA_2 GCH2
      rw [HA.out] at hx3_0
      have hyHFAMB_3 := hx3_0
      have HFAMB_3 := Lib.hid hyHFAMB_3
      obtain ⟨aHFAMB_3, cHFAMB_3, rfl, qHFAMB_31, qHFAMB_32⟩ := FamAt.out hyHFAMB_3
      clear hx3_0
      rw [HZ.out]
      go_wp2_with fail
      clear hA hz hc hB
      refine sameF_any A A _ _ _ (by first | exact HFAMA_3.out | exact HFAMA_3.out.grow ((Grow.refl _).alloc _) | exact HFAMA_3.out.grow (((Grow.refl _).alloc _).alloc _) | exact HFAMA_3.out.grow ((((Grow.refl _).alloc _).alloc _).alloc _) | exact HFAMA_3.out.grow (((((Grow.refl _).alloc _).alloc _).alloc _).alloc _) | exact HFAMA_3.out.grow ((Grow.refl _).drewN _)) (by first | exact HFAMB_3.out | exact HFAMB_3.out.grow ((Grow.refl _).alloc _) | exact HFAMB_3.out.grow (((Grow.refl _).alloc _).alloc _) | exact HFAMB_3.out.grow ((((Grow.refl _).alloc _).alloc _).alloc _) | exact HFAMB_3.out.grow (((((Grow.refl _).alloc _).alloc _).alloc _).alloc _) | exact HFAMB_3.out.grow ((Grow.refl _).drewN _)) _ ?_
      intro wz4 hg4 
      have hgr4 : Grow wz3 wz4 := by first | exact hg4 | exact Grow.trans ((Grow.refl _).alloc _) hg4 | exact Grow.trans (((Grow.refl _).alloc _).alloc _) hg4 | exact Grow.trans ((((Grow.refl _).alloc _).alloc _).alloc _) hg4 | exact Grow.trans (((((Grow.refl _).alloc _).alloc _).alloc _).alloc _) hg4 | exact Grow.trans ((Grow.refl _).drewN _) hg4
      have HP_4 := Lib.hid (HP_3.out.grow hgr4)
      have HL_4 := Lib.hid (HL_3.out.grow hgr4)
      have HFAMA_4 := Lib.hid (HFAMA_3.out.grow hgr4)
      have HFAMB_4 := Lib.hid (HFAMB_3.out.grow hgr4)
      have GCH4 := Lib.hid (GCH3.out.trans hgr4)
      clear hg4 hgr4 HP_3 HL_3 HFAMA_3 HFAMB_3 GCH3
      rw [show decide (A = A) = true from decide_eq_true rfl]
      go_wp2_with fail
      go_loopw [11, 12, 13] (fun i _ _ wr => ∃ k : Nat, k ≤ A.length ∧ i = .int .i64 k ∧ Grow wz4 wr) (fun i _ _ _ => A.length - (intOf i).toNat)
      case atStart => exact ⟨0, Nat.zero_le _, rfl, Grow.refl _⟩
      case round =>
        obtain ⟨k, hk, rfl, hg⟩ := hrel
        have HG := Lib.hid hg
        by_cases hlt : k < A.length
        · clear hg
          obtain ⟨x, hx⟩ : ∃ x, A[k]? = some x := ⟨_, List.getElem?_eq_getElem hlt⟩
          obtain ⟨x1, x2, x3⟩ := HALL.out x (List.mem_of_getElem? hx)
          obtain ⟨b, o, ta, tc, hoa, hb, e0, hi⟩ := fam_at (HFAMA_4.out.grow HG.out) hx
          subst hoa
          have HI := Lib.hid hi
          have hlt2 : (k : Int) < (A.length : Int) := by omega
          have HX1 := Lib.hid x1
          have HX2 := Lib.hid x2
          have HX3 := Lib.hid x3
          have hxl : x.length ≤ 1000000 := by
            have h := HX1.out; have h2 := HX2.out
            unfold ibB at h2
            unfold ibE at h
            by_cases hc0 : chkT p l = 0
            · rw [if_pos hc0] at h; have := (lnE_ok.1 h).2.2.1; omega
            · rw [if_neg hc0] at h; exact absurd h hc0
          have t3 : ((x.length : Int) != size) = false := by rw [HX3.out]; simp
          clear hx hi x1 x2 x3
          go_wp2_with fail
          refine IsToBlame_any p l x _ _ _ _ (HP_4.out.grow HG.out) (HL_4.out.grow HG.out) HI.out hxl _ ?_
          intro w9 hg9
          rw [HX1.out, HX2.out]
          have HG9 := Lib.hid (HG.out.trans hg9)
          have e1 := hg9.cell e0
          have hb2 := Nat.lt_of_lt_of_le hb hg9.sz
          clear hg9 e0
          go_wp2_with fail
          go_roundw
          case rel => exact ⟨k + 1, by omega, by go_num, HG9.out⟩
          case measure => simp [intOf]; omega
        · have hlt2 : ¬ (k : Int) < (A.length : Int) := by omega
          have hgr5 : Grow wz4 wr := by first | exact hg | exact Grow.trans ((Grow.refl _).alloc _) hg | exact Grow.trans (((Grow.refl _).alloc _).alloc _) hg | exact Grow.trans ((((Grow.refl _).alloc _).alloc _).alloc _) hg | exact Grow.trans (((((Grow.refl _).alloc _).alloc _).alloc _).alloc _) hg | exact Grow.trans ((Grow.refl _).drewN _) hg
          have HP_5 := Lib.hid (HP_4.out.grow hgr5)
          have HL_5 := Lib.hid (HL_4.out.grow hgr5)
          have HFAMA_5 := Lib.hid (HFAMA_4.out.grow hgr5)
          have HFAMB_5 := Lib.hid (HFAMB_4.out.grow hgr5)
          have GCH5 := Lib.hid (GCH4.out.trans hgr5)
          clear hg hgr5 HP_4 HL_4 HFAMA_4 HFAMB_4 GCH4
          go_wp2_with fail
          refine Failing_any p l _ _ _ (by first | exact HP_5.out | exact HP_5.out.grow ((Grow.refl _).alloc _) | exact HP_5.out.grow (((Grow.refl _).alloc _).alloc _) | exact HP_5.out.grow ((((Grow.refl _).alloc _).alloc _).alloc _) | exact HP_5.out.grow (((((Grow.refl _).alloc _).alloc _).alloc _).alloc _) | exact HP_5.out.grow ((Grow.refl _).drewN _)) (by first | exact HL_5.out | exact HL_5.out.grow ((Grow.refl _).alloc _) | exact HL_5.out.grow (((Grow.refl _).alloc _).alloc _) | exact HL_5.out.grow ((((Grow.refl _).alloc _).alloc _).alloc _) | exact HL_5.out.grow (((((Grow.refl _).alloc _).alloc _).alloc _).alloc _) | exact HL_5.out.grow ((Grow.refl _).drewN _)) _ ?_
          intro wz6 x6_0 hg6 hx6_0
          have hgr6 : Grow wr wz6 := by first | exact hg6 | exact Grow.trans ((Grow.refl _).alloc _) hg6 | exact Grow.trans (((Grow.refl _).alloc _).alloc _) hg6 | exact Grow.trans ((((Grow.refl _).alloc _).alloc _).alloc _) hg6 | exact Grow.trans (((((Grow.refl _).alloc _).alloc _).alloc _).alloc _) hg6 | exact Grow.trans ((Grow.refl _).drewN _) hg6
          have HP_6 := Lib.hid (HP_5.out.grow hgr6)
          have HL_6 := Lib.hid (HL_5.out.grow hgr6)
          have HFAMA_6 := Lib.hid (HFAMA_5.out.grow hgr6)
          have HFAMB_6 := Lib.hid (HFAMB_5.out.grow hgr6)
          have GCH6 := Lib.hid (GCH5.out.trans hgr6)
          clear hg6 hgr6 HP_5 HL_5 HFAMA_5 HFAMB_5 GCH5
          rw [HB.out] at hx6_0
          have hyHXB_6 := hx6_0.slc encI_len
          have HXB_6 := Lib.hid hyHXB_6
          obtain ⟨aHXB_6, cHXB_6, rfl, qHXB_61, qHXB_62, _⟩ := hyHXB_6
          clear hx6_0
          rw [HC.out]
          by_cases h0 : z = 0
          rotate_left
          · have t1 : (z != 0) = true := by simpa using h0
            clear h0
            go_wp2_with fail
            refine known3_any _ _ ?_
            intro wz7 hg7 
            have hgr7 : Grow wz6 wz7 := by first | exact hg7 | exact Grow.trans ((Grow.refl _).alloc _) hg7 | exact Grow.trans (((Grow.refl _).alloc _).alloc _) hg7 | exact Grow.trans ((((Grow.refl _).alloc _).alloc _).alloc _) hg7 | exact Grow.trans (((((Grow.refl _).alloc _).alloc _).alloc _).alloc _) hg7 | exact Grow.trans ((Grow.refl _).drewN _) hg7
            have HP_7 := Lib.hid (HP_6.out.grow hgr7)
            have HL_7 := Lib.hid (HL_6.out.grow hgr7)
            have HFAMA_7 := Lib.hid (HFAMA_6.out.grow hgr7)
            have HFAMB_7 := Lib.hid (HFAMB_6.out.grow hgr7)
            have HXB_7 := Lib.hid (HXB_6.out.grow hgr7)
            have GCH7 := Lib.hid (GCH6.out.trans hgr7)
            clear hg7 hgr7 HP_6 HL_6 HFAMA_6 HFAMB_6 HXB_6 GCH6
            go_wp2_with fail
            first | exact HR.out _ (GCH7.out) | exact HR.out _ (Grow.trans GCH7.out ((Grow.refl _).alloc _)) | exact HR.out _ (Grow.trans GCH7.out (((Grow.refl _).alloc _).alloc _)) | exact HR.out _ (Grow.trans GCH7.out ((((Grow.refl _).alloc _).alloc _).alloc _)) | exact HR.out _ (Grow.trans GCH7.out (((((Grow.refl _).alloc _).alloc _).alloc _).alloc _)) | exact HR.out _ (Grow.trans GCH7.out ((Grow.refl _).drewN _))
          subst h0
          obtain ⟨hc0, hsz, _⟩ := HMEM.out rfl
          subst hc0
          by_cases hbl : 0 < B.length
          · have t4 : decide ((B.length : Int) > 0) = true := decide_eq_true (by omega)
            have t5 : (0 : Int) < (B.length : Int) := by omega
            have t6 : 0 < B.length := hbl
            go_wp2_with fail
            refine known3_any _ _ ?_
            intro wz7 hg7 
            have hgr7 : Grow wz6 wz7 := by first | exact hg7 | exact Grow.trans ((Grow.refl _).alloc _) hg7 | exact Grow.trans (((Grow.refl _).alloc _).alloc _) hg7 | exact Grow.trans ((((Grow.refl _).alloc _).alloc _).alloc _) hg7 | exact Grow.trans (((((Grow.refl _).alloc _).alloc _).alloc _).alloc _) hg7 | exact Grow.trans ((Grow.refl _).drewN _) hg7
            have HP_7 := Lib.hid (HP_6.out.grow hgr7)
            have HL_7 := Lib.hid (HL_6.out.grow hgr7)
            have HFAMA_7 := Lib.hid (HFAMA_6.out.grow hgr7)
            have HFAMB_7 := Lib.hid (HFAMB_6.out.grow hgr7)
            have HXB_7 := Lib.hid (HXB_6.out.grow hgr7)
            have GCH7 := Lib.hid (GCH6.out.trans hgr7)
            clear hg7 hgr7 HP_6 HL_6 HFAMA_6 HFAMB_6 HXB_6 GCH6
            go_wp2_with fail
            first | exact HR.out _ (GCH7.out) | exact HR.out _ (Grow.trans GCH7.out ((Grow.refl _).alloc _)) | exact HR.out _ (Grow.trans GCH7.out (((Grow.refl _).alloc _).alloc _)) | exact HR.out _ (Grow.trans GCH7.out ((((Grow.refl _).alloc _).alloc _).alloc _)) | exact HR.out _ (Grow.trans GCH7.out (((((Grow.refl _).alloc _).alloc _).alloc _).alloc _)) | exact HR.out _ (Grow.trans GCH7.out ((Grow.refl _).drewN _))
          · have hb0 : B.length = 0 := by omega
            have hBw : B = whereL (fun t => !passM p t) l := by have := HB.out; rw [HC.out, ifOK_ok] at this; exact this.symm
            have hAb : A = bmd p l size.toNat := by have := HA.out; unfold bdO at this; rw [HZ.out, ifOK_ok] at this; exact this.symm
            have HSM := Lib.hid (show someM p size = (A.length : Int) by rw [hAb]; exact (some_len (by rw [← hBw]; exact hb0) hsz).symm)
            have HVAL := Lib.hid (chkT_ok.1 HC.out).1
            have t4 : ((A.length : Int) == (A.length : Int)) = true := by simp
            rw [hb0]
            clear hBw hAb hbl
            go_wp2_with fail
            refine some_any p HVAL.out size hsz _ _ (by first | exact HP_6.out | exact HP_6.out.grow ((Grow.refl _).alloc _) | exact HP_6.out.grow (((Grow.refl _).alloc _).alloc _) | exact HP_6.out.grow ((((Grow.refl _).alloc _).alloc _).alloc _) | exact HP_6.out.grow (((((Grow.refl _).alloc _).alloc _).alloc _).alloc _) | exact HP_6.out.grow ((Grow.refl _).drewN _)) _ ?_
            intro wz7 hg7 
            have hgr7 : Grow wz6 wz7 := by first | exact hg7 | exact Grow.trans ((Grow.refl _).alloc _) hg7 | exact Grow.trans (((Grow.refl _).alloc _).alloc _) hg7 | exact Grow.trans ((((Grow.refl _).alloc _).alloc _).alloc _) hg7 | exact Grow.trans (((((Grow.refl _).alloc _).alloc _).alloc _).alloc _) hg7 | exact Grow.trans ((Grow.refl _).drewN _) hg7
            have HP_7 := Lib.hid (HP_6.out.grow hgr7)
            have HL_7 := Lib.hid (HL_6.out.grow hgr7)
            have HFAMA_7 := Lib.hid (HFAMA_6.out.grow hgr7)
            have HFAMB_7 := Lib.hid (HFAMB_6.out.grow hgr7)
            have HXB_7 := Lib.hid (HXB_6.out.grow hgr7)
            have GCH7 := Lib.hid (GCH6.out.trans hgr7)
            clear hg7 hgr7 HP_6 HL_6 HFAMA_6 HFAMB_6 HXB_6 GCH6
            rw [HSM.out]
            go_wp2_with fail
            refine known3_any _ _ ?_
            intro wz8 hg8 
            have hgr8 : Grow wz7 wz8 := by first | exact hg8 | exact Grow.trans ((Grow.refl _).alloc _) hg8 | exact Grow.trans (((Grow.refl _).alloc _).alloc _) hg8 | exact Grow.trans ((((Grow.refl _).alloc _).alloc _).alloc _) hg8 | exact Grow.trans (((((Grow.refl _).alloc _).alloc _).alloc _).alloc _) hg8 | exact Grow.trans ((Grow.refl _).drewN _) hg8
            have HP_8 := Lib.hid (HP_7.out.grow hgr8)
            have HL_8 := Lib.hid (HL_7.out.grow hgr8)
            have HFAMA_8 := Lib.hid (HFAMA_7.out.grow hgr8)
            have HFAMB_8 := Lib.hid (HFAMB_7.out.grow hgr8)
            have HXB_8 := Lib.hid (HXB_7.out.grow hgr8)
            have GCH8 := Lib.hid (GCH7.out.trans hgr8)
            clear hg8 hgr8 HP_7 HL_7 HFAMA_7 HFAMB_7 HXB_7 GCH7
            go_wp2_with fail
            first | exact HR.out _ (GCH8.out) | exact HR.out _ (Grow.trans GCH8.out ((Grow.refl _).alloc _)) | exact HR.out _ (Grow.trans GCH8.out (((Grow.refl _).alloc _).alloc _)) | exact HR.out _ (Grow.trans GCH8.out ((((Grow.refl _).alloc _).alloc _).alloc _)) | exact HR.out _ (Grow.trans GCH8.out (((((Grow.refl _).alloc _).alloc _).alloc _).alloc _)) | exact HR.out _ (Grow.trans GCH8.out ((Grow.refl _).drewN _))
end Go.Proofs.YtmlbgfnddgbpbaaGreat

namespace Go.Proofs.YtmlbgfnddgbpbaaGreat
open Go.ChangeShapes Go.WideShapes Go.ChangeAt Go.RowKit

theorem Tryz.own : ownKnob Tryz.prog.godebug = none := by kernel_rfl
theorem Tryz.laidOut : laidOutB Tryz.prog = true := by kernel_rfl

set_option maxRecDepth 100000 in
set_option maxHeartbeats 4000000 in
theorem blameAll_lifted (os : Os) (started : os.Started) (H : Type) (enc : TypeId × Value → H) :
    ReturnsInHanded {} Tryz.checked os 7 .any (Rows.blameAllSpec.pre6 enc Tryz.prog Tryz.f7 Rows.blameAllRow.domain false) (Rows.blameAllSpec.post enc Tryz.prog Tryz.f7 false true false false) := by
  refine returnsInHanded_of_change (C := Tryz.checked) Tryz.own started (by kernel_rfl) Tryz.func7
    (ChangeSpec.witness6 (enc := enc) (C := Tryz.checked) false ⟨#[], #[.slice none 0 0, .slice none 0 0, .int .i64 0], []⟩ 8 (by kernel_rfl) (by kernel_rfl) (by kernel_rfl) (by kernel_rfl)) ?_
  intro W base args ds gs before hval0 hW hcnd _
  have hval : ∀ (j : Nat) t v, Tryz.f7.params[j]? = some t → args[j]? = some v → Value.okWide Tryz.prog W .any base t v := hval0
  have hW' := hW
  obtain ⟨p, q, hA0, hV, rfl, hfz, hnd⟩ := hW
  have hA : DataW.TrodAll enc Tryz.prog W 0 (fun _ => true) true Tryz.f7.params.toList args.toList ds p := hA0
  rw [Tryz.params7] at hA hval
  obtain ⟨v0, v1, v2, d0, d1, d2, p0, p1, p2, rfl, rfl, rfl, h0, h1, h2⟩ := trodAll_three hA
  obtain ⟨rfl, rfl⟩ := trodVars_none hV
  have hk0 := h0
  have hk1 := h1
  have hk2 := h2
  obtain ⟨x0, hx0⟩ := arg_lines (hval 0 35 v0 rfl rfl) h0
  obtain ⟨x1, hx1⟩ := arg_tests (hval 1 43 v1 rfl rfl) h1
  obtain ⟨x2, rfl, _, _, wx2⟩ := open_int Tryz.underlying3 (hval 2 3 v2 rfl rfl) h2
  clear hA0 hval0
  refine Calls.mono (blameAll_any x0 x1 x2 W v0 v1 hx0 hx1 (fun e W' => e = .returned (.bool true) ∧ Grow W W') (fun W' hg => ⟨rfl, hg⟩)) fun e W' ⟨he, hB⟩ => ?_
  subst he
  have hlt0 : ∀ x ∈ p0, x.block < W.heap.size := fun x hx => hW'.lt x (List.mem_append_left _ (List.mem_append_left _ (List.mem_append_left _ (hx))))
  have ht0 := Below.trod Tryz.laidOut (by kernel_rfl) (of_decide_eq_true (by kernel_rfl)) hk0 hB hlt0
  have hlt1 : ∀ x ∈ p1, x.block < W.heap.size := fun x hx => hW'.lt x (List.mem_append_left _ (List.mem_append_left _ (List.mem_append_right _ hx)))
  have ht1 := Below.trod Tryz.laidOut (by kernel_rfl) (of_decide_eq_true (by kernel_rfl)) hk1 hB hlt1
  have hlt2 : ∀ x ∈ p2, x.block < W.heap.size := fun x hx => hW'.lt x (List.mem_append_left _ (List.mem_append_right _ hx))
  have ht2 := Below.trod Tryz.laidOut (by kernel_rfl) (of_decide_eq_true (by kernel_rfl)) hk2 hB hlt2
  exact ⟨_, rfl, _, _, _, [], _, [], hW', trodAll_mk1 (shut_bool Tryz.underlying4 true), trodAll_mk3 ht0 ht1 ht2, rfl, hB.frame _, fun h => by cases h⟩

theorem blameAll_holds : Rows.BlameAllSaid :=
  OpenClaim.holds_of_wide 7 Tryz.f7 rfl rfl rfl rfl rfl rfl rfl ⟨rfl, rfl, rfl, rfl, rfl⟩ rfl rfl rfl rfl rfl (by kernel_rfl) Tryz.func7 (by kernel_rfl)
    (of_decide_eq_true (by kernel_rfl)) (by unfold Func.isWrapper; first | (rw [if_pos (by decide +kernel)]; kernel_rfl) | (rw [if_neg (by decide +kernel)]; exact ⟨rfl, rfl⟩))
    (fun os started H enc _ => blameAll_lifted os started H enc)

end Go.Proofs.YtmlbgfnddgbpbaaGreat
