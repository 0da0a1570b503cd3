/-
The walk of the statements' sanity check: the chapter's examples hold.
The law BenchMerges: what two books are together.
-/
import Derived.Test.YtihdpbfhkddpcaaGreatDoorE37
import Derived.Test.YtihdpbfhkddpcaaGreatDoorE38
import Derived.Test.YtihdpbfhkddpcaaGreatDoorE45
import Derived.RegionTactic
import Derived.Deep.RegionHeld3
import Derived.Test.YtihdpbfhkddpcaaGreatDoorE47
namespace Go.Proofs.YtihdpbfhkddpcaaGreatDoor
open Go.RowKit

theorem sn_sum : Bk.sumL 0 (dl Sn.o1) = 821069 := by kernel_rfl
theorem sn_book : bkS [Sn.o1] = [56, 50, 49, 48, 54, 57, 32, 99, 104, 101, 99, 107, 10] := by
  unfold bkS
  show Bk.lineL (Bk.sumL 0 (dl Sn.o1)) (dl Sn.o1) ++ [] = _
  rw [sn_sum]
  unfold Bk.lineL
  simp [Lib.itoa, Lib.decDigits, dl, Sn.o1]
theorem sn_wr : tb (wrS [Sn.o1]) = ⟨#[56, 50, 49, 48, 54, 57, 32, 99, 104, 101, 99, 107, 10]⟩ ∧ wrE [Sn.o1] = 0 := by
  have h : okL [Sn.o1] = true := by decide +kernel
  constructor
  · unfold wrS
    rw [if_neg (by decide), h, if_pos rfl, sn_book]; rfl
  · unfold wrE
    rw [if_neg (by decide), h, if_pos rfl]
theorem lines_lit (w : World) (xs : List Ln) (T : TypeId) (hl : xs.length ≤ 1000) : LinesAt (w.alloc (.cells (xs.flatMap encL).toArray T)) (.slice (some ⟨w.heap.size, 0, none⟩) xs.length xs.length) xs := by
  refine ⟨_, xs.length, rfl, Nat.le_refl _, by omega, .inr ⟨w.heap.size, 0, rfl, by simp, fun j x hj i u hu => ?_⟩⟩
  rw [World.cell?_alloc_new, List.getElem?_toArray, Nat.zero_add]
  have hi : i < 4 := by
    have := (List.getElem?_eq_some_iff.1 hu).1
    rwa [encL_len] at this
  clear hl
  induction xs generalizing j with
  | nil => simp at hj
  | cons y r ih =>
    rw [List.flatMap_cons]
    cases j with
    | zero =>
      simp at hj; subst hj
      rw [Nat.zero_mul, Nat.zero_add, List.getElem?_append_left (by rw [encL_len]; exact hi)]
      exact hu
    | succ j =>
      rw [List.getElem?_append_right (by rw [encL_len]; omega), encL_len, show (j + 1) * 4 + i - 4 = j * 4 + i by omega]
      exact ih j (by simpa using hj)

def snT : Array Value := (Sn.ords.map Value.string).toArray
def snE : Array Value := (Sn.wants.map (Value.int .i64)).toArray
set_option maxRecDepth 100000 in
set_option maxHeartbeats 8000000 in
theorem sane_any (w : World) (hg : Glob w) (R : Ending → World → Prop) (hR : ∀ w', Grow w w' → R (.returned (.bool true)) w') :
    Calls Tryz.prog 10 #[] w R := by
  have HR := Lib.hid hR
  have HG := Lib.hid hg
  have hsz := hg.size
  clear hR hg
  go_enter Tryz.func10, Tryz.ntmps10
  go_wp2_with fail
  refine New_any Sn.p0 _ _ (lines_lit w Sn.p0 58 (by decide)) (by decide) _ ?_ ?_
  · intro hne; exact absurd Sn.val0 hne
  · intro _ w1 B hg1 hB hbn
    rw [World.size_alloc] at hB
    have hgw1 : Grow w w1 := ((Grow.refl w).alloc _).trans hg1
    have hBl := hbn.hid.bd B (by simp)
    have HG1 := Lib.hid hgw1
    have HBN := Lib.hid hbn
    clear hg1 hbn hgw1
    go_upto_region 6 with fail
    change Code.wp _ _ _ _ ((w1.alloc (.cells snT 9)).alloc (.cells snE 33))
    have hg13 : Grow w1 ((w1.alloc (.cells snT 9)).alloc (.cells snE 33)) := ((Grow.refl w1).alloc _).alloc _
    have hT : ((w1.alloc (.cells snT 9)).alloc (.cells snE 33)).heap[w1.heap.size]? = some (.cells snT 9 (0, 0)) := ((Grow.refl _).alloc _).blk (heap_alloc_new w1 (.cells snT 9))
    have hE : ((w1.alloc (.cells snT 9)).alloc (.cells snE 33)).heap[w1.heap.size + 1]? = some (.cells snE 33 (0, 0)) := by
      have := heap_alloc_new (w1.alloc (.cells snT 9)) (.cells snE 33)
      rw [World.size_alloc] at this
      exact this
    obtain ⟨w3, hw3⟩ : ∃ z : World, z = (w1.alloc (.cells snT 9)).alloc (.cells snE 33) := ⟨_, rfl⟩
    rw [← hw3] at hg13 hT hE ⊢
    obtain ⟨nT, hnT⟩ : ∃ z, w1.heap.size = z := ⟨_, rfl⟩
    obtain ⟨nE, hnE⟩ : ∃ z, w1.heap.size + 1 = z := ⟨_, rfl⟩
    rw [hnE] at hE ⊢
    rw [hnT] at hT ⊢
    have HB3 := Lib.hid (HBN.out.grow hg13)
    have HG3 := Lib.hid (HG1.out.trans hg13)
    have HT := Lib.hid hT
    have HE := Lib.hid hE
    have hTB : nT ≠ B := by omega
    have hEB : nE ≠ B := by omega
    have hB4 : 4 < B := by omega
    have hwB : w.heap.size ≤ B := by omega
    clear hw3 hg13 hT hE hnT hnE hBl HBN HG1
    go_wp2_with fail
    go_loopw [5] (fun s5 wr => ∃ k : Nat, k ≤ 7 ∧ s5 = .int .i64 k ∧ Chg B w3 wr ∧ BnAt (fun k => k == B) B wr (Sn.stN k)) (fun s5 _ => 7 - (intOf s5).toNat)
    case atStart => exact ⟨0, by decide, rfl, chg_refl B w3, HB3.out⟩
    case round =>
      obtain ⟨k, hk, rfl, hc, hbn⟩ := hrel
      have HC := Lib.hid hc
      have HBN := Lib.hid hbn
      clear hc hbn
      by_cases hlt : k < 7
      · have hltz : (k : Int) < 7 := by omega
        obtain ⟨t, ht⟩ : ∃ t, Sn.ords[k]? = some t := ⟨_, List.getElem?_eq_getElem (by show k < 7; omega)⟩
        obtain ⟨e, he⟩ : ∃ e, Sn.wants[k]? = some e := ⟨_, List.getElem?_eq_getElem (by show k < 7; omega)⟩
        have hts : t.size < 4294967281 := by
          have : ∀ u ∈ Sn.ords, u.size < 4294967281 := by decide +kernel
          exact this t (List.mem_of_getElem? ht)
        have HDO := Lib.hid (Sn.do_at k t e ht he)
        have HTK := Lib.hid (show snT[k]? = some (Value.string t) by unfold snT; rw [List.getElem?_toArray, List.getElem?_map, ht]; rfl)
        have HEK := Lib.hid (show snE[k]? = some (Value.int .i64 e) by unfold snE; rw [List.getElem?_toArray, List.getElem?_map, he]; rfl)
        have HOK := Lib.hid (Sn.okN k hk)
        clear ht he
        go_wp2_with fail
        refine wp_region_held_drew (S := fun X => Chg B w3 X) (by kernel_rfl) (HC.out.trans (Chg.of_grow (Grow.refl wr).drew)) (fun hH => ?_)
        refine wpAnyH_take (i := 0) (v := .pointer (some ⟨B, 0, none⟩)) rfl (by kernel_rfl) (by kernel_rfl) (by kernel_rfl) (fun _ _ _ h => h) (Or.inl ⟨by rfl, ?_⟩) hH ?_
        · intro w9 hw9
          go_simp
        try simp only [List.getElem_toArray, List.getElem_cons_zero, Act.put, List.setIfInBounds_toArray, List.set_cons_zero, List.set_cons_succ]
        refine wpAnyH_take (i := 1) (v := .slice (some ⟨nT, 0, none⟩) 7 7) rfl (by kernel_rfl) (by kernel_rfl) (by kernel_rfl) (fun _ _ _ h => h) (Or.inl ⟨by rfl, ?_⟩) hH ?_
        · intro w9 hw9
          go_simp
        try simp only [List.getElem_toArray, List.getElem_cons_succ, List.getElem_cons_zero, Act.put, List.setIfInBounds_toArray, List.set_cons_zero, List.set_cons_succ]
        refine wpAnyH_take (i := 2) (v := .int .i64 k) rfl (by kernel_rfl) (by kernel_rfl) (by kernel_rfl) (fun _ _ _ h => h) (Or.inl ⟨by rfl, ?_⟩) hH ?_
        · intro w9 hw9
          go_simp
        try simp only [List.getElem_toArray, List.getElem_cons_succ, List.getElem_cons_zero, Act.put, List.setIfInBounds_toArray, List.set_cons_zero, List.set_cons_succ]
        refine wpAnyH_take (i := 3) (v := .pointer (some ⟨nT, k, none⟩)) rfl (by kernel_rfl) (by kernel_rfl) (by kernel_rfl) (fun _ _ _ h => h) (Or.inl ⟨by rfl, ?_⟩) hH ?_
        · intro w9 hw9
          go_simp
        try simp only [List.getElem_toArray, List.getElem_cons_succ, List.getElem_cons_zero, Act.put, List.setIfInBounds_toArray, List.set_cons_zero, List.set_cons_succ]
        refine wpAnyH_take (i := 4) (v := .string t) rfl (by kernel_rfl) (by kernel_rfl) (by kernel_rfl) (fun _ _ _ h => h) (Or.inl ⟨by rfl, ?_⟩) hH ?_
        · intro w9 hw9
          have y9 := cellOf (Chg.blk hw9 hTB HT.out) k HTK.out
          go_simp
        try simp only [List.getElem_toArray, List.getElem_cons_succ, List.getElem_cons_zero, Act.put, List.setIfInBounds_toArray, List.set_cons_zero, List.set_cons_succ]
        refine wpAnyH_take (i := 6) (v := .slice (some ⟨nE, 0, none⟩) 7 7) rfl (by kernel_rfl) (by kernel_rfl) (by kernel_rfl) (fun _ _ _ h => h) (Or.inl ⟨by rfl, ?_⟩) hH ?_
        · intro w9 hw9
          go_simp
        try simp only [List.getElem_toArray, List.getElem_cons_succ, List.getElem_cons_zero, Act.put, List.setIfInBounds_toArray, List.set_cons_zero, List.set_cons_succ]
        refine wpAnyH_take (i := 7) (v := .int .i64 k) rfl (by kernel_rfl) (by kernel_rfl) (by kernel_rfl) (fun _ _ _ h => h) (Or.inl ⟨by rfl, ?_⟩) hH ?_
        · intro w9 hw9
          go_simp
        try simp only [List.getElem_toArray, List.getElem_cons_succ, List.getElem_cons_zero, Act.put, List.setIfInBounds_toArray, List.set_cons_zero, List.set_cons_succ]
        refine wpAnyH_take (i := 8) (v := .pointer (some ⟨nE, k, none⟩)) rfl (by kernel_rfl) (by kernel_rfl) (by kernel_rfl) (fun _ _ _ h => h) (Or.inl ⟨by rfl, ?_⟩) hH ?_
        · intro w9 hw9
          go_simp
        try simp only [List.getElem_toArray, List.getElem_cons_succ, List.getElem_cons_zero, Act.put, List.setIfInBounds_toArray, List.set_cons_zero, List.set_cons_succ]
        refine wpAnyH_take (i := 9) (v := .int .i64 e) rfl (by kernel_rfl) (by kernel_rfl) (by kernel_rfl) (fun _ _ _ h => h) (Or.inl ⟨by rfl, ?_⟩) hH ?_
        · intro w9 hw9
          have y9 := cellOf (Chg.blk hw9 hEB HE.out) k HEK.out
          go_simp
        try simp only [List.getElem_toArray, List.getElem_cons_succ, List.getElem_cons_zero, Act.put, List.setIfInBounds_toArray, List.set_cons_zero, List.set_cons_succ]
        refine wpAnyH_ready (rs := [5]) (by kernel_rfl) (by simp) ?_
        refine AllReadyH.cons rfl (fun K hK => ?_) AllReadyH.nil
        go_simp
        refine bDo_any (fun k => k == B) B t hts (Sn.stN k) _ ((HG.out.grow HG3.out).chg hH hB4) (HBN.out.grow (Grow.refl wr).drew) HOK.out hB4 _ ?_
        intro w5 hc5 hb5
        rw [HDO.out] at hb5 ⊢
        dsimp only at hb5 ⊢
        go_wp2_with fail
        have HB5 := Lib.hid hb5
        refine hK.out _ _ (hH.trans hc5) (fun hH2 => ?_)
        clear hK K hH
        have hH := hH2
        clear hH2
        try simp only [List.getElem_toArray, List.getElem_cons_succ, List.getElem_cons_zero, Act.put, List.setIfInBounds_toArray, List.set_cons_zero, List.set_cons_succ]
        clear hb5 hc5
        refine wpAnyH_take (i := 10) (v := .bool false) rfl (by kernel_rfl) (by kernel_rfl) (by kernel_rfl) (fun _ _ _ h => h) (Or.inl ⟨by rfl, ?_⟩) hH ?_
        · intro w9 hw9
          go_simp
        try simp only [List.getElem_toArray, List.getElem_cons_succ, List.getElem_cons_zero, Act.put, List.setIfInBounds_toArray, List.set_cons_zero, List.set_cons_succ]
        refine wpAnyH_done (by kernel_rfl) ?_ _
        have HC5 := Lib.hid hH
        clear hH
        go_wp2_with fail
        go_roundw
        case rel => exact ⟨k + 1, by omega, by go_num, HC5.out, HB5.out⟩
        case measure => simp [intOf]; omega
      · obtain rfl : k = 7 := by omega
        have HGW := Lib.hid (chg_grow HG3.out HC.out hwB)
        go_wp2_with fail
        refine Program_any (fun k => k == B) B (Sn.stN 7) _ HBN.out (Sn.okN 7 (by decide)) _ ?_
        intro w5 pv base hg5 hbs hpo
        rw [Sn.prog7] at hpo
        have hpl := slc_of_owns (xs := Sn.p1) encL_len hpo
        obtain ⟨pa, pc, rfl, p1, p2, jk⟩ := hpl
        have HPL := Lib.hid (slc_of_owns (xs := Sn.p1) encL_len hpo)
        have HG5 := Lib.hid (HGW.out.trans hg5)
        rw [show Sn.p1.length = 2 from rfl] at p1 HPL ⊢
        clear hg5 hpo jk
        go_wp2_with fail
        refine Write_any [Sn.o1] _ _ (HG.out.grow (HG5.out.alloc _)) (texts_lit w5 [Sn.o1] 9 (by decide)) (by decide +kernel) _ ?_
        intro w6 hg6
        rw [sn_wr.1, sn_wr.2]
        obtain ⟨b, o, rfl, hb, y0, y1, y2, y3⟩ := lines_at (HPL.out.grow (((Grow.refl w5).alloc (.cells (([Sn.o1] : List ByteArray).map Value.string).toArray 9)).trans hg6)) (k := 0) (op := 1) (d := 0) (x := 4) (y := 0) rfl
        rw [show o + 0 * 4 = o by omega] at y0 y1 y2 y3
        have HF := Lib.hid (HR.out w6 ((HG5.out.alloc _).trans hg6))
        clear hg6
        go_wp2_with fail
        exact HF.out
end Go.Proofs.YtihdpbfhkddpcaaGreatDoor

namespace Go.Proofs.YtihdpbfhkddpcaaGreatDoor
open Go.RowKit

set_option maxRecDepth 100000 in
set_option maxHeartbeats 4000000 in
theorem benchMerges_any (a b : ByteArray) (w : World) (hg : Glob w) (R : Ending → World → Prop) (hR : ∀ w', Grow w w' → R (.returned (.bool true)) w') :
    Calls Tryz.prog 6 #[.string a, .string b] w R := by
  have HR := Lib.hid hR
  have HG := Lib.hid hg
  clear hR hg
  go_enter Tryz.func6, Tryz.ntmps6
  by_cases ha : 20000 < a.size
  · have haz : decide ((a.size : Int) > 20000) = true := by rw [decide_eq_true_eq]; omega
    go_wp2_with fail
    refine sane_any _ HG.out _ ?_
    intro w1 hg1
    have HF := Lib.hid (HR.out w1 hg1)
    clear hg1
    go_wp2_with fail
    exact HF.out
  have haz : decide ((a.size : Int) > 20000) = false := by rw [decide_eq_false_iff_not]; omega
  by_cases hb : 20000 < b.size
  · have hbz : decide ((b.size : Int) > 20000) = true := by rw [decide_eq_true_eq]; omega
    go_wp2_with fail
    refine sane_any _ HG.out _ ?_
    intro w1 hg1
    have HF := Lib.hid (HR.out w1 hg1)
    clear hg1
    go_wp2_with fail
    exact HF.out
  have hbz : decide ((b.size : Int) > 20000) = false := by rw [decide_eq_false_iff_not]; omega
  obtain ⟨M, hM⟩ : ∃ M, mrgB a b = M := ⟨_, rfl⟩
  obtain ⟨x, n, e⟩ := M
  have HM := Lib.hid hM
  clear hM
  go_wp2_with fail
  refine Merge_any a b (by omega) (by omega) _ HG.out _ ?_
  intro w1 hg1
  rw [HM.out]
  dsimp only
  have HG1 := Lib.hid hg1
  clear hg1
  go_wp2_with fail
  refine rMerge_any a b (by omega) (by omega) _ (HG.out.grow HG1.out) _ ?_
  intro w2 hg2
  rw [HM.out]
  dsimp only
  have HG2 := Lib.hid (HG1.out.trans hg2)
  clear hg2
  go_wp2_with fail
  refine sane_any _ (HG.out.grow HG2.out) _ ?_
  intro w3 hg3
  have HF := Lib.hid (HR.out w3 (HG2.out.trans hg3))
  clear hg3
  go_wp2_with fail
  exact HF.out
end Go.Proofs.YtihdpbfhkddpcaaGreatDoor
