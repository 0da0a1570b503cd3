/-
The statement BenchUndoes: a put that is taken is undone, for all programs, orders and texts. No condition but the laid variables, which the card ties.
-/
import Derived.Test.YtihdpbfhkddpcaaGreatDoorG37
import Derived.Test.YtihdpbfhkddpcaaGreatDoorG38
import Derived.Test.YtihdpbfhkddpcaaGreatDoorG45
import Derived.RegionTactic
import Derived.Deep.RegionHeld3
import Derived.Test.YtihdpbfhkddpcaaGreatDoorG01
import Derived.Test.YtihdpbfhkddpcaaGreatDoorG24
import Derived.Test.YtihdpbfhkddpcaaGreatDoorG47
import Derived.Test.YtihdpbfhkddpcaaGreatDoorG48
import Derived.Test.YtihdpbfhkddpcaaGreatDoorG20
import Derived.Test.YtihdpbfhkddpcaaGreatDoorG00
import Derived.Test.YtihdpbfhkddpcaaGreatDoorRows
import Derived.Deep.QuietTactic
import Derived.BigQuiet
import Derived.Test.YtihdpbfhkddpcaaGreatDoorG21
import Derived.Test.YtihdpbfhkddpcaaGreatDoorG49
import Derived.Test.YtihdpbfhkddpcaaGreatDoorG50
import Derived.Test.YtihdpbfhkddpcaaGreatDoorG51
import Derived.Test.YtihdpbfhkddpcaaGreatDoorCards
import Derived.Lib.SmallJoins
namespace Go.Proofs.YtihdpbfhkddpcaaGreatDoor
open Go.RowKit

theorem sn_sum : Bk.sumL 0 (dl Sn.o1) = 821069 := by kernel_rfl
theorem sn_book : bkS [Sn.o1] = [56, 50, 49, 48, 54, 57, 32, 99, 104, 101, 99, 107, 10] := by
  unfold bkS
  show Bk.lineL (Bk.sumL 0 (dl Sn.o1)) (dl Sn.o1) ++ [] = _
  rw [sn_sum]
  unfold Bk.lineL
  simp [Lib.itoa, Lib.decDigits, dl, Sn.o1]
theorem sn_wr : tb (wrS [Sn.o1]) = ⟨#[56, 50, 49, 48, 54, 57, 32, 99, 104, 101, 99, 107, 10]⟩ ∧ wrE [Sn.o1] = 0 := by
  have h : okL [Sn.o1] = true := by decide +kernel
  constructor
  · unfold wrS
    rw [if_neg (by decide), h, if_pos rfl, sn_book]; rfl
  · unfold wrE
    rw [if_neg (by decide), h, if_pos rfl]
theorem lines_lit (w : World) (xs : List Ln) (T : TypeId) (hl : xs.length ≤ 1000) : LinesAt (w.alloc (.cells (xs.flatMap encL).toArray T)) (.slice (some ⟨w.heap.size, 0, none⟩) xs.length xs.length) xs := by
  refine ⟨_, xs.length, rfl, Nat.le_refl _, by omega, .inr ⟨w.heap.size, 0, rfl, by simp, fun j x hj i u hu => ?_⟩⟩
  rw [World.cell?_alloc_new, List.getElem?_toArray, Nat.zero_add]
  have hi : i < 4 := by
    have := (List.getElem?_eq_some_iff.1 hu).1
    rwa [encL_len] at this
  clear hl
  induction xs generalizing j with
  | nil => simp at hj
  | cons y r ih =>
    rw [List.flatMap_cons]
    cases j with
    | zero =>
      simp at hj; subst hj
      rw [Nat.zero_mul, Nat.zero_add, List.getElem?_append_left (by rw [encL_len]; exact hi)]
      exact hu
    | succ j =>
      rw [List.getElem?_append_right (by rw [encL_len]; omega), encL_len, show (j + 1) * 4 + i - 4 = j * 4 + i by omega]
      exact ih j (by simpa using hj)

def snT : Array Value := (Sn.ords.map Value.string).toArray
def snE : Array Value := (Sn.wants.map (Value.int .i64)).toArray
set_option maxRecDepth 100000 in
set_option maxHeartbeats 8000000 in
theorem sane_any (w : World) (hg : Glob w) (R : Ending → World → Prop) (hR : ∀ w', Grow w w' → R (.returned (.bool true)) w') :
    Calls Tryz.prog 10 #[] w R := by
  have HR := Lib.hid hR
  have HG := Lib.hid hg
  have hsz := hg.size
  clear hR hg
  go_enter Tryz.func10, Tryz.ntmps10
  go_wp2_with fail
  refine New_any Sn.p0 _ _ (lines_lit w Sn.p0 58 (by decide)) (by decide) _ ?_ ?_
  · intro hne; exact absurd Sn.val0 hne
  · intro _ w1 B hg1 hB hbn
    rw [World.size_alloc] at hB
    have hgw1 : Grow w w1 := ((Grow.refl w).alloc _).trans hg1
    have hBl := hbn.hid.bd B (by simp)
    have HG1 := Lib.hid hgw1
    have HBN := Lib.hid hbn
    clear hg1 hbn hgw1
    go_upto_region 6 with fail
    change Code.wp _ _ _ _ ((w1.alloc (.cells snT 9)).alloc (.cells snE 33))
    have hg13 : Grow w1 ((w1.alloc (.cells snT 9)).alloc (.cells snE 33)) := ((Grow.refl w1).alloc _).alloc _
    have hT : ((w1.alloc (.cells snT 9)).alloc (.cells snE 33)).heap[w1.heap.size]? = some (.cells snT 9 (0, 0)) := ((Grow.refl _).alloc _).blk (heap_alloc_new w1 (.cells snT 9))
    have hE : ((w1.alloc (.cells snT 9)).alloc (.cells snE 33)).heap[w1.heap.size + 1]? = some (.cells snE 33 (0, 0)) := by
      have := heap_alloc_new (w1.alloc (.cells snT 9)) (.cells snE 33)
      rw [World.size_alloc] at this
      exact this
    obtain ⟨w3, hw3⟩ : ∃ z : World, z = (w1.alloc (.cells snT 9)).alloc (.cells snE 33) := ⟨_, rfl⟩
    rw [← hw3] at hg13 hT hE ⊢
    obtain ⟨nT, hnT⟩ : ∃ z, w1.heap.size = z := ⟨_, rfl⟩
    obtain ⟨nE, hnE⟩ : ∃ z, w1.heap.size + 1 = z := ⟨_, rfl⟩
    rw [hnE] at hE ⊢
    rw [hnT] at hT ⊢
    have HB3 := Lib.hid (HBN.out.grow hg13)
    have HG3 := Lib.hid (HG1.out.trans hg13)
    have HT := Lib.hid hT
    have HE := Lib.hid hE
    have hTB : nT ≠ B := by omega
    have hEB : nE ≠ B := by omega
    have hB4 : 4 < B := by omega
    have hwB : w.heap.size ≤ B := by omega
    clear hw3 hg13 hT hE hnT hnE hBl HBN HG1
    go_wp2_with fail
    go_loopw [5] (fun s5 wr => ∃ k : Nat, k ≤ 7 ∧ s5 = .int .i64 k ∧ Chg B w3 wr ∧ BnAt (fun k => k == B) B wr (Sn.stN k)) (fun s5 _ => 7 - (intOf s5).toNat)
    case atStart => exact ⟨0, by decide, rfl, chg_refl B w3, HB3.out⟩
    case round =>
      obtain ⟨k, hk, rfl, hc, hbn⟩ := hrel
      have HC := Lib.hid hc
      have HBN := Lib.hid hbn
      clear hc hbn
      by_cases hlt : k < 7
      · have hltz : (k : Int) < 7 := by omega
        obtain ⟨t, ht⟩ : ∃ t, Sn.ords[k]? = some t := ⟨_, List.getElem?_eq_getElem (by show k < 7; omega)⟩
        obtain ⟨e, he⟩ : ∃ e, Sn.wants[k]? = some e := ⟨_, List.getElem?_eq_getElem (by show k < 7; omega)⟩
        have hts : t.size < 4294967281 := by
          have : ∀ u ∈ Sn.ords, u.size < 4294967281 := by decide +kernel
          exact this t (List.mem_of_getElem? ht)
        have HDO := Lib.hid (Sn.do_at k t e ht he)
        have HTK := Lib.hid (show snT[k]? = some (Value.string t) by unfold snT; rw [List.getElem?_toArray, List.getElem?_map, ht]; rfl)
        have HEK := Lib.hid (show snE[k]? = some (Value.int .i64 e) by unfold snE; rw [List.getElem?_toArray, List.getElem?_map, he]; rfl)
        have HOK := Lib.hid (Sn.okN k hk)
        clear ht he
        go_wp2_with fail
        refine wp_region_held_drew (S := fun X => Chg B w3 X) (by kernel_rfl) (HC.out.trans (Chg.of_grow (Grow.refl wr).drew)) (fun hH => ?_)
        refine wpAnyH_take (i := 0) (v := .pointer (some ⟨B, 0, none⟩)) rfl (by kernel_rfl) (by kernel_rfl) (by kernel_rfl) (fun _ _ _ h => h) (Or.inl ⟨by rfl, ?_⟩) hH ?_
        · intro w9 hw9
          go_simp
        try simp only [List.getElem_toArray, List.getElem_cons_zero, Act.put, List.setIfInBounds_toArray, List.set_cons_zero, List.set_cons_succ]
        refine wpAnyH_take (i := 1) (v := .slice (some ⟨nT, 0, none⟩) 7 7) rfl (by kernel_rfl) (by kernel_rfl) (by kernel_rfl) (fun _ _ _ h => h) (Or.inl ⟨by rfl, ?_⟩) hH ?_
        · intro w9 hw9
          go_simp
        try simp only [List.getElem_toArray, List.getElem_cons_succ, List.getElem_cons_zero, Act.put, List.setIfInBounds_toArray, List.set_cons_zero, List.set_cons_succ]
        refine wpAnyH_take (i := 2) (v := .int .i64 k) rfl (by kernel_rfl) (by kernel_rfl) (by kernel_rfl) (fun _ _ _ h => h) (Or.inl ⟨by rfl, ?_⟩) hH ?_
        · intro w9 hw9
          go_simp
        try simp only [List.getElem_toArray, List.getElem_cons_succ, List.getElem_cons_zero, Act.put, List.setIfInBounds_toArray, List.set_cons_zero, List.set_cons_succ]
        refine wpAnyH_take (i := 3) (v := .pointer (some ⟨nT, k, none⟩)) rfl (by kernel_rfl) (by kernel_rfl) (by kernel_rfl) (fun _ _ _ h => h) (Or.inl ⟨by rfl, ?_⟩) hH ?_
        · intro w9 hw9
          go_simp
        try simp only [List.getElem_toArray, List.getElem_cons_succ, List.getElem_cons_zero, Act.put, List.setIfInBounds_toArray, List.set_cons_zero, List.set_cons_succ]
        refine wpAnyH_take (i := 4) (v := .string t) rfl (by kernel_rfl) (by kernel_rfl) (by kernel_rfl) (fun _ _ _ h => h) (Or.inl ⟨by rfl, ?_⟩) hH ?_
        · intro w9 hw9
          have y9 := cellOf (Chg.blk hw9 hTB HT.out) k HTK.out
          go_simp
        try simp only [List.getElem_toArray, List.getElem_cons_succ, List.getElem_cons_zero, Act.put, List.setIfInBounds_toArray, List.set_cons_zero, List.set_cons_succ]
        refine wpAnyH_take (i := 6) (v := .slice (some ⟨nE, 0, none⟩) 7 7) rfl (by kernel_rfl) (by kernel_rfl) (by kernel_rfl) (fun _ _ _ h => h) (Or.inl ⟨by rfl, ?_⟩) hH ?_
        · intro w9 hw9
          go_simp
        try simp only [List.getElem_toArray, List.getElem_cons_succ, List.getElem_cons_zero, Act.put, List.setIfInBounds_toArray, List.set_cons_zero, List.set_cons_succ]
        refine wpAnyH_take (i := 7) (v := .int .i64 k) rfl (by kernel_rfl) (by kernel_rfl) (by kernel_rfl) (fun _ _ _ h => h) (Or.inl ⟨by rfl, ?_⟩) hH ?_
        · intro w9 hw9
          go_simp
        try simp only [List.getElem_toArray, List.getElem_cons_succ, List.getElem_cons_zero, Act.put, List.setIfInBounds_toArray, List.set_cons_zero, List.set_cons_succ]
        refine wpAnyH_take (i := 8) (v := .pointer (some ⟨nE, k, none⟩)) rfl (by kernel_rfl) (by kernel_rfl) (by kernel_rfl) (fun _ _ _ h => h) (Or.inl ⟨by rfl, ?_⟩) hH ?_
        · intro w9 hw9
          go_simp
        try simp only [List.getElem_toArray, List.getElem_cons_succ, List.getElem_cons_zero, Act.put, List.setIfInBounds_toArray, List.set_cons_zero, List.set_cons_succ]
        refine wpAnyH_take (i := 9) (v := .int .i64 e) rfl (by kernel_rfl) (by kernel_rfl) (by kernel_rfl) (fun _ _ _ h => h) (Or.inl ⟨by rfl, ?_⟩) hH ?_
        · intro w9 hw9
          have y9 := cellOf (Chg.blk hw9 hEB HE.out) k HEK.out
          go_simp
        try simp only [List.getElem_toArray, List.getElem_cons_succ, List.getElem_cons_zero, Act.put, List.setIfInBounds_toArray, List.set_cons_zero, List.set_cons_succ]
        refine wpAnyH_ready (rs := [5]) (by kernel_rfl) (by simp) ?_
        refine AllReadyH.cons rfl (fun K hK => ?_) AllReadyH.nil
        go_simp
        refine bDo_any (fun k => k == B) B t hts (Sn.stN k) _ ((HG.out.grow HG3.out).chg hH hB4) (HBN.out.grow (Grow.refl wr).drew) HOK.out hB4 _ ?_
        intro w5 hc5 hb5
        rw [HDO.out] at hb5 ⊢
        dsimp only at hb5 ⊢
        go_wp2_with fail
        have HB5 := Lib.hid hb5
        refine hK.out _ _ (hH.trans hc5) (fun hH2 => ?_)
        clear hK K hH
        have hH := hH2
        clear hH2
        try simp only [List.getElem_toArray, List.getElem_cons_succ, List.getElem_cons_zero, Act.put, List.setIfInBounds_toArray, List.set_cons_zero, List.set_cons_succ]
        clear hb5 hc5
        refine wpAnyH_take (i := 10) (v := .bool false) rfl (by kernel_rfl) (by kernel_rfl) (by kernel_rfl) (fun _ _ _ h => h) (Or.inl ⟨by rfl, ?_⟩) hH ?_
        · intro w9 hw9
          go_simp
        try simp only [List.getElem_toArray, List.getElem_cons_succ, List.getElem_cons_zero, Act.put, List.setIfInBounds_toArray, List.set_cons_zero, List.set_cons_succ]
        refine wpAnyH_done (by kernel_rfl) ?_ _
        have HC5 := Lib.hid hH
        clear hH
        go_wp2_with fail
        go_roundw
        case rel => exact ⟨k + 1, by omega, by go_num, HC5.out, HB5.out⟩
        case measure => simp [intOf]; omega
      · obtain rfl : k = 7 := by omega
        have HGW := Lib.hid (chg_grow HG3.out HC.out hwB)
        go_wp2_with fail
        refine Program_any (fun k => k == B) B (Sn.stN 7) _ HBN.out (Sn.okN 7 (by decide)) _ ?_
        intro w5 pv base hg5 hbs hpo
        rw [Sn.prog7] at hpo
        have hpl := slc_of_owns (xs := Sn.p1) encL_len hpo
        obtain ⟨pa, pc, rfl, p1, p2, jk⟩ := hpl
        have HPL := Lib.hid (slc_of_owns (xs := Sn.p1) encL_len hpo)
        have HG5 := Lib.hid (HGW.out.trans hg5)
        rw [show Sn.p1.length = 2 from rfl] at p1 HPL ⊢
        clear hg5 hpo jk
        go_wp2_with fail
        refine Write_any [Sn.o1] _ _ (HG.out.grow (HG5.out.alloc _)) (texts_lit w5 [Sn.o1] 9 (by decide)) (by decide +kernel) _ ?_
        intro w6 hg6
        rw [sn_wr.1, sn_wr.2]
        obtain ⟨b, o, rfl, hb, y0, y1, y2, y3⟩ := lines_at (HPL.out.grow (((Grow.refl w5).alloc (.cells (([Sn.o1] : List ByteArray).map Value.string).toArray 9)).trans hg6)) (k := 0) (op := 1) (d := 0) (x := 4) (y := 0) rfl
        rw [show o + 0 * 4 = o by omega] at y0 y1 y2 y3
        have HF := Lib.hid (HR.out w6 ((HG5.out.alloc _).trans hg6))
        clear hg6
        go_wp2_with fail
        exact HF.out
end Go.Proofs.YtihdpbfhkddpcaaGreatDoor

namespace Go.Proofs.YtihdpbfhkddpcaaGreatDoor
open Go.RowKit

set_option maxRecDepth 100000 in
set_option maxHeartbeats 4000000 in
theorem rNew0_any (p : List Ln) (v : Value) (w : World) (hp : LinesAt w v p) (hn : p.length < 10000000000) (R : Ending → World → Prop)
    (hno : valP p ≠ 0 → ∀ w', Grow w w' → R (.returned (.tuple #[.pointer none, .int .i64 (valP p)])) w')
    (hok : valP p = 0 → ∀ w' a, Grow w w' → R (.returned (.tuple #[.pointer (some a), .int .i64 0])) w') :
    Calls Tryz.prog 30 #[v] w R := by
  have HNO := Lib.hid hno
  have HOK := Lib.hid hok
  have HP := Lib.hid hp
  clear hno hok hp
  go_enter Tryz.func30, Tryz.ntmps30
  go_wp2_with fail
  refine rValidate_any p v _ HP.out _ ?_
  intro w1 hg1
  have HG1 := Lib.hid hg1
  clear hg1
  by_cases h0 : valP p = 0
  rotate_left
  · have HF := Lib.hid (HNO.out h0 w1 HG1.out)
    have hz : (valP p != 0) = true := by simpa using h0
    obtain ⟨e, he⟩ : ∃ e, valP p = e := ⟨_, rfl⟩
    rw [he] at HF hz h0 ⊢
    clear he
    go_wp2_with fail
    exact HF.out
  have HF := Lib.hid (HOK.out h0)
  rw [h0]
  go_wp2_with (at_builtin; refine Classical.byContradiction (fun hcon => ?_))
  refine hcon ?_
  clear hcon
  refine wpList_appAll _ rfl (.tmp 10) (.tmp 11) 22 rfl w1.heap.size 58 Tryz.underlying22 b_info_ln rfl (by decide) (by decide) encL encL_len encL_one _ [] rfl (ownsRow_empty w1 4 _ _ _ (Nat.le_refl _)) _ p rfl (HP.out.grow (HG1.out.alloc _)) (by simp; omega) (by simp) ?_
  intro v2 w2 hown2 hgr2
  have hg2 : Grow w1 w2 := grown_below (ownsRow_empty (α := Ln) w1 4 58 encL _ (Nat.le_refl _)) hgr2 (Nat.le_refl _) (by simp) ((Grow.refl w1).alloc _)
  have HG2 := Lib.hid (HG1.out.trans hg2)
  obtain ⟨a, c, rfl, q1, q2, jk⟩ := slc_of_owns encL_len (xs := p) (by simpa using hown2)
  have HFF := Lib.hid (fun o1 o2 a => HF.out ((w2.alloc o1).alloc o2) a ((HG2.out.alloc o1).alloc o2))
  clear hown2 hgr2 hg2 jk
  go_wp2_with fail
  exact HFF.out _ _ _

set_option maxRecDepth 100000 in
set_option maxHeartbeats 4000000 in
theorem Begin_any (p : List Ln) (v : Value) (w : World) (hp : LinesAt w v p) (hn : p.length < 10000000000) (R : Ending → World → Prop)
    (hno : valP p ≠ 0 → ∀ w', Grow w w' → R (.returned (.tuple #[.pointer none, .pointer none, .bool false])) w')
    (hok : valP p = 0 → ∀ w' B a, Grow w w' → w.heap.size ≤ B → BnAt (fun k => k == B) B w' (newB p) → R (.returned (.tuple #[.pointer (some ⟨B, 0, none⟩), .pointer (some a), .bool true])) w') :
    Calls Tryz.prog 11 #[v] w R := by
  have HNO := Lib.hid hno
  have HOK := Lib.hid hok
  have HP := Lib.hid hp
  clear hno hok hp
  go_enter Tryz.func11, Tryz.ntmps11
  go_wp2_with fail
  refine New_any p v _ HP.out hn _ ?_ ?_
  · intro h0 w1 hg1
    have HG1 := Lib.hid hg1
    have hz : (valP p == 0) = false := by simpa using h0
    have H0 := Lib.hid h0
    clear hg1 h0
    obtain ⟨e, he⟩ : ∃ e, valP p = e := ⟨_, rfl⟩
    have HE := Lib.hid he
    rw [he] at hz ⊢
    clear he
    go_wp2_with fail
    refine rNew0_any p v _ (HP.out.grow HG1.out) hn _ ?_ ?_
    · intro _ w2 hg2
      have HF := Lib.hid (HNO.out H0.out w2 (HG1.out.trans hg2))
      rw [HE.out]
      clear hg2
      go_wp2_with fail
      first | exact HF.out | exact bodyPost_ret (by simp [results, Tryz.results11, go_sem]) rfl HF.out
    · intro h; exact absurd h H0.out
  · intro h0 w1 B hg1 hB hb
    have HG1 := Lib.hid hg1
    have HB := Lib.hid hb
    clear hg1 hb
    go_wp2_with fail
    refine rNew0_any p v _ (HP.out.grow HG1.out) hn _ ?_ ?_
    · intro h; exact absurd h0 h
    · intro _ w2 a hg2
      have HF := Lib.hid (HOK.out h0 w2 B a (HG1.out.trans hg2) hB (HB.out.grow hg2))
      clear hg2
      go_wp2_with fail
      first | exact HF.out | exact bodyPost_ret (by simp [results, Tryz.results11, go_sem]) rfl HF.out

set_option maxRecDepth 100000 in
set_option maxHeartbeats 4000000 in
theorem failed9_any (p : List Ln) (v : Value) (w : World) (hg : Glob w) (hp : LinesAt w v p) (hn : p.length < 10000000000) (h0 : valP p ≠ 0) (R : Ending → World → Prop) (hR : ∀ w', Grow w w' → R (.returned (.bool true)) w') :
    Calls Tryz.prog 12 #[v] w R := by
  have HR := Lib.hid hR
  have HP := Lib.hid hp
  have HG := Lib.hid hg
  have H0 := Lib.hid h0
  have hz : (valP p != 0) = true := by simpa using h0
  obtain ⟨e, he⟩ : ∃ e, valP p = e := ⟨_, rfl⟩
  have HE := Lib.hid he
  rw [he] at hz
  clear hR hp hg h0 he
  go_enter Tryz.func12, Tryz.ntmps12
  go_wp2_with fail
  refine New_any p v _ HP.out hn _ ?_ ?_
  rotate_left
  · intro h; exact absurd h H0.out
  intro _ w1 hg1
  have HG1 := Lib.hid hg1
  rw [HE.out]
  clear hg1
  go_wp2_with fail
  refine rNew0_any p v _ (HP.out.grow HG1.out) hn _ ?_ ?_
  rotate_left
  · intro h; exact absurd h H0.out
  intro _ w2 hg2
  have HG2 := Lib.hid (HG1.out.trans hg2)
  rw [HE.out]
  clear hg2
  go_wp2_with fail
  refine sane_any _ (HG.out.grow HG2.out) _ ?_
  intro w3 hg3
  have HF := Lib.hid (HR.out w3 (HG2.out.trans hg3))
  clear hg3
  go_wp2_with fail
  exact HF.out

set_option maxRecDepth 100000 in
set_option maxHeartbeats 4000000 in
theorem few_any (l : List ByteArray) (v : Value) (w : World) (hl : TextsAt w v l) (R : Ending → World → Prop)
    (hR : ∀ w' v', Grow w w' → TextsAt w' v' (l.take 24) → (v' = v ∨ NewS w.heap.size v') → R (.returned v') w') :
    Calls Tryz.prog 13 #[v] w R := by
  have HR := Lib.hid hR
  have HL := Lib.hid hl
  obtain ⟨va, vc, rfl, v1, v2, jk⟩ := hl
  clear hR jk
  go_enter Tryz.func13, Tryz.ntmps13
  by_cases h24 : 24 < l.length
  · have hz : decide ((l.length : Int) > 24) = true := by rw [decide_eq_true_eq]; omega
    obtain ⟨t, ht⟩ : ∃ t, l[0]? = some t := ⟨_, List.getElem?_eq_getElem (by omega)⟩
    obtain ⟨b, o, rfl, _, _⟩ := texts_at HL.out ht
    have h24c : (24 : Nat) ≤ vc := by omega
    clear ht
    go_wp2_with (at_builtin; refine Classical.byContradiction (fun hcon => ?_))
    refine hcon ?_
    clear hcon
    refine wpList_appAll _ rfl (.tmp 6) (.tmp 8) 23 rfl w.heap.size 9 Tryz.underlying23 b_info_str rfl (by decide) (by decide) encTx encTx_len encTx_one _ [] rfl (ownsRow_empty w 1 _ _ _ (Nat.le_refl _)) _ (l.take 24) rfl ((HL.out.take (m := 24) (by omega)).grow ((Grow.refl w).alloc _)) (by simp; omega) (by simp) ?_
    intro v2 w2 hown2 hgr2
    have hg2 : Grow w w2 := grown_below (ownsRow_empty (α := ByteArray) w 1 9 encTx _ (Nat.le_refl _)) hgr2 (Nat.le_refl _) (by simp) ((Grow.refl w).alloc _)
    have HF := Lib.hid (HR.out w2 v2 hg2 (slc_of_owns encTx_len (by simpa using hown2)) (.inr (NewS.of_own (show Own 1 encTx _ w2 v2 (l.take 24) from ⟨_, by simpa using hown2⟩))))
    clear hown2 hgr2 hg2
    go_wp2_with fail
    exact HF.out
  · have hz : decide ((l.length : Int) > 24) = false := by rw [decide_eq_false_iff_not]; omega
    have HF := Lib.hid (HR.out w _ (Grow.refl w) (by rw [List.take_of_length_le (by omega)]; exact HL.out) (.inl rfl))
    go_wp2_with fail
    exact HF.out

theorem long49_any (p : List Ln) (v : Value) (w : World) (hp : LinesAt w v p) (R : Ending → World → Prop) (hR : R (.returned (.bool (decide (100 < p.length)))) w) :
    Calls Tryz.prog 8 #[v, .slice none 0 0] w R := by
  obtain ⟨a, c, rfl, h1, h2, _⟩ := hp
  by_cases h : 100 < p.length
  · rw [decide_eq_true h] at hR
    have t1 : (p.length : Int) > 100 := by omega
    go_enter Tryz.func8, Tryz.ntmps8
    go_wp2
    simpa using hR
  · rw [decide_eq_false h] at hR
    have t1 : ¬ (p.length : Int) > 100 := by omega
    go_enter Tryz.func8, Tryz.ntmps8
    go_wp2
    simpa using hR
end Go.Proofs.YtihdpbfhkddpcaaGreatDoor

namespace Go.Proofs.YtihdpbfhkddpcaaGreatDoor
open Go.RowKit

end Go.Proofs.YtihdpbfhkddpcaaGreatDoor

namespace Go.Proofs.YtihdpbfhkddpcaaGreatDoor
open Go.RowKit

/-! ### Plainly -/
theorem dos_snoc {l : List ByteArray} {s : Bn} {k : Nat} {t : ByteArray} (h : l[k]? = some t) : dosB s (l.take (k + 1)) = (doB (dosB s (l.take k)) t).2 := by
  rw [List.take_add_one, h, Option.toList_some, dosB_append]; rfl
end Go.Proofs.YtihdpbfhkddpcaaGreatDoor

namespace Go.Proofs.YtihdpbfhkddpcaaGreatDoor
open Go.RowKit

/-! ### Plainly -/
theorem RepB.val {p : List Ln} {s : Bn} (ok : OkB s) (h : s.progs[0]? = some p) : valP p = 0 := ok.val p (List.mem_of_getElem? h)
end Go.Proofs.YtihdpbfhkddpcaaGreatDoor

namespace Go.Proofs.YtihdpbfhkddpcaaGreatDoor
open Go.RowKit

theorem RepB.dos {p : List Ln} {s : Bn} (h : RepB p s) : ∀ l, RepB p (dosB s l)
  | [] => h
  | t :: r => (h.do t).dos r
/-- A list that lay ahead of a bench, or was made behind it, lies not in its block. -/
theorem texts_off {w w2 : World} {B : Nat} {v v' : Value} {l ls : List ByteArray} (hl : TextsAt w v l) (hB : w.heap.size ≤ B) (h : TextsAt w2 v' ls) {base : Nat} (hv : v' = v ∨ NewS base v') (hB2 : B < base) : TextsAt (hideW (fun k => k == B) w2) v' ls := by
  refine SlcAt.hide h ?_
  intro b o n c e
  rcases hv with rfl | hn
  · obtain ⟨a, c', e2, _, _, h4⟩ := hl
    rw [e] at e2
    injection e2 with e3 e4 _
    rcases h4 with ⟨h4, _⟩ | ⟨b', o', e5, hb', _⟩
    · obtain ⟨a, c', e6, _, _, _⟩ := h
      rw [e] at e6
      injection e6 with _ e7 _
      right
      rw [h4] at e4
      have : ls.length = 0 := by rw [← e7, e4]; rfl
      exact List.eq_nil_of_length_eq_zero this
    · left
      rw [← e3] at e5
      injection e5 with e5
      injection e5 with e5 _ _
      rw [beq_eq_false_iff_ne]; omega
  · left
    have : base ≤ b := hn _ n c e
    rw [beq_eq_false_iff_ne]; omega
end Go.Proofs.YtihdpbfhkddpcaaGreatDoor

namespace Go.Proofs.YtihdpbfhkddpcaaGreatDoor
open Go.RowKit

theorem b_info_ed : (Tryz.prog.info? 84).map (fun i => (i.zero, i.size, i.bytes)) = some (some (.agg #[.int .i64 0, .int .i64 0, .int .i64 0, .int .i64 0, .int .i64 0]), 5, 40) := by kernel_rfl
set_option maxHeartbeats 1000000 in
theorem clE_any (xs : List Ed) (v : Value) (w : World) (hx : SlcAt 5 encE w v xs) (hn : xs.length < 10000000000) (R : Ending → World → Prop) (hR : ∀ w' x, Grow w w' → w'.ownsRow w.heap.size 84 5 x xs.length (xs.flatMap encE) → R (.returned x) w') :
    Calls Tryz.prog 38 #[v] w R := by
  have hx' := hx
  obtain ⟨a, c, rfl, h1, h2, h3⟩ := hx'
  have HX := Lib.hid hx
  have HR := Lib.hid hR
  clear hx hR
  have heq := fun (W : World) (a : Option Addr) (n c : Nat) => Lib.run_eql_slice_nil (P := Tryz.prog) W 54 84 a n c 0 0 Tryz.underlying54
  cases a with
  | none =>
    have hxs : xs = [] := by
      rcases h3 with ⟨h3, _⟩ | ⟨b, o, h3, _⟩
      · exact h3
      · cases h3
    subst hxs
    clear h3
    go_enter Tryz.func38, Tryz.ntmps38
    go_wp2_with fail
    exact HR.out _ _ (Grow.refl _) (World.ownsRow_nil _ _ _ _)
  | some ad =>
    clear h3
    go_enter Tryz.func38, Tryz.ntmps38
    go_wp2_with (at_builtin; refine wpList_appAll _ rfl (.tmp 5) (.tmp 6) 54 rfl w.heap.size 84 Tryz.underlying54 b_info_ed rfl (by decide) (by decide) encE encE_len encE_one _ [] rfl (ownsRow_empty w 5 _ _ _ (Nat.le_refl _)) _ xs rfl (HX.out.grow ((Grow.refl w).alloc _)) (by simp; omega) (by simp) ?_; intro v1 w1 hown1 hgr1)
    exact HR.out _ _ (grown_below (ownsRow_empty (α := Ed) w 5 84 encE _ (Nat.le_refl _)) hgr1 (Nat.le_refl _) (by simp) ((Grow.refl w).alloc _)) hown1
theorem row_new {base : Nat} {T : TypeId} {k n : Nat} {w : World} {v : Value} {l : List Value} (h : w.ownsRow base T k v n l) : NewS base v := by
  intro b o c e
  subst e
  rcases h.2 with ⟨hv, _⟩ | ⟨g, cap, cur, hv, hg, hh, _⟩
  · cases hv
  · cases hv; exact hg
set_option maxRecDepth 100000 in
set_option maxHeartbeats 8000000 in
theorem History_any (H : Nat → Bool) (B : Nat) (s : Bn) (w : World) (h : BnAt H B w s) (ok : OkB s) (R : Ending → World → Prop)
    (hR : ∀ w' v base L, Grow w w' → w.heap.size ≤ base → NewS base v → LlAt 5 encE w' v L → L.map Lo.x = s.hist → R (.returned v) w') :
    Calls Tryz.prog 16 #[.pointer (some ⟨B, 0, none⟩)] w R := by
  have HR := Lib.hid hR
  have HH := Lib.hid h
  have H8 := Lib.hid ok.h8
  have HXL := Lib.hid (fun (x : List Ed) (hx : x ∈ s.hist) => show x.length ≤ 4 from by
    obtain ⟨i, hi⟩ := List.getElem?_of_mem hx
    have hil := (List.getElem?_eq_some_iff.1 hi).1
    have hlen := ok.len
    obtain ⟨p, hp⟩ : ∃ p, s.progs[i]? = some p := ⟨_, List.getElem?_eq_getElem (by omega)⟩
    obtain ⟨q, hq⟩ : ∃ q, s.progs[i + 1]? = some q := ⟨_, List.getElem?_eq_getElem (by omega)⟩
    have h1 := (chkX_ok.1 (ok.step i p x q hp hi hq).1).2.1
    unfold valX at h1
    by_cases h4 : 4 < x.length
    · rw [if_pos h4] at h1; cases h1
    · omega)
  clear hR h ok
  go_enter Tryz.func16, Tryz.ntmps16
  go_wp2_with fail
  refine look_any H B s _ HH.out _ ?_
  intro w1 V hg1 hs1
  obtain ⟨M, hM, hMx⟩ := hs1.unhide.hi
  have hMl : M.length = s.hist.length := by rw [← hMx]; simp
  have HG1 := Lib.hid hg1
  have HM := Lib.hid hM
  have HMX := Lib.hid hMx
  have hc : stCells V s = #[.slice V.pa s.progs.length V.pc, .slice V.ha s.hist.length V.hc, .slice V.ta s.tests.length V.tc, .slice V.la s.lk.length V.lc, .int .i64 s.fixes, .int .i64 s.checks, .slice V.oa s.orders.length V.oc] := rfl
  rw [hc]
  have hfd : ∀ (x0 x1 x2 x3 x4 x5 x6 : Value) (W : World), (Instr.field 73 (.agg #[x0, x1, x2, x3, x4, x5, x6]) 1).run Tryz.prog W = .ok x1 W := fun _ _ _ _ _ _ _ _ => by kernel_rfl
  clear hs1 hM hMx hc
  go_wp2_with fail
  go_loopw [3, 10] (fun out i wr => ∃ (k : Nat) (L : List (Lo Ed)), k ≤ s.hist.length ∧ i = .int .i64 k ∧ Grow w1 wr ∧ LoOwn w1.heap.size 54 5 encE wr out L ∧ L.map Lo.x = s.hist.take k) (fun _ i _ => s.hist.length - (intOf i).toNat)
  case atStart => exact ⟨0, [], Nat.zero_le _, rfl, Grow.refl _, LoOwn.nil _ _ _ _ _, rfl⟩
  case round =>
    obtain ⟨k, L, hk, rfl, hg, how, hLx⟩ := hrel
    have HG := Lib.hid hg
    have HOW := Lib.hid how
    have HLX := Lib.hid hLx
    have hzw := hg.sz
    have hLk : L.length = k := by have := congrArg List.length hLx; simp at this; omega
    clear hg how hLx
    by_cases hlt : k < s.hist.length
    · have hlt2 : (k : Int) < (s.hist.length : Int) := by omega
      have hk8 : k < 8 := by have := H8.out; omega
      obtain ⟨t, ht⟩ : ∃ t, M[k]? = some t := ⟨_, List.getElem?_eq_getElem (by omega)⟩
      obtain ⟨mb, mo, hha, hmb, m0⟩ := lo_at (HM.out.grow HG.out).at_ ht
      have hxk : s.hist[k]? = some t.x := by rw [← HMX.out, List.getElem?_map, ht]; rfl
      have hx4 := HXL.out t.x (List.mem_of_getElem? hxk)
      have HI := Lib.hid ((HM.out.grow HG.out).ins t (List.mem_of_getElem? ht))
      have HLN := Lib.hid (show s.hist.take (k + 1) = s.hist.take k ++ [t.x] by rw [List.take_add_one, hxk]; rfl)
      have HLE := Lib.hid (show L.length < 100000000000 by have := H8.out; omega)
      rw [hha]
      clear hxk ht hLk hha
      go_wp2_with fail
      refine clE_any t.x _ _ HI.out (by omega) _ ?_
      intro w2 v2 hg2 hv2
      have HO2 := Lib.hid (show Own 5 encE wr.heap.size w2 v2 t.x from ⟨_, hv2⟩)
      have HX2 := Lib.hid (HO2.out.slc encE_len)
      obtain ⟨a1, c1, rfl, q1, q2, jk5⟩ := HO2.out.slc encE_len
      have HB1 := Lib.hid (HOW.out.new HO2.out)
      have HG2 := Lib.hid (HG.out.trans hg2)
      have HO1 := Lib.hid (HOW.out.grow hg2)
      have hz1 := (HG.out.trans hg2).sz
      clear hg2 hv2 HOW jk5 m0
      go_wp2_with (at_builtin; refine wpList_appAt _ rfl (.tmp 14) (.tmp 17) 36 rfl w1.heap.size 54 Tryz.underlying36 b_info_sle rfl (by decide) (by decide) encLo encLo_len encLo_one _ L rfl (((Grow.refl w2).alloc _).owns HO1.out.row) _ (⟨a1, t.x.length, c1, t.x⟩ : Lo Ed) 1 rfl (newsG _ _ (by simp) (encLo (⟨a1, t.x.length, c1, t.x⟩ : Lo Ed)) _) HLE.out (by simp; omega) ?_; intro out2 w5 hown5 hgr5 hat5)
      have HG5 := Lib.hid (show Grow w1 w5 from grown_below HO1.out.row hgr5 (Nat.le_refl _) (by simp; omega) (HG2.out.alloc _))
      have HO5 := Lib.hid ((HO1.out.grow ((Grow.refl w2).alloc _)).app (t := ⟨a1, t.x.length, c1, t.x⟩) hgr5 hown5 hat5 (HX2.out.grow ((Grow.refl w2).alloc _)) fun b o s hb => ⟨(HB1.out b o s hb).1, Nat.lt_of_lt_of_le (HB1.out b o s hb).2 ((Grow.refl w2).alloc _).sz⟩)
      clear hown5 hgr5 hat5
      go_roundw
      case rel => exact ⟨k + 1, L ++ [⟨a1, t.x.length, c1, t.x⟩], by omega, by go_num, HG5.out, HO5.out, by rw [HLN.out, List.map_append, HLX.out]; rfl⟩
      case measure => simp [intOf]; omega
    · obtain rfl : k = s.hist.length := by omega
      have hltz : ¬ (s.hist.length : Int) < (s.hist.length : Int) := by omega
      have hLx := HLX.out
      rw [List.take_length] at hLx
      have HF := Lib.hid (HR.out wr _ w1.heap.size L (HG1.out.trans HG.out) HG1.out.sz (row_new HOW.out.row) ⟨HOW.out.at_, HOW.out.ins⟩ hLx)
      clear hLx
      go_wp2_with fail
      exact HF.out
end Go.Proofs.YtihdpbfhkddpcaaGreatDoor

namespace Go.Proofs.YtihdpbfhkddpcaaGreatDoor
open Go.RowKit

theorem take_succ_eq4 {α : Type} {xs ys : List α} {k : Nat} {x : α} (h : xs.take k = ys.take k) (hx : xs[k]? = some x) (hy : ys[k]? = some x) : xs.take (k + 1) = ys.take (k + 1) := by
  rw [List.take_add_one, List.take_add_one, h, hx, hy]
theorem sameL4_loop {xs ys : List Ln} (k : Nat) (hl : xs.length = ys.length) (h : xs.take k = ys.take k) (hk : xs.length ≤ k) : decide (xs = ys) = true := by
  rw [List.take_of_length_le hk, List.take_of_length_le (by omega)] at h
  simp [h]

set_option maxHeartbeats 2000000 in
theorem rsame4_any (xs ys : List Ln) (v u : Value) (w : World) (hx : LinesAt w v xs) (hy : LinesAt w u ys) (R : Ending → World → Prop) (hR : ∀ w', Grow w w' → R (.returned (.bool (decide (xs = ys)))) w') :
    Calls Tryz.prog 17 #[v, u] w R := by
  have HR := Lib.hid hR
  clear hR
  obtain ⟨a, c, rfl, h1, h2, h3⟩ := hx
  obtain ⟨a', c', rfl, h1', h2', h3'⟩ := hy
  by_cases hl : xs.length = ys.length
  · rw [← hl] at h1' ⊢
    go_enter Tryz.func17, Tryz.ntmps17
    go_wp2_with fail
    go_loopw [5] (fun i wr => ∃ k : Nat, k ≤ xs.length ∧ i = .int .i64 k ∧ xs.take k = ys.take k ∧ Grow w wr) (fun i _ => xs.length - (intOf i).toNat)
    case atStart => exact ⟨0, Nat.zero_le _, rfl, rfl, Grow.refl _⟩
    case round =>
      obtain ⟨k, hk, rfl, hs, hg⟩ := hrel
      by_cases hlt : k < xs.length
      · replace h3 := h3.resolve_left (by intro h; simp [h.1] at hlt)
        replace h3' := h3'.resolve_left (by intro h; have h0 := h.1; rw [h0] at hl; rw [hl] at hlt; simp at hlt)
        obtain ⟨b, o, rfl, hb, hc⟩ := h3
        obtain ⟨b', o', rfl, hb', hc'⟩ := h3'
        obtain ⟨⟨op, d, p, q⟩, hx⟩ : ∃ l, xs[k]? = some l := ⟨_, List.getElem?_eq_getElem hlt⟩
        obtain ⟨⟨op', d', p', q'⟩, hy⟩ : ∃ l, ys[k]? = some l := ⟨_, List.getElem?_eq_getElem (by omega)⟩
        obtain ⟨c0, c1, c2, c3⟩ := lines_cell hc k _ _ _ _ hx
        obtain ⟨d0, d1, d2, d3⟩ := lines_cell hc' k _ _ _ _ hy
        have e0 := hg.cell c0
        have e1 := hg.cell c1
        have e2 := hg.cell c2
        have e3 := hg.cell c3
        have f0 := hg.cell d0
        have f1 := hg.cell d1
        have f2 := hg.cell d2
        have f3 := hg.cell d3
        have hz := hg.sz
        have n1 : b < wr.heap.size := by omega
        have n2 : b' < wr.heap.size := by omega
        have HX := Lib.hid hx
        have HY := Lib.hid hy
        have HG := Lib.hid hg
        have HS := Lib.hid hs
        have HL := Lib.hid hl
        clear hc hc' hx hy hg hs hl c0 c1 c2 c3 d0 d1 d2 d3
        by_cases hxy : (⟨op, d, p, q⟩ : Ln) = ⟨op', d', p', q'⟩
        · cases hxy
          go_wp2_with (go_quiet (fail))
          go_roundw
          case rel => exact ⟨k + 1, by omega, by go_num, take_succ_eq4 HS.out HX.out HY.out, HG.out.drewN _⟩
          case measure => simp [intOf]; omega
        · have hne : decide (xs = ys) = false := by
            simp only [decide_eq_false_iff_not]; intro e; rw [e, HY.out] at HX; exact hxy (Option.some.inj HX.out).symm
          rw [hne] at HR
          by_cases g0 : op = op'
          rotate_left
          · have t1 : (op == op') = false := by simpa using g0
            have t2 : (op != op') = true := by simpa using g0
            go_wp2_with (go_quiet (fail))
            exact HR.out _ (HG.out.drewN _)
          subst g0
          by_cases g1 : d = d'
          rotate_left
          · have t1 : (d == d') = false := by simpa using g1
            have t2 : (d != d') = true := by simpa using g1
            go_wp2_with (go_quiet (fail))
            exact HR.out _ (HG.out.drewN _)
          subst g1
          by_cases g2 : p = p'
          rotate_left
          · have t1 : (p == p') = false := by simpa using g2
            have t2 : (p != p') = true := by simpa using g2
            go_wp2_with (go_quiet (fail))
            exact HR.out _ (HG.out.drewN _)
          subst g2
          by_cases g3 : q = q'
          rotate_left
          · have t1 : (q == q') = false := by simpa using g3
            have t2 : (q != q') = true := by simpa using g3
            go_wp2_with (go_quiet (fail))
            exact HR.out _ (HG.out.drewN _)
          subst g3
          exact absurd rfl hxy
      · have ht := sameL4_loop k hl hs (by omega)
        rw [ht] at HR
        go_wp2_with fail
        exact HR.out _ hg
  · have hne : decide (xs = ys) = false := by
      simp only [decide_eq_false_iff_not]; intro e; exact hl (by rw [e])
    rw [hne] at HR
    have hl2 : (xs.length : Int) ≠ ys.length := by omega
    have t1 : ((xs.length : Int) == ys.length) = false := beq_eq_false_iff_ne.2 hl2
    have t2 : ((xs.length : Int) != ys.length) = true := bne_iff_ne.2 hl2
    go_enter Tryz.func17, Tryz.ntmps17
    go_wp2_with fail
    exact HR.out _ (Grow.refl _)
end Go.Proofs.YtihdpbfhkddpcaaGreatDoor

namespace Go.Proofs.YtihdpbfhkddpcaaGreatDoor
open Go.RowKit

theorem sameE_loop {xs ys : List Ed} (k : Nat) (hl : xs.length = ys.length) (h : xs.take k = ys.take k) (hk : xs.length ≤ k) : decide (xs = ys) = true := by
  rw [List.take_of_length_le hk, List.take_of_length_le (by omega)] at h
  simp [h]
set_option maxHeartbeats 2000000 in
theorem rsameE_any (xs ys : List Ed) (v u : Value) (w : World) (hx : EditsAt w v xs) (hy : EditsAt w u ys) (R : Ending → World → Prop) (hR : ∀ w', Grow w w' → R (.returned (.bool (decide (xs = ys)))) w') :
    Calls Tryz.prog 39 #[v, u] w R := by
  have HR := Lib.hid hR
  clear hR
  have HX0 := Lib.hid hx
  have HY0 := Lib.hid hy
  obtain ⟨a, c, rfl, h1, h2, _⟩ := hx
  obtain ⟨a', c', rfl, h1', h2', _⟩ := hy
  by_cases hl : xs.length = ys.length
  · rw [← hl] at h1' HY0 ⊢
    go_enter Tryz.func39, Tryz.ntmps39
    go_wp2_with fail
    go_loopw [5] (fun i wr => ∃ k : Nat, k ≤ xs.length ∧ i = .int .i64 k ∧ xs.take k = ys.take k ∧ Grow w wr) (fun i _ => xs.length - (intOf i).toNat)
    case atStart => exact ⟨0, Nat.zero_le _, rfl, rfl, Grow.refl _⟩
    case round =>
      obtain ⟨k, hk, rfl, hs, hg⟩ := hrel
      by_cases hlt : k < xs.length
      · obtain ⟨⟨tt, op, d, p, q⟩, hx⟩ : ∃ l, xs[k]? = some l := ⟨_, List.getElem?_eq_getElem hlt⟩
        obtain ⟨⟨tt', op', d', p', q'⟩, hy⟩ : ∃ l, ys[k]? = some l := ⟨_, List.getElem?_eq_getElem (by omega)⟩
        obtain ⟨b, o, rfl, hb, c0, c1, c2, c3, c4⟩ := edits_at HX0.out hx
        obtain ⟨b', o', rfl, hb', d0, d1, d2, d3, d4⟩ := edits_at HY0.out hy
        have e0 := hg.cell c0
        have e1 := hg.cell c1
        have e2 := hg.cell c2
        have e3 := hg.cell c3
        have e4 := hg.cell c4
        have f0 := hg.cell d0
        have f1 := hg.cell d1
        have f2 := hg.cell d2
        have f3 := hg.cell d3
        have f4 := hg.cell d4
        have hz := hg.sz
        have n1 : b < wr.heap.size := by omega
        have n2 : b' < wr.heap.size := by omega
        have HX := Lib.hid hx
        have HY := Lib.hid hy
        have HG := Lib.hid hg
        have HS := Lib.hid hs
        have HL := Lib.hid hl
        clear hx hy hg hs hl c0 c1 c2 c3 c4 d0 d1 d2 d3 d4
        by_cases hxy : (⟨tt, ⟨op, d, p, q⟩⟩ : Ed) = ⟨tt', ⟨op', d', p', q'⟩⟩
        · cases hxy
          go_wp2_with (go_quiet (fail))
          go_roundw
          case rel => exact ⟨k + 1, by omega, by go_num, take_succ_eq4 HS.out HX.out HY.out, HG.out.drewN _⟩
          case measure => simp [intOf]; omega
        · have hne : decide (xs = ys) = false := by
            simp only [decide_eq_false_iff_not]; intro e; rw [e, HY.out] at HX; exact hxy (Option.some.inj HX.out).symm
          rw [hne] at HR
          by_cases gt : tt = tt'
          rotate_left
          · have t1 : (tt == tt') = false := by simpa using gt
            have t2 : (tt != tt') = true := by simpa using gt
            go_wp2_with (go_quiet (fail))
            exact HR.out _ (HG.out.drewN _)
          subst gt
          by_cases g0 : op = op'
          rotate_left
          · have t1 : (op == op') = false := by simpa using g0
            have t2 : (op != op') = true := by simpa using g0
            go_wp2_with (go_quiet (fail))
            exact HR.out _ (HG.out.drewN _)
          subst g0
          by_cases g1 : d = d'
          rotate_left
          · have t1 : (d == d') = false := by simpa using g1
            have t2 : (d != d') = true := by simpa using g1
            go_wp2_with (go_quiet (fail))
            exact HR.out _ (HG.out.drewN _)
          subst g1
          by_cases g2 : p = p'
          rotate_left
          · have t1 : (p == p') = false := by simpa using g2
            have t2 : (p != p') = true := by simpa using g2
            go_wp2_with (go_quiet (fail))
            exact HR.out _ (HG.out.drewN _)
          subst g2
          by_cases g3 : q = q'
          rotate_left
          · have t1 : (q == q') = false := by simpa using g3
            have t2 : (q != q') = true := by simpa using g3
            go_wp2_with (go_quiet (fail))
            exact HR.out _ (HG.out.drewN _)
          subst g3
          exact absurd rfl hxy
      · have ht := sameE_loop k hl hs (by omega)
        rw [ht] at HR
        go_wp2_with fail
        exact HR.out _ hg
  · have hne : decide (xs = ys) = false := by
      simp only [decide_eq_false_iff_not]; intro e; exact hl (by rw [e])
    rw [hne] at HR
    have hl2 : (xs.length : Int) ≠ ys.length := by omega
    have t1 : ((xs.length : Int) == ys.length) = false := beq_eq_false_iff_ne.2 hl2
    have t2 : ((xs.length : Int) != ys.length) = true := bne_iff_ne.2 hl2
    go_enter Tryz.func39, Tryz.ntmps39
    go_wp2_with fail
    exact HR.out _ (Grow.refl _)
end Go.Proofs.YtihdpbfhkddpcaaGreatDoor

namespace Go.Proofs.YtihdpbfhkddpcaaGreatDoor
open Go.RowKit

theorem keep_two {w2 X Y : World} {a0 a1 : Addr} {v0 v1 : Value} (g : Grow X Y) (h : X.cell? a0 = some v0 ∧ X.cell? a1 = some v1 ∧ Grow w2 X) : Y.cell? a0 = some v0 ∧ Y.cell? a1 = some v1 ∧ Grow w2 Y :=
  ⟨g.cell h.1, g.cell h.2.1, h.2.2.trans g⟩
set_option maxRecDepth 100000 in
set_option maxHeartbeats 4000000 in
theorem same7_any (xs : List (List Ed)) (L M : List (Lo Ed)) (v u : Value) (w : World) (hx : LlAt 5 encE w v L) (hy : LlAt 5 encE w u M) (hL : L.map Lo.x = xs) (hM : M.map Lo.x = xs) (R : Ending → World → Prop) (hR : ∀ w', Grow w w' → R (.returned (.bool true)) w') :
    Calls Tryz.prog 18 #[v, u] w R := by
  have HX := Lib.hid hx
  have HY := Lib.hid hy
  have HR := Lib.hid hR
  have hll : L.length = xs.length := by rw [← hL]; simp
  have hml : M.length = xs.length := by rw [← hM]; simp
  obtain ⟨va, vc, rfl, v1, v2, jk⟩ := hx.at_
  obtain ⟨ua, uc, rfl, u1, u2, jk2⟩ := hy.at_
  have HPA := Lib.hid (fun (k : Nat) (hk : k < xs.length) => pair_at hL hM hk)
  rw [hll] at v1 HX ⊢
  rw [hml] at u1 HY ⊢
  clear hR jk jk2 hx hy hL hM hll hml
  go_enter Tryz.func18, Tryz.ntmps18
  go_wp2_with fail
  go_loopw [5] (fun s3 wr => ∃ k : Nat, k ≤ xs.length ∧ s3 = .int .i64 k ∧ Grow w wr) (fun s3 _ => xs.length - (intOf s3).toNat)
  case atStart => exact ⟨0, Nat.zero_le _, rfl, Grow.refl _⟩
  case round =>
    obtain ⟨k, hk, rfl, hg⟩ := hrel
    have HG := Lib.hid hg
    clear hg
    by_cases hlt : k < xs.length
    · have hltz : (k : Int) < (xs.length : Int) := by omega
      obtain ⟨t, t2, ht, ht2, hte⟩ := HPA.out k hlt
      obtain ⟨b, o, rfl, hb, y0⟩ := lo_at (HX.out.grow HG.out).at_ ht
      have hyy := lo_at (HY.out.grow HG.out).at_ ht2
      obtain ⟨b2, o2, rfl, hb2, z0⟩ := hyy
      have HI := Lib.hid ((HX.out.grow HG.out).ins t (List.mem_of_getElem? ht))
      have HI2 := Lib.hid (show SlcAt 5 encE wr t2.v t.x by rw [hte]; exact (HY.out.grow HG.out).ins t2 (List.mem_of_getElem? ht2))
      clear ht ht2 hte
      go_wp2_with fail
      go_region_held3 (fun Z => Z.cell? ⟨b, o + k, none⟩ = some (.slice t.a t.n t.c) ∧ Z.cell? ⟨b2, o2 + k, none⟩ = some (.slice t2.a t2.n t2.c) ∧ Grow wr Z)
        (first | exact ⟨y0, z0, (Grow.refl wr).drew⟩ | exact ⟨y0, z0, Grow.refl wr⟩ | exact keep_two hg8 (by assumption))
        (first | (go_at_call 39; refine rsameE_any t.x t.x _ _ _ ?_ ?_ _ ?_; exact HI.out.grow (And.right (And.right ‹_›)); exact HI2.out.grow (And.right (And.right ‹_›)); intro w8 hg8; rw [decide_eq_true (rfl : t.x = t.x)]))
      rename_i hS
      have HG1 := Lib.hid (HG.out.trans hS.2.2)
      clear hS hg8 y0 z0
      go_wp2_with fail
      go_roundw
      case rel => exact ⟨k + 1, by omega, by go_num, HG1.out⟩
      case measure => simp [intOf]; omega
    · obtain rfl : k = xs.length := by omega
      have hltz : ¬ (xs.length : Int) < (xs.length : Int) := by omega
      have HF := Lib.hid (HR.out wr HG.out)
      go_wp2_with fail
      exact HF.out
end Go.Proofs.YtihdpbfhkddpcaaGreatDoor

namespace Go.Proofs.YtihdpbfhkddpcaaGreatDoor
open Go.RowKit

def putT (t : ByteArray) : ByteArray := ⟨#[112, 117, 116, 32]⟩ ++ t
def undoT : ByteArray := ⟨#[117, 110, 100, 111]⟩
theorem putT_data (t : ByteArray) : (putT t).data.toList = 112 :: 117 :: 116 :: 32 :: t.data.toList := by
  unfold putT
  simp [ByteArray.data_append]
theorem putT_size (t : ByteArray) : (putT t).size = 4 + t.size := by
  rw [tx_len, putT_data, tx_len t]; simp; omega
theorem occ_blank (l : List UInt8) (i : Nat) : Lib.occAt l [32] i = true ↔ l[i]? = some 32 := by
  unfold Lib.occAt
  cases h : l[i]? with
  | none =>
    rw [List.drop_eq_nil_of_le (List.getElem?_eq_none_iff.1 h)]
    simp
  | some c =>
    obtain ⟨h1, h2⟩ := List.getElem?_eq_some_iff.1 h
    rw [List.drop_eq_getElem_cons h1, h2]
    simp
    exact eq_comm
theorem put_index (t : ByteArray) : Lib.indexB (putT t) blank = ((3 : Nat) : Int) := by
  have hb : blank.data.toList = [32] := rfl
  rcases Lib.index_spec (putT t).data.toList blank.data.toList with ⟨_, h2⟩ | ⟨i, h1, h2, h3, h4⟩
  · have := h2 3 (by rw [putT_data]; simp)
    rw [hb] at this
    have h3 := (occ_blank (putT t).data.toList 3).2 (by rw [putT_data]; rfl)
    rw [this] at h3; cases h3
  · have e : i = 3 := by
      rw [hb] at h3
      have h3' := (occ_blank _ _).1 h3
      rw [putT_data] at h3'
      rcases i with _ | _ | _ | _ | i
      · simp at h3'
      · simp at h3'
      · simp at h3'
      · rfl
      · have := h4 3 (by omega)
        rw [hb] at this
        have h5 := (occ_blank (putT t).data.toList 3).2 (by rw [putT_data]; rfl)
        rw [this] at h5; cases h5
    subst e
    exact h1
theorem ba_ext {a b : ByteArray} (h : a.data.toList = b.data.toList) : a = b := by
  have h2 : a.data = b.data := Array.toList_inj.1 h
  cases a; cases b; simp_all
theorem form_no (t : ByteArray) : formB (putT t) = none := by
  have hne : ∀ w : ByteArray, w.data.toList[3]? ≠ some 32 → putT t ≠ w := by
    intro w hw e
    apply hw
    rw [← e, putT_data]; rfl
  unfold formB
  rw [if_neg (hne _ (by decide)), if_neg (hne _ (by decide)), if_neg (hne _ (by decide)), if_neg (hne _ (by decide)), if_neg (hne _ (by decide)), if_neg (hne _ (by decide)), if_neg (hne _ (by decide))]
theorem put_kind {t : ByteArray} {k : Nat} {l : List Int} (h : parseB (putT t) = some (k, l)) : k = 0 := by
  unfold parseB wordsB at h
  cases hn : Lib.countB (putT t) blank with
  | zero =>
    rw [hn, Lib.splitB_zero] at h
    dsimp only at h
    rw [form_no] at h
    cases h
  | succ n =>
    rw [hn, Lib.splitB_hit _ _ _ _ 3 (put_index t)] at h
    dsimp only at h
    have hw : (putT t).extract 0 (3 + 0) = wPut := by
      apply ba_ext
      rw [ex_data, putT_data]
      rfl
    rw [hw] at h
    simp only [show formB wPut = some (0, 5) from rfl] at h
    split at h
    · cases h
    · cases hq : numsW (Lib.splitB blank 0 n ((putT t).extract (3 + blank.size) (putT t).size)) with
      | none => rw [hq] at h; cases h
      | some q =>
        rw [hq] at h
        simp only [Option.map_some, Option.some.injEq, Prod.mk.injEq] at h
        exact h.1.symm
theorem parse_undo : parseB undoT = some (1, []) := by
  unfold parseB
  rw [show wordsB undoT = [wUndo] from by decide +kernel]
  simp only [show formB wUndo = some (1, 0) from by decide +kernel]
  rw [if_neg (by decide +kernel)]
  simp [numsW]
theorem do_err {s : Bn} {t : ByteArray} (h : (doB s t).1 ≠ 0) : (doB s t).2 = s := by
  unfold doB at h ⊢
  split
  · rfl
  · rename_i k l hp
    rw [hp] at h
    dsimp only at h
    split
    · rfl
    · next h8 =>
      rw [if_neg h8] at h
      split
      · rfl
      · next he => rw [if_neg he] at h; exact absurd rfl h
theorem orders_do (s : Bn) (t : ByteArray) : (doB s t).2.orders.length ≤ s.orders.length + 1 := by
  have he : ∀ x, (repairB s x).2.orders = s.orders := fun x => by unfold repairB; repeat' split
                                                                  all_goals rfl
  have hx : ∀ k l, (execB s k l).2.orders = s.orders := by
    intro k l
    unfold execB putB undoB testB forgetB lockB fixBn verifyB
    repeat' split
    all_goals first | rfl | exact he _
  unfold doB
  repeat' split
  all_goals first | (exact Nat.le_succ _) | (simp [hx])
theorem orders_dos (s : Bn) : ∀ l, (dosB s l).orders.length ≤ s.orders.length + l.length
  | [] => Nat.le_refl _
  | t :: r => by
    have h1 : (dosB (doB s t).2 r).orders.length ≤ (doB s t).2.orders.length + r.length := orders_dos (doB s t).2 r
    have h2 := orders_do s t
    show (dosB (doB s t).2 r).orders.length ≤ _
    simp only [List.length_cons]
    omega
/-- A put that is taken: the program is another, one patch more is done, and an undo brings both back. -/
theorem put_undo {s : Bn} (ok : OkB s) (ho : s.orders.length < 79) {t : ByteArray} (h : (doB s (putT t)).1 = 0) :
    (doB s (putT t)).2.prog ≠ s.prog ∧ (doB s (putT t)).2.hist.length = s.hist.length + 1 ∧ (doB (doB s (putT t)).2 undoT).1 = 0 ∧ (doB (doB s (putT t)).2 undoT).2.prog = s.prog ∧ (doB (doB s (putT t)).2 undoT).2.hist = s.hist := by
  cases hp : parseB (putT t) with
  | none => unfold doB at h; rw [hp] at h; cases h
  | some kl =>
    obtain ⟨k, l⟩ := kl
    obtain rfl := put_kind hp
    have hx : (execB s 0 l).1 = 0 := by
      unfold doB at h
      rw [hp] at h
      dsimp only at h
      rw [if_neg (by omega)] at h
      by_cases he : (execB s 0 l).1 ≠ 0
      · rw [if_pos he] at h; exact h
      · simpa using he
    have hd : (doB s (putT t)).2 = { (execB s 0 l).2 with orders := (execB s 0 l).2.orders ++ [putT t] } := by
      unfold doB
      rw [hp]
      dsimp only
      rw [if_neg (by omega), if_neg (by simpa using hx)]
    rw [hd]
    have hE : execB s 0 l = putB s (nth l 0) ⟨nth l 1, nth l 2, nth l 3, nth l 4⟩ := rfl
    rw [hE] at hx ⊢
    generalize nth l 0 = i at hx ⊢
    generalize (⟨nth l 1, nth l 2, nth l 3, nth l 4⟩ : Ln) = n at hx ⊢
    unfold putB at hx ⊢
    by_cases c1 : i < 0 ∨ (s.prog.length : Int) ≤ i
    · rw [if_pos c1] at hx; cases hx
    rw [if_neg c1] at hx ⊢
    by_cases c2 : n.ok = false
    · rw [if_pos c2] at hx; cases hx
    rw [if_neg c2] at hx ⊢
    by_cases c3 : lineAt s.prog i = n
    · rw [if_pos c3] at hx; cases hx
    rw [if_neg c3] at hx ⊢
    unfold repairB at hx ⊢
    by_cases c4 : s.hist.length = 8
    · rw [if_pos c4] at hx; cases hx
    rw [if_neg c4] at hx ⊢
    by_cases c5 : doE s.prog [⟨i, n⟩] ≠ 0
    · rw [if_pos c5] at hx; exact absurd hx c5
    rw [if_neg c5] at hx ⊢
    by_cases c6 : brkB (doM s.prog [⟨i, n⟩]) s.tests s.lk = true
    · rw [if_pos c6] at hx; cases hx
    rw [if_neg c6]
    dsimp only
    have hlen := ok.len
    have hpr : ∀ o, ({ progs := s.progs ++ [doM s.prog [⟨i, n⟩]], hist := s.hist ++ [[(⟨i, n⟩ : Ed)]], tests := s.tests, lk := s.lk, fixes := s.fixes, checks := s.checks, orders := o } : Bn).prog = doM s.prog [⟨i, n⟩] := fun o => by unfold Bn.prog; simp
    have hu : ∀ o, undoB { progs := s.progs ++ [doM s.prog [⟨i, n⟩]], hist := s.hist ++ [[(⟨i, n⟩ : Ed)]], tests := s.tests, lk := s.lk, fixes := s.fixes, checks := s.checks, orders := o } = (0, { progs := s.progs, hist := s.hist, tests := s.tests, lk := s.lk, fixes := s.fixes, checks := s.checks, orders := o }) := fun o => by
      unfold undoB
      dsimp only
      rw [if_neg (by simp)]
      have e1 : ((s.progs ++ [doM s.prog [⟨i, n⟩]])[(s.hist ++ [[(⟨i, n⟩ : Ed)]]).length - 1]?).getD [] = s.prog := by
        rw [List.length_append, List.length_singleton, Nat.add_sub_cancel, List.getElem?_append_left (by omega), ok.ne]; rfl
      rw [e1, ok.holds, if_neg (by simp)]
      have e2 : (s.progs ++ [doM s.prog [⟨i, n⟩]]).take (s.hist ++ [[(⟨i, n⟩ : Ed)]]).length = s.progs := by
        rw [List.length_append, List.length_singleton, ← hlen, List.take_left']; rfl
      have e3 : (s.hist ++ [[(⟨i, n⟩ : Ed)]]).take ((s.hist ++ [[(⟨i, n⟩ : Ed)]]).length - 1) = s.hist := by
        rw [List.length_append, List.length_singleton, Nat.add_sub_cancel, List.take_left']; rfl
      rw [e2, e3]
    have hdu : ∀ o, o.length < 80 → doB { progs := s.progs ++ [doM s.prog [⟨i, n⟩]], hist := s.hist ++ [[(⟨i, n⟩ : Ed)]], tests := s.tests, lk := s.lk, fixes := s.fixes, checks := s.checks, orders := o } undoT = (0, { progs := s.progs, hist := s.hist, tests := s.tests, lk := s.lk, fixes := s.fixes, checks := s.checks, orders := o ++ [undoT] }) := fun o ho => by
      unfold doB
      rw [parse_undo]
      dsimp only
      rw [if_neg (by omega)]
      rw [show ∀ b, execB b 1 [] = undoB b from fun _ => rfl, hu, if_neg (by simp)]
    have hol : (s.orders ++ [putT t]).length < 80 := by simp; omega
    rw [hdu _ hol, hpr]
    refine ⟨fun e => ?_, by simp, rfl, rfl, rfl⟩
    have hi : i.toNat < s.prog.length := by omega
    have h1 := congrArg (fun q => q[i.toNat]?) e
    rw [doM_get, List.getElem?_eq_getElem hi] at h1
    have hat : atB ((i.toNat : Nat) : Int) (⟨i, n⟩ : Ed) = true := by unfold atB; simp; omega
    simp only [Option.map_some, List.find?_cons, hat] at h1
    apply c3
    unfold lineAt
    rw [List.getElem?_eq_getElem hi, ← Option.some.inj h1]; rfl
end Go.Proofs.YtihdpbfhkddpcaaGreatDoor

namespace Go.Proofs.YtihdpbfhkddpcaaGreatDoor
open Go.RowKit

set_option maxRecDepth 100000 in
set_option maxHeartbeats 8000000 in
theorem benchUndoes_any (p : List Ln) (l : List ByteArray) (text : ByteArray) (w : World) (v0 v1 : Value) (hg : Glob w) (hp : LinesAt w v0 p) (hl : TextsAt w v1 l) (R : Ending → World → Prop) (hR : ∀ w', Grow w w' → R (.returned (.bool true)) w') :
    Calls Tryz.prog 3 #[v0, v1, .string text] w R := by
  have HR := Lib.hid hR
  have HG := Lib.hid hg
  have HP := Lib.hid hp
  have HL := Lib.hid hl
  have hgs := hg.size
  clear hR hg hp hl
  go_enter Tryz.func3, Tryz.ntmps3
  go_wp2_with fail
  refine long49_any p _ _ HP.out _ ?_
  cases hlg : decide (100 < p.length) with
  | true =>
    go_wp2_with fail
    refine sane_any _ HG.out _ ?_
    intro w2 hg2
    have HF := Lib.hid (HR.out w2 hg2)
    clear hg2
    go_wp2_with fail
    exact HF.out
  | false =>
  have hpl : p.length ≤ 100 := by have := of_decide_eq_false hlg; omega
  clear hlg
  go_wp2_with fail
  refine Long9_any l _ _ HL.out _ ?_
  intro w1 hg1
  have HG1 := Lib.hid hg1
  clear hg1
  cases hlg : lngT l with
  | true =>
    go_wp2_with fail
    refine sane_any _ (HG.out.grow HG1.out) _ ?_
    intro w2 hg2
    have HF := Lib.hid (HR.out w2 (HG1.out.trans hg2))
    clear hg2
    go_wp2_with fail
    exact HF.out
  | false =>
  obtain ⟨hsz, hlen⟩ := lngT_no hlg
  have HSZ := Lib.hid hsz
  clear hlg hsz
  by_cases hts : 400 < text.size
  · have haz : decide ((text.size : Int) > 400) = true := by rw [decide_eq_true_eq]; omega
    go_wp2_with fail
    refine sane_any _ (HG.out.grow HG1.out) _ ?_
    intro w2 hg2
    have HF := Lib.hid (HR.out w2 (HG1.out.trans hg2))
    clear hg2
    go_wp2_with fail
    exact HF.out
  have haz : decide ((text.size : Int) > 400) = false := by rw [decide_eq_false_iff_not]; omega
  have HTS := Lib.hid (show (putT text).size < 4294967281 by rw [putT_size]; omega)
  go_wp2_with fail
  refine Begin_any p _ _ (HP.out.grow HG1.out) (by omega) _ ?_ ?_
  · intro h0 w2 hg2
    have HG2 := Lib.hid (HG1.out.trans hg2)
    have H0 := Lib.hid h0
    clear hg2 h0
    go_wp2_with fail
    refine failed9_any p _ _ (HG.out.grow HG2.out) (HP.out.grow HG2.out) (by omega) H0.out _ ?_
    intro w3 hg3
    have HF := Lib.hid (HR.out w3 (HG2.out.trans hg3))
    clear hg3
    go_wp2_with fail
    exact HF.out
  · intro h0 w2 B ra hg2 hB hb
    have HG2 := Lib.hid (HG1.out.trans hg2)
    have HB2 := Lib.hid hb
    have H0 := Lib.hid h0
    have hwB : w.heap.size ≤ B := Nat.le_trans HG1.out.sz hB
    have hBl := hb.hid.bd B (by simp)
    have HLT := Lib.hid hBl
    clear hg2 hb hB h0
    go_wp2_with fail
    refine few_any l _ _ (HL.out.grow HG2.out) _ ?_
    intro w3 v3 hg3 ht3 hv3
    have hoff := texts_off HL.out hwB ht3 hv3 hBl
    obtain ⟨ls, hls⟩ : ∃ z, l.take 24 = z := ⟨_, rfl⟩
    have hlsz : ∀ t ∈ ls, t.size < 4294967281 := fun t ht => by
      rw [← hls] at ht
      have := HSZ.out t (List.mem_of_mem_take ht)
      omega
    rw [hls] at ht3 hoff
    have HLS := Lib.hid hlsz
    have HLL := Lib.hid (show ls.length ≤ 24 by rw [← hls, List.length_take]; omega)
    have HT := Lib.hid hoff
    have HG3 := Lib.hid (HG2.out.trans hg3)
    have HB3 := Lib.hid (HB2.out.grow hg3)
    obtain ⟨va, vc, rfl, a1, a2, jk⟩ := ht3
    have hB4 : 4 < B := by omega
    have HN0 := Lib.hid (OkB.new H0.out)
    clear hg3 hv3 hoff hlsz jk hls HB2
    go_wp2_with fail
    go_loopw [10] (fun s8 wr => ∃ k : Nat, k ≤ ls.length ∧ s8 = .int .i64 k ∧ Chg B w3 wr ∧ BnAt (fun k => k == B) B wr (dosB (newB p) (ls.take k))) (fun s8 _ => ls.length - (intOf s8).toNat)
    case atStart => exact ⟨0, Nat.zero_le _, rfl, chg_refl B w3, HB3.out⟩
    case round =>
      obtain ⟨k, hk, rfl, hc, hbn⟩ := hrel
      have HC := Lib.hid hc
      have HBN := Lib.hid hbn
      have HGW := Lib.hid (chg_grow HG3.out hc hwB)
      clear hc hbn
      by_cases hlt : k < ls.length
      · have hltz : (k : Int) < (ls.length : Int) := by omega
        obtain ⟨u, hu⟩ : ∃ u, ls[k]? = some u := ⟨_, List.getElem?_eq_getElem hlt⟩
        obtain ⟨b, o, rfl, hbl, y0⟩ := texts_at (show TextsAt wr _ ls from (HT.out.grow HC.out).unhide) hu
        have hus := HLS.out u (List.mem_of_getElem? hu)
        have HU := Lib.hid hu
        clear hu
        go_wp2_with fail
        refine bDo_any (fun k => k == B) B u hus (dosB (newB p) (ls.take k)) _ (HG.out.grow HGW.out) HBN.out (HN0.out.dos _) hB4 _ ?_
        intro w5 hc5 hb5
        have HC5 := Lib.hid (HC.out.trans hc5)
        have HB5 := Lib.hid (show BnAt (fun k => k == B) B w5 (dosB (newB p) (ls.take (k + 1))) by rw [dos_snoc HU.out]; exact hb5)
        obtain ⟨e, he⟩ : ∃ e, (doB (dosB (newB p) (ls.take k)) u).1 = e := ⟨_, rfl⟩
        rw [he]
        clear he hc5 hb5
        go_wp2_with fail
        go_roundw
        case rel => exact ⟨k + 1, by omega, by go_num, HC5.out, HB5.out⟩
        case measure => simp [intOf]; omega
      · obtain rfl : k = ls.length := by omega
        have hltz : ¬ (ls.length : Int) < (ls.length : Int) := by omega
        have HOK := Lib.hid ((HN0.out.dos ls))
        have HORD := Lib.hid (show (dosB (newB p) ls).orders.length < 79 by have h1 := orders_dos (newB p) ls; have h2 : (newB p).orders.length = 0 := rfl; have := HLL.out; omega)
        have hbn := HBN.out
        rw [List.take_length] at hbn
        obtain ⟨S, hS⟩ : ∃ z, dosB (newB p) ls = z := ⟨_, rfl⟩
        rw [hS] at HOK HORD hbn
        have HBS := Lib.hid hbn
        clear hbn hS HBN
        go_wp2_with fail
        refine Program_any (fun k => k == B) B S _ HBS.out HOK.out _ ?_
        intro w6 pv base6 hg6 hb6 ho6
        have HBS6 := Lib.hid (HBS.out.grow hg6)
        have HP6 := Lib.hid (lines_hide (slc_of_owns encL_len ho6) HBS6.out.hid.noq)
        have HG6 := Lib.hid (HGW.out.trans hg6)
        clear hg6 hb6 ho6 HBS HGW
        go_wp2_with fail
        refine History_any (fun k => k == B) B S _ HBS6.out HOK.out _ ?_
        intro w7 hv base7 L hg7 hb7 hn7 hl7 hx7
        have HB7 := Lib.hid (HBS6.out.grow hg7)
        have HP7 := Lib.hid (HP6.out.grow (hg7.hid _))
        have HH7 := Lib.hid (show LlAt 5 encE (hideW (fun k => k == B) w7) hv L from ⟨hl7.at_.hide_new hn7 (fun b hb => by have h1 := HBS6.out.hid.bd B (by simp); show (b == B) = false; rw [beq_eq_false_iff_ne]; omega), fun t ht => edits_hide (hl7.ins t ht) HB7.out.hid.noq⟩)
        have HG7 := Lib.hid (HG6.out.trans hg7)
        have HX7 := Lib.hid hx7
        have hLl : L.length = S.hist.length := by rw [← hx7]; simp
        obtain ⟨ha, hc, rfl, hh1, hh2, jk⟩ := hl7.at_
        rw [hLl] at HH7 hh1 ⊢
        have hn8 := HOK.out.h8
        obtain ⟨n, hn⟩ : ∃ z, S.hist.length = z := ⟨_, rfl⟩
        rw [hn] at HH7 hh1 hn8 ⊢
        have HN := Lib.hid hn
        clear hg7 hb7 hn7 hl7 hx7 HBS6 HP6 HG6 jk hLl hn
        go_wp2_with fail
        refine bDo_any (fun k => k == B) B (putT text) HTS.out S _ (HG.out.grow HG7.out) HB7.out HOK.out hB4 _ ?_
        intro w8 hc8 hb8
        have HP8 := Lib.hid (HP7.out.grow hc8)
        have HH8 := Lib.hid (HH7.out.grow hc8)
        have HG8 := Lib.hid (chg_grow HG7.out hc8 hwB)
        by_cases he : (doB S (putT text)).1 = 0
        · obtain ⟨u1, u2, u3, u4, u5⟩ := put_undo HOK.out HORD.out he
          have HOK2 := Lib.hid (HOK.out.do (putT text))
          rw [he]
          obtain ⟨S2, hS2⟩ : ∃ z, (doB S (putT text)).2 = z := ⟨_, rfl⟩
          rw [hS2] at HOK2 hb8 u1 u2 u3 u4 u5
          have HB8 := Lib.hid hb8
          have HU1 := Lib.hid u1
          have HU2 := Lib.hid u2
          have HU3 := Lib.hid u3
          have HU4 := Lib.hid u4
          have HU5 := Lib.hid u5
          clear hc8 hb8 hS2 he u1 u2 u3 u4 u5
          go_wp2_with fail
          refine Program_any (fun k => k == B) B S2 _ HB8.out HOK2.out _ ?_
          intro w9 p9 base9 hg9 hb9 ho9
          have HL9 := Lib.hid (show LinesAt w9 p9 S2.prog from slc_of_owns encL_len ho9)
          have HB9 := Lib.hid (HB8.out.grow hg9)
          have HP9 := Lib.hid (HP8.out.grow (hg9.hid _))
          have HH9 := Lib.hid (HH8.out.grow (hg9.hid _))
          have HG9 := Lib.hid (HG8.out.trans hg9)
          clear hg9 hb9 ho9
          go_wp2_with fail
          refine rsame4_any S2.prog S.prog _ _ _ HL9.out HP9.out.unhide _ ?_
          intro w10 hg10
          rw [decide_eq_false HU1.out]
          have HB10 := Lib.hid (HB9.out.grow hg10)
          have HP10 := Lib.hid (HP9.out.grow (hg10.hid _))
          have HH10 := Lib.hid (HH9.out.grow (hg10.hid _))
          have HG10 := Lib.hid (HG9.out.trans hg10)
          clear hg10
          go_wp2_with fail
          refine History_any (fun k => k == B) B S2 _ HB10.out HOK2.out _ ?_
          intro w11 hv11 base11 L2 hg11 hb11 hn11 hl11 hx11
          have hLl : (L2.length : Int) = (n : Int) + 1 := by
            have h1 : L2.length = S2.hist.length := by rw [← hx11]; simp
            rw [h1, HU2.out, HN.out]; simp
          obtain ⟨ha2, hc2, rfl, hh3, hh4, jk⟩ := hl11.at_
          have hw : IntKind.i64.wrap ((n : Int) + 1) = (L2.length : Int) := by rw [hLl]; exact IntWalk.i64_in _ (by omega)
          have HB11 := Lib.hid (HB10.out.grow hg11)
          have HP11 := Lib.hid (HP10.out.grow (hg11.hid _))
          have HH11 := Lib.hid (HH10.out.grow (hg11.hid _))
          have HG11 := Lib.hid (HG10.out.trans hg11)
          clear hg11 hb11 hn11 hl11 hx11 jk hLl
          go_wp2_with fail
          refine bDo_any (fun k => k == B) B undoT (by decide) S2 _ (HG.out.grow HG11.out) HB11.out HOK2.out hB4 _ ?_
          intro w12 hc12 hb12
          have HOK3 := Lib.hid (HOK2.out.do undoT)
          rw [HU3.out]
          obtain ⟨S3, hS3⟩ : ∃ z, (doB S2 undoT).2 = z := ⟨_, rfl⟩
          have hu4 := HU4.out
          have hu5 := HU5.out
          rw [hS3] at HOK3 hb12 hu4 hu5
          have HB12 := Lib.hid hb12
          have HU4 := Lib.hid hu4
          have HU5 := Lib.hid hu5
          have HP12 := Lib.hid (HP11.out.grow hc12)
          have HH12 := Lib.hid (HH11.out.grow hc12)
          have HG12 := Lib.hid (chg_grow HG11.out hc12 hwB)
          clear hc12 hb12 hS3 hu4 hu5
          go_wp2_with fail
          refine Program_any (fun k => k == B) B S3 _ HB12.out HOK3.out _ ?_
          intro w13 p13 base13 hg13 hb13 ho13
          have HL13 := Lib.hid (show LinesAt w13 p13 S.prog from by rw [← HU4.out]; exact slc_of_owns encL_len ho13)
          have HB13 := Lib.hid (HB12.out.grow hg13)
          have HP13 := Lib.hid (HP12.out.grow (hg13.hid _))
          have HH13 := Lib.hid (HH12.out.grow (hg13.hid _))
          have HG13 := Lib.hid (HG12.out.trans hg13)
          clear hg13 hb13 ho13
          go_wp2_with fail
          refine rsame4_any S.prog S.prog _ _ _ HL13.out HP13.out.unhide _ ?_
          intro w14 hg14
          rw [decide_eq_true (rfl : S.prog = S.prog)]
          have HB14 := Lib.hid (HB13.out.grow hg14)
          have HH14 := Lib.hid (HH13.out.grow (hg14.hid _))
          have HG14 := Lib.hid (HG13.out.trans hg14)
          clear hg14
          go_wp2_with fail
          refine History_any (fun k => k == B) B S3 _ HB14.out HOK3.out _ ?_
          intro w15 hv15 base15 L15 hg15 hb15 hn15 hl15 hx15
          have HL15 := Lib.hid hl15
          have HX15 := Lib.hid (show L15.map Lo.x = S.hist from hx15.trans HU5.out)
          have HH15 := Lib.hid (HH14.out.grow (hg15.hid _))
          have HG15 := Lib.hid (HG14.out.trans hg15)
          clear hg15 hb15 hn15 hl15 hx15
          go_wp2_with fail
          refine same7_any S.hist L15 L _ _ _ HL15.out HH15.out.unhide HX15.out HX7.out _ ?_
          intro w16 hg16
          have HG16 := Lib.hid (HG15.out.trans hg16)
          clear hg16
          go_wp2_with fail
          refine sane_any _ (HG.out.grow HG16.out) _ ?_
          intro w17 hg17
          have HF := Lib.hid (HR.out w17 (HG16.out.trans hg17))
          clear hg17
          go_wp2_with fail
          exact HF.out
        · have hst := do_err he
          rw [hst] at hb8
          obtain ⟨e, he2⟩ : ∃ e, (doB S (putT text)).1 = e := ⟨_, rfl⟩
          rw [he2] at he ⊢
          have t1 : (e != 0) = true := bne_iff_ne.2 he
          have t2 : (e == 0) = false := beq_eq_false_iff_ne.2 he
          have HB8 := Lib.hid hb8
          clear hst hb8 hc8 he2 he
          go_wp2_with fail
          refine Program_any (fun k => k == B) B S _ HB8.out HOK.out _ ?_
          intro w13 p13 base13 hg13 hb13 ho13
          have HL13 := Lib.hid (show LinesAt w13 p13 S.prog from slc_of_owns encL_len ho13)
          have HB13 := Lib.hid (HB8.out.grow hg13)
          have HP13 := Lib.hid (HP8.out.grow (hg13.hid _))
          have HH13 := Lib.hid (HH8.out.grow (hg13.hid _))
          have HG13 := Lib.hid (HG8.out.trans hg13)
          clear hg13 hb13 ho13
          go_wp2_with fail
          refine rsame4_any S.prog S.prog _ _ _ HL13.out HP13.out.unhide _ ?_
          intro w14 hg14
          rw [decide_eq_true (rfl : S.prog = S.prog)]
          have HB14 := Lib.hid (HB13.out.grow hg14)
          have HH14 := Lib.hid (HH13.out.grow (hg14.hid _))
          have HG14 := Lib.hid (HG13.out.trans hg14)
          clear hg14
          go_wp2_with fail
          refine History_any (fun k => k == B) B S _ HB14.out HOK.out _ ?_
          intro w15 hv15 base15 L15 hg15 hb15 hn15 hl15 hx15
          have HL15 := Lib.hid hl15
          have HX15 := Lib.hid (show L15.map Lo.x = S.hist from hx15)
          have HH15 := Lib.hid (HH14.out.grow (hg15.hid _))
          have HG15 := Lib.hid (HG14.out.trans hg15)
          clear hg15 hb15 hn15 hl15 hx15
          go_wp2_with fail
          refine same7_any S.hist L15 L _ _ _ HL15.out HH15.out.unhide HX15.out HX7.out _ ?_
          intro w16 hg16
          have HG16 := Lib.hid (HG15.out.trans hg16)
          clear hg16
          go_wp2_with fail
          refine sane_any _ (HG.out.grow HG16.out) _ ?_
          intro w17 hg17
          have HF := Lib.hid (HR.out w17 (HG16.out.trans hg17))
          clear hg17
          go_wp2_with fail
          exact HF.out
end Go.Proofs.YtihdpbfhkddpcaaGreatDoor

namespace Go.Proofs.YtihdpbfhkddpcaaGreatDoor
open Go.ChangeShapes Go.WideShapes Go.ChangeAt Go.RowKit

set_option maxRecDepth 100000 in
set_option maxHeartbeats 4000000 in
theorem benchUndoes_lifted (os : Os) (started : os.Started) (H : Type) (enc : TypeId × Value → H) :
    ReturnsInHanded {} Tryz.checked os 3 .any (fun w args => (Rows.benchUndoesSpec.pre enc Tryz.prog Tryz.f3 [] false w args ∧ laidMetH Tryz.prog Rows.benchUndoesRow.laid w) ∧ sizedMet enc Tryz.prog Tryz.f3 (OpenSpec.ofChange Rows.benchUndoesSpec) false w args)
      (Rows.benchUndoesSpec.post enc Tryz.prog Tryz.f3 false true false false) := by
  have hlk : Rows.benchUndoesRow.laid = lk := rfl
  rw [hlk]
  refine handed_laid (C := Tryz.checked) (X := fun w _ => laidMetH Tryz.prog lk w) (fun _ _ _ hh h => h.of_heap hh) Tryz.own9 started (by kernel_rfl) Tryz.func3
    (ChangeSpec.witness_shaped (enc := enc) (C := Tryz.checked) (os := os) (X := fun w _ => laidMetH Tryz.prog lk w) false (w9 os) #[.slice none 0 0, .slice none 0 0, .string ByteArray.empty] 8 (w9_os os) (World.shaped_of_ZipB (by kernel_rfl) (by kernel_rfl)) (by kernel_rfl) (by kernel_rfl) (by kernel_rfl) (w9_met os _)) ?_
  intro W base args ds gs before hval0 hW hcnd _ hsh hL
  have hval : ∀ (j : Nat) t v, Tryz.f3.params[j]? = some t → args[j]? = some v → Value.okWide Tryz.prog W .any base t v := hval0
  have hW' := hW
  obtain ⟨p, q, hA0, hV, rfl, hfz, hnd⟩ := hW
  have hA : DataW.TrodAll enc Tryz.prog W 0 (fun _ => true) true Tryz.f3.params.toList args.toList ds p := hA0
  rw [Tryz.params3] at hA hval
  obtain ⟨v0, v1, v2, d0, d1, d2, p0, p1, p2, rfl, rfl, rfl, h0, h1, h2⟩ := trodAll_three hA
  obtain ⟨rfl, rfl⟩ := trodVars_none hV
  have hk0 := h0
  have hk1 := h1
  have hk2 := h2
  obtain ⟨x0, hx0⟩ := arg_lines (hval 0 22 v0 rfl rfl) h0
  obtain ⟨x1, hx1⟩ := arg_texts (hval 1 23 v1 rfl rfl) h1
  obtain ⟨x2, rfl, hx2⟩ := arg_text (hval 2 9 v2 rfl rfl) h2
  have hG := glob_of hL hsh
  clear hA0 hval0
  refine Calls.mono (benchUndoes_any x0 x1 x2 W v0 v1 hG hx0 hx1 (fun e W' => e = .returned (.bool true) ∧ Grow W W') (fun W' hg => ⟨rfl, hg⟩)) fun e W' ⟨he, hB⟩ => ?_
  subst he
  have hlt0 : ∀ x ∈ p0, x.block < W.heap.size := fun x hx => hW'.lt x (List.mem_append_left _ (List.mem_append_left _ (List.mem_append_left _ (hx))))
  have ht0 := Below.trod Tryz.laidOut9 (by kernel_rfl) (of_decide_eq_true (by kernel_rfl)) hk0 hB hlt0
  have hlt1 : ∀ x ∈ p1, x.block < W.heap.size := fun x hx => hW'.lt x (List.mem_append_left _ (List.mem_append_left _ (List.mem_append_right _ hx)))
  have ht1 := Below.trod Tryz.laidOut9 (by kernel_rfl) (of_decide_eq_true (by kernel_rfl)) hk1 hB hlt1
  have hlt2 : ∀ x ∈ p2, x.block < W.heap.size := fun x hx => hW'.lt x (List.mem_append_left _ (List.mem_append_right _ hx))
  have ht2 := Below.trod Tryz.laidOut9 (by kernel_rfl) (of_decide_eq_true (by kernel_rfl)) hk2 hB hlt2
  exact ⟨_, rfl, _, _, _, [], _, [], hW', trodAll_mk1 (shut_bool Tryz.underlying4 true), trodAll_mk3 ht0 ht1 ht2, rfl, hB.frame _, fun h => by cases h⟩

/-! ### The row's closed facts, one by one (the kernel has no room for all of them in one declaration) -/
theorem bandI {a b : Bool} (ha : a = true) (hb : b = true) : (a && b) = true := by rw [ha, hb]; rfl
set_option maxRecDepth 100000 in
theorem benchUndoes_f0 : (Rows.benchUndoesRow.wf (OpenSpec.ofChange Rows.benchUndoesSpec)) = true := by kernel_rfl
set_option maxRecDepth 100000 in
theorem benchUndoes_f1 : (laidOutB Tryz.prog) = true := by kernel_rfl
set_option maxRecDepth 100000 in
theorem benchUndoes_f2 : (mapsRowed Tryz.prog) = true := by kernel_rfl
set_option maxRecDepth 100000 in
theorem benchUndoes_f3 : (Tryz.f3.params.all (Tryz.prog.readableRec ·)) = true := by kernel_rfl
set_option maxRecDepth 100000 in
theorem benchUndoes_f4 : (namedTie Tryz.prog Rows.benchUndoesRow.named Rows.benchUndoesSpec.vars) = true := by kernel_rfl
set_option maxRecDepth 100000 in
theorem benchUndoes_f5 : ((Rows.benchUndoesRow.stops == [])) = true := by kernel_rfl
set_option maxRecDepth 100000 in
theorem benchUndoes_f6 : ((Tryz.prog.stops == [])) = true := by kernel_rfl
set_option maxRecDepth 100000 in
theorem benchUndoes_f7 : ((Rows.benchUndoesRow.knobs == [])) = true := by kernel_rfl
set_option maxRecDepth 100000 in
theorem benchUndoes_f8 : ((Tryz.prog.stopKnobs == [])) = true := by kernel_rfl
set_option maxRecDepth 100000 in
theorem benchUndoes_f9 : ((Rows.benchUndoesRow.inPlace == Tryz.prog.inPlace 3)) = true := by kernel_rfl
set_option maxRecDepth 100000 in
theorem benchUndoes_f10 : ((Rows.benchUndoesRow.unfollowed == Tryz.prog.unfollowed 3)) = true := by kernel_rfl
set_option maxRecDepth 100000 in
theorem benchUndoes_f11 : ((Rows.benchUndoesRow.recurses == Tryz.prog.recurses 3)) = true := by kernel_rfl
set_option maxRecDepth 100000 in
theorem benchUndoes_f12 : ((Rows.benchUndoesRow.named == Tryz.prog.varsNamed 3)) = true := by kernel_rfl
set_option maxRecDepth 100000 in
theorem benchUndoes_f13 : ((Rows.benchUndoesRow.maps == (Tryz.f3.params.toList ++ Rows.benchUndoesSpec.plain.varTypes Tryz.prog).any (Tryz.prog.mapsRec ·))) = true := by kernel_rfl
set_option maxRecDepth 100000 in
theorem benchUndoes_f14 : ((Rows.benchUndoesRow.ifaces == (Tryz.f3.params.toList ++ Rows.benchUndoesSpec.plain.varTypes Tryz.prog).any (Tryz.prog.ifacesRec ·))) = true := by kernel_rfl
set_option maxRecDepth 100000 in
theorem benchUndoes_f15 : ((Rows.benchUndoesRow.mapsOut == Tryz.prog.mapsAmong Tryz.f3.resultTypes.toList)) = true := by kernel_rfl
set_option maxRecDepth 100000 in
theorem benchUndoes_f16 : ((Rows.benchUndoesRow.loops == (Tryz.f3.params.toList ++ Rows.benchUndoesSpec.plain.varTypes Tryz.prog).any (Tryz.prog.loopsFrom ·))) = true := by kernel_rfl
set_option maxRecDepth 100000 in
theorem benchUndoes_f17 : ((Rows.benchUndoesRow.wideKeys == (Tryz.f3.params.toList ++ Rows.benchUndoesSpec.plain.varTypes Tryz.prog ++ Tryz.f3.resultTypes.toList).any (Tryz.prog.wideKeysFrom ·))) = true := by kernel_rfl
set_option maxRecDepth 100000 in
theorem benchUndoes_f18 : (Rows.benchUndoesSpec.vars.all (Tryz.prog.varReadable ·)) = true := by kernel_rfl
set_option maxRecDepth 100000 in
theorem benchUndoes_f19 : (Tryz.f3.resultTypes.all (fun t => Tryz.prog.readableRec t && decide (t < Tryz.prog.types.size))) = true := by kernel_rfl
set_option maxRecDepth 100000 in
theorem benchUndoes_f20 : ((Rows.benchUndoesRow.ifacesOut == Tryz.f3.resultTypes.toList.any (Tryz.prog.ifacesRec ·))) = true := by kernel_rfl
set_option maxRecDepth 100000 in
theorem benchUndoes_f21 : ((Rows.benchUndoesRow.loopsOut == Tryz.f3.resultTypes.toList.any (Tryz.prog.loopsFrom ·))) = true := by kernel_rfl
set_option maxRecDepth 100000 in
theorem benchUndoes_f22 : ((Rows.benchUndoesRow.plainKeys == Tryz.prog.plainKeys)) = true := by kernel_rfl
set_option maxRecDepth 100000 in
theorem benchUndoes_f23 : (Rows.benchUndoesRow.shortTexts.isNone) = true := by kernel_rfl
set_option maxRecDepth 100000 in
theorem benchUndoes_f24 : (Tryz.prog.stopsHeard) = true := by kernel_rfl
set_option maxRecDepth 100000 in
theorem benchUndoes_f25 : (Tryz.prog.mayEnter) = true := by kernel_rfl
set_option maxRecDepth 100000 in
theorem benchUndoes_f26 : ((Rows.benchUndoesRow.lifted == Tryz.prog.liftsFinal)) = true := by kernel_rfl
set_option maxRecDepth 100000 in
theorem benchUndoes_f27 : ((Tryz.prog.make == some Rows.benchUndoesRow.make)) = true := by kernel_rfl
set_option maxRecDepth 100000 in
theorem benchUndoes_f28 : ((Rows.benchUndoesRow.kinds == (if Rows.benchUndoesRow.domain.isEmpty then [] else Tryz.f3.params.toList.map fun t => match Tryz.prog.underlying t with | some (.int k) => some k | _ => none))) = true := by kernel_rfl
set_option maxRecDepth 100000 in
theorem benchUndoes_f29 : ((Rows.benchUndoesRow.pinned == Rows.benchUndoesRow.pinnedBy)) = true := by kernel_rfl
set_option maxRecDepth 100000 in
theorem benchUndoes_f30 : ((Rows.benchUndoesRow.veiled == (Tryz.f3.params.toList ++ Rows.benchUndoesSpec.plain.varTypes Tryz.prog ++ Tryz.f3.resultTypes.toList).any (Tryz.prog.veiledRec ·))) = true := by kernel_rfl
set_option maxRecDepth 100000 in
theorem benchUndoes_f31 : (Rows.benchUndoesRow.veiledFits Tryz.prog Tryz.f3.params.toList (Tryz.f3.params.toList ++ Rows.benchUndoesSpec.plain.varTypes Tryz.prog ++ Tryz.f3.resultTypes.toList)) = true := by kernel_rfl
set_option maxRecDepth 100000 in
theorem benchUndoes_facts : joinedFacts Tryz.prog 3 Tryz.f3 Rows.benchUndoesSpec Rows.benchUndoesRow = true := by
  unfold joinedFacts
  exact bandI (bandI (bandI (bandI (bandI (bandI (bandI (bandI (bandI (bandI (bandI (bandI (bandI (bandI (bandI (bandI (bandI (bandI (bandI (bandI (bandI (bandI (bandI (bandI (bandI (bandI (bandI (bandI (bandI (bandI (bandI (benchUndoes_f0) benchUndoes_f1) benchUndoes_f2) benchUndoes_f3) benchUndoes_f4) benchUndoes_f5) benchUndoes_f6) benchUndoes_f7) benchUndoes_f8) benchUndoes_f9) benchUndoes_f10) benchUndoes_f11) benchUndoes_f12) benchUndoes_f13) benchUndoes_f14) benchUndoes_f15) benchUndoes_f16) benchUndoes_f17) benchUndoes_f18) benchUndoes_f19) benchUndoes_f20) benchUndoes_f21) benchUndoes_f22) benchUndoes_f23) benchUndoes_f24) benchUndoes_f25) benchUndoes_f26) benchUndoes_f27) benchUndoes_f28) benchUndoes_f29) benchUndoes_f30) benchUndoes_f31

theorem benchUndoes_named : Tryz.prog.funcNamed "tinker/tinkerlaw09.BenchUndoes" = some 3 := by kernel_rfl
set_option maxRecDepth 100000 in
theorem benchUndoes_row : Rows.BenchUndoesSaid :=
  OpenClaim.holds_of_wide 3 Tryz.f3 rfl rfl rfl rfl rfl rfl rfl ⟨rfl, rfl, rfl, rfl, rfl⟩ rfl rfl rfl rfl rfl benchUndoes_named Tryz.func3 benchUndoes_facts
    (of_decide_eq_true (by kernel_rfl)) (by unfold Func.isWrapper; first | (rw [if_pos (by decide +kernel)]; kernel_rfl) | (rw [if_neg (by decide +kernel)]; exact ⟨rfl, rfl⟩))
    (fun os started H enc _ => benchUndoes_lifted os started H enc)

set_option maxRecDepth 100000 in
theorem benchUndoes_wf : Rows.benchUndoesRow.wfByText (OpenSpec.ofChange Rows.benchUndoesSpec) = true := by kernel_rfl
theorem benchUndoes_main : Tryz.pinned.checked.prog.mainIs = some (Rows.benchUndoesCard.stood.harness.1, Rows.benchUndoesCard.stood.harness.2.toList) := by kernel_rfl
theorem benchUndoes_goes : false = Rows.benchUndoesRow.goesBy Tryz.pinned.checked.prog := by kernel_rfl
theorem benchUndoes_looks : true = Tryz.pinned.checked.prog.looks [] := by kernel_rfl
set_option maxRecDepth 100000 in
theorem benchUndoes_holds : Rows.BenchUndoesCardSaid :=
  Claim7.holds_tied_plain_at .later [] [.data, .data, .data, .data, .handle, .sentinel, .sentinel, .pinned] true Rows.benchUndoesCard.stood.harness true benchUndoes_row (fun _ h => by cases h) benchUndoes_wf (fun _ h => by cases h) benchUndoes_row_tie rfl ⟨rfl, rfl⟩ benchUndoes_main rfl
    (fun f fn hf hfn => by
      obtain rfl : f = 3 := Option.some.inj (benchUndoes_named.symm.trans hf) |>.symm
      obtain rfl : fn = Tryz.f3 := (Option.some.inj (Tryz.func3.symm.trans hfn)).symm
      exact ⟨benchUndoes_looks, fun j t ht => by
        rw [Tryz.params3] at ht
        have hm : t ∈ [22, 23, 9] := by simpa using Array.mem_of_getElem? ht
        have hall : ([22, 23, 9].all fun u => !Tryz.prog.wantsStandIn u) = true := by kernel_rfl
        exact (show Tryz.prog.wantsStandIn t = false by simpa using List.all_eq_true.1 hall t hm)⟩)
    benchUndoes_goes

end Go.Proofs.YtihdpbfhkddpcaaGreatDoor
