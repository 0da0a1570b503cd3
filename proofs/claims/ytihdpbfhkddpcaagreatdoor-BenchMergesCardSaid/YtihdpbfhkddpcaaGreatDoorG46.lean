/-
The walk of the statements' sanity check: the chapter's examples hold.
The walks of the statements' Begin, failed and few, and of the document's New as far as they need it.
The law BenchWrites: the book of orders, and that it is read as these, and any beginning of it as a beginning.
The walk of Replay: a bench is made by a book.
The walk of Audit: it always holds.
The law BenchAudits: the audit always holds.
-/
import Derived.Test.YtihdpbfhkddpcaaGreatDoorG37
import Derived.Test.YtihdpbfhkddpcaaGreatDoorG38
import Derived.Test.YtihdpbfhkddpcaaGreatDoorG45
import Derived.RegionTactic
import Derived.Deep.RegionHeld3
import Derived.Test.YtihdpbfhkddpcaaGreatDoorG01
import Derived.Test.YtihdpbfhkddpcaaGreatDoorG24
import Derived.Test.YtihdpbfhkddpcaaGreatDoorG47
import Derived.Test.YtihdpbfhkddpcaaGreatDoorG48
import Derived.Test.YtihdpbfhkddpcaaGreatDoorG20
namespace Go.Proofs.YtihdpbfhkddpcaaGreatDoor
open Go.RowKit

theorem sn_sum : Bk.sumL 0 (dl Sn.o1) = 821069 := by kernel_rfl
theorem sn_book : bkS [Sn.o1] = [56, 50, 49, 48, 54, 57, 32, 99, 104, 101, 99, 107, 10] := by
  unfold bkS
  show Bk.lineL (Bk.sumL 0 (dl Sn.o1)) (dl Sn.o1) ++ [] = _
  rw [sn_sum]
  unfold Bk.lineL
  simp [Lib.itoa, Lib.decDigits, dl, Sn.o1]
theorem sn_wr : tb (wrS [Sn.o1]) = ⟨#[56, 50, 49, 48, 54, 57, 32, 99, 104, 101, 99, 107, 10]⟩ ∧ wrE [Sn.o1] = 0 := by
  have h : okL [Sn.o1] = true := by decide +kernel
  constructor
  · unfold wrS
    rw [if_neg (by decide), h, if_pos rfl, sn_book]; rfl
  · unfold wrE
    rw [if_neg (by decide), h, if_pos rfl]
theorem lines_lit (w : World) (xs : List Ln) (T : TypeId) (hl : xs.length ≤ 1000) : LinesAt (w.alloc (.cells (xs.flatMap encL).toArray T)) (.slice (some ⟨w.heap.size, 0, none⟩) xs.length xs.length) xs := by
  refine ⟨_, xs.length, rfl, Nat.le_refl _, by omega, .inr ⟨w.heap.size, 0, rfl, by simp, fun j x hj i u hu => ?_⟩⟩
  rw [World.cell?_alloc_new, List.getElem?_toArray, Nat.zero_add]
  have hi : i < 4 := by
    have := (List.getElem?_eq_some_iff.1 hu).1
    rwa [encL_len] at this
  clear hl
  induction xs generalizing j with
  | nil => simp at hj
  | cons y r ih =>
    rw [List.flatMap_cons]
    cases j with
    | zero =>
      simp at hj; subst hj
      rw [Nat.zero_mul, Nat.zero_add, List.getElem?_append_left (by rw [encL_len]; exact hi)]
      exact hu
    | succ j =>
      rw [List.getElem?_append_right (by rw [encL_len]; omega), encL_len, show (j + 1) * 4 + i - 4 = j * 4 + i by omega]
      exact ih j (by simpa using hj)

def snT : Array Value := (Sn.ords.map Value.string).toArray
def snE : Array Value := (Sn.wants.map (Value.int .i64)).toArray
set_option maxRecDepth 100000 in
set_option maxHeartbeats 8000000 in
theorem sane_any (w : World) (hg : Glob w) (R : Ending → World → Prop) (hR : ∀ w', Grow w w' → R (.returned (.bool true)) w') :
    Calls Tryz.prog 10 #[] w R := by
  have HR := Lib.hid hR
  have HG := Lib.hid hg
  have hsz := hg.size
  clear hR hg
  go_enter Tryz.func10, Tryz.ntmps10
  go_wp2_with fail
  refine New_any Sn.p0 _ _ (lines_lit w Sn.p0 58 (by decide)) (by decide) _ ?_ ?_
  · intro hne; exact absurd Sn.val0 hne
  · intro _ w1 B hg1 hB hbn
    rw [World.size_alloc] at hB
    have hgw1 : Grow w w1 := ((Grow.refl w).alloc _).trans hg1
    have hBl := hbn.hid.bd B (by simp)
    have HG1 := Lib.hid hgw1
    have HBN := Lib.hid hbn
    clear hg1 hbn hgw1
    go_upto_region 6 with fail
    change Code.wp _ _ _ _ ((w1.alloc (.cells snT 9)).alloc (.cells snE 33))
    have hg13 : Grow w1 ((w1.alloc (.cells snT 9)).alloc (.cells snE 33)) := ((Grow.refl w1).alloc _).alloc _
    have hT : ((w1.alloc (.cells snT 9)).alloc (.cells snE 33)).heap[w1.heap.size]? = some (.cells snT 9 (0, 0)) := ((Grow.refl _).alloc _).blk (heap_alloc_new w1 (.cells snT 9))
    have hE : ((w1.alloc (.cells snT 9)).alloc (.cells snE 33)).heap[w1.heap.size + 1]? = some (.cells snE 33 (0, 0)) := by
      have := heap_alloc_new (w1.alloc (.cells snT 9)) (.cells snE 33)
      rw [World.size_alloc] at this
      exact this
    obtain ⟨w3, hw3⟩ : ∃ z : World, z = (w1.alloc (.cells snT 9)).alloc (.cells snE 33) := ⟨_, rfl⟩
    rw [← hw3] at hg13 hT hE ⊢
    obtain ⟨nT, hnT⟩ : ∃ z, w1.heap.size = z := ⟨_, rfl⟩
    obtain ⟨nE, hnE⟩ : ∃ z, w1.heap.size + 1 = z := ⟨_, rfl⟩
    rw [hnE] at hE ⊢
    rw [hnT] at hT ⊢
    have HB3 := Lib.hid (HBN.out.grow hg13)
    have HG3 := Lib.hid (HG1.out.trans hg13)
    have HT := Lib.hid hT
    have HE := Lib.hid hE
    have hTB : nT ≠ B := by omega
    have hEB : nE ≠ B := by omega
    have hB4 : 4 < B := by omega
    have hwB : w.heap.size ≤ B := by omega
    clear hw3 hg13 hT hE hnT hnE hBl HBN HG1
    go_wp2_with fail
    go_loopw [5] (fun s5 wr => ∃ k : Nat, k ≤ 7 ∧ s5 = .int .i64 k ∧ Chg B w3 wr ∧ BnAt (fun k => k == B) B wr (Sn.stN k)) (fun s5 _ => 7 - (intOf s5).toNat)
    case atStart => exact ⟨0, by decide, rfl, chg_refl B w3, HB3.out⟩
    case round =>
      obtain ⟨k, hk, rfl, hc, hbn⟩ := hrel
      have HC := Lib.hid hc
      have HBN := Lib.hid hbn
      clear hc hbn
      by_cases hlt : k < 7
      · have hltz : (k : Int) < 7 := by omega
        obtain ⟨t, ht⟩ : ∃ t, Sn.ords[k]? = some t := ⟨_, List.getElem?_eq_getElem (by show k < 7; omega)⟩
        obtain ⟨e, he⟩ : ∃ e, Sn.wants[k]? = some e := ⟨_, List.getElem?_eq_getElem (by show k < 7; omega)⟩
        have hts : t.size < 4294967281 := by
          have : ∀ u ∈ Sn.ords, u.size < 4294967281 := by decide +kernel
          exact this t (List.mem_of_getElem? ht)
        have HDO := Lib.hid (Sn.do_at k t e ht he)
        have HTK := Lib.hid (show snT[k]? = some (Value.string t) by unfold snT; rw [List.getElem?_toArray, List.getElem?_map, ht]; rfl)
        have HEK := Lib.hid (show snE[k]? = some (Value.int .i64 e) by unfold snE; rw [List.getElem?_toArray, List.getElem?_map, he]; rfl)
        have HOK := Lib.hid (Sn.okN k hk)
        clear ht he
        go_wp2_with fail
        refine wp_region_held_drew (S := fun X => Chg B w3 X) (by kernel_rfl) (HC.out.trans (Chg.of_grow (Grow.refl wr).drew)) (fun hH => ?_)
        refine wpAnyH_take (i := 0) (v := .pointer (some ⟨B, 0, none⟩)) rfl (by kernel_rfl) (by kernel_rfl) (by kernel_rfl) (fun _ _ _ h => h) (Or.inl ⟨by rfl, ?_⟩) hH ?_
        · intro w9 hw9
          go_simp
        try simp only [List.getElem_toArray, List.getElem_cons_zero, Act.put, List.setIfInBounds_toArray, List.set_cons_zero, List.set_cons_succ]
        refine wpAnyH_take (i := 1) (v := .slice (some ⟨nT, 0, none⟩) 7 7) rfl (by kernel_rfl) (by kernel_rfl) (by kernel_rfl) (fun _ _ _ h => h) (Or.inl ⟨by rfl, ?_⟩) hH ?_
        · intro w9 hw9
          go_simp
        try simp only [List.getElem_toArray, List.getElem_cons_succ, List.getElem_cons_zero, Act.put, List.setIfInBounds_toArray, List.set_cons_zero, List.set_cons_succ]
        refine wpAnyH_take (i := 2) (v := .int .i64 k) rfl (by kernel_rfl) (by kernel_rfl) (by kernel_rfl) (fun _ _ _ h => h) (Or.inl ⟨by rfl, ?_⟩) hH ?_
        · intro w9 hw9
          go_simp
        try simp only [List.getElem_toArray, List.getElem_cons_succ, List.getElem_cons_zero, Act.put, List.setIfInBounds_toArray, List.set_cons_zero, List.set_cons_succ]
        refine wpAnyH_take (i := 3) (v := .pointer (some ⟨nT, k, none⟩)) rfl (by kernel_rfl) (by kernel_rfl) (by kernel_rfl) (fun _ _ _ h => h) (Or.inl ⟨by rfl, ?_⟩) hH ?_
        · intro w9 hw9
          go_simp
        try simp only [List.getElem_toArray, List.getElem_cons_succ, List.getElem_cons_zero, Act.put, List.setIfInBounds_toArray, List.set_cons_zero, List.set_cons_succ]
        refine wpAnyH_take (i := 4) (v := .string t) rfl (by kernel_rfl) (by kernel_rfl) (by kernel_rfl) (fun _ _ _ h => h) (Or.inl ⟨by rfl, ?_⟩) hH ?_
        · intro w9 hw9
          have y9 := cellOf (Chg.blk hw9 hTB HT.out) k HTK.out
          go_simp
        try simp only [List.getElem_toArray, List.getElem_cons_succ, List.getElem_cons_zero, Act.put, List.setIfInBounds_toArray, List.set_cons_zero, List.set_cons_succ]
        refine wpAnyH_take (i := 6) (v := .slice (some ⟨nE, 0, none⟩) 7 7) rfl (by kernel_rfl) (by kernel_rfl) (by kernel_rfl) (fun _ _ _ h => h) (Or.inl ⟨by rfl, ?_⟩) hH ?_
        · intro w9 hw9
          go_simp
        try simp only [List.getElem_toArray, List.getElem_cons_succ, List.getElem_cons_zero, Act.put, List.setIfInBounds_toArray, List.set_cons_zero, List.set_cons_succ]
        refine wpAnyH_take (i := 7) (v := .int .i64 k) rfl (by kernel_rfl) (by kernel_rfl) (by kernel_rfl) (fun _ _ _ h => h) (Or.inl ⟨by rfl, ?_⟩) hH ?_
        · intro w9 hw9
          go_simp
        try simp only [List.getElem_toArray, List.getElem_cons_succ, List.getElem_cons_zero, Act.put, List.setIfInBounds_toArray, List.set_cons_zero, List.set_cons_succ]
        refine wpAnyH_take (i := 8) (v := .pointer (some ⟨nE, k, none⟩)) rfl (by kernel_rfl) (by kernel_rfl) (by kernel_rfl) (fun _ _ _ h => h) (Or.inl ⟨by rfl, ?_⟩) hH ?_
        · intro w9 hw9
          go_simp
        try simp only [List.getElem_toArray, List.getElem_cons_succ, List.getElem_cons_zero, Act.put, List.setIfInBounds_toArray, List.set_cons_zero, List.set_cons_succ]
        refine wpAnyH_take (i := 9) (v := .int .i64 e) rfl (by kernel_rfl) (by kernel_rfl) (by kernel_rfl) (fun _ _ _ h => h) (Or.inl ⟨by rfl, ?_⟩) hH ?_
        · intro w9 hw9
          have y9 := cellOf (Chg.blk hw9 hEB HE.out) k HEK.out
          go_simp
        try simp only [List.getElem_toArray, List.getElem_cons_succ, List.getElem_cons_zero, Act.put, List.setIfInBounds_toArray, List.set_cons_zero, List.set_cons_succ]
        refine wpAnyH_ready (rs := [5]) (by kernel_rfl) (by simp) ?_
        refine AllReadyH.cons rfl (fun K hK => ?_) AllReadyH.nil
        go_simp
        refine bDo_any (fun k => k == B) B t hts (Sn.stN k) _ ((HG.out.grow HG3.out).chg hH hB4) (HBN.out.grow (Grow.refl wr).drew) HOK.out hB4 _ ?_
        intro w5 hc5 hb5
        rw [HDO.out] at hb5 ⊢
        dsimp only at hb5 ⊢
        go_wp2_with fail
        have HB5 := Lib.hid hb5
        refine hK.out _ _ (hH.trans hc5) (fun hH2 => ?_)
        clear hK K hH
        have hH := hH2
        clear hH2
        try simp only [List.getElem_toArray, List.getElem_cons_succ, List.getElem_cons_zero, Act.put, List.setIfInBounds_toArray, List.set_cons_zero, List.set_cons_succ]
        clear hb5 hc5
        refine wpAnyH_take (i := 10) (v := .bool false) rfl (by kernel_rfl) (by kernel_rfl) (by kernel_rfl) (fun _ _ _ h => h) (Or.inl ⟨by rfl, ?_⟩) hH ?_
        · intro w9 hw9
          go_simp
        try simp only [List.getElem_toArray, List.getElem_cons_succ, List.getElem_cons_zero, Act.put, List.setIfInBounds_toArray, List.set_cons_zero, List.set_cons_succ]
        refine wpAnyH_done (by kernel_rfl) ?_ _
        have HC5 := Lib.hid hH
        clear hH
        go_wp2_with fail
        go_roundw
        case rel => exact ⟨k + 1, by omega, by go_num, HC5.out, HB5.out⟩
        case measure => simp [intOf]; omega
      · obtain rfl : k = 7 := by omega
        have HGW := Lib.hid (chg_grow HG3.out HC.out hwB)
        go_wp2_with fail
        refine Program_any (fun k => k == B) B (Sn.stN 7) _ HBN.out (Sn.okN 7 (by decide)) _ ?_
        intro w5 pv base hg5 hbs hpo
        rw [Sn.prog7] at hpo
        have hpl := slc_of_owns (xs := Sn.p1) encL_len hpo
        obtain ⟨pa, pc, rfl, p1, p2, jk⟩ := hpl
        have HPL := Lib.hid (slc_of_owns (xs := Sn.p1) encL_len hpo)
        have HG5 := Lib.hid (HGW.out.trans hg5)
        rw [show Sn.p1.length = 2 from rfl] at p1 HPL ⊢
        clear hg5 hpo jk
        go_wp2_with fail
        refine Write_any [Sn.o1] _ _ (HG.out.grow (HG5.out.alloc _)) (texts_lit w5 [Sn.o1] 9 (by decide)) (by decide +kernel) _ ?_
        intro w6 hg6
        rw [sn_wr.1, sn_wr.2]
        obtain ⟨b, o, rfl, hb, y0, y1, y2, y3⟩ := lines_at (HPL.out.grow (((Grow.refl w5).alloc (.cells (([Sn.o1] : List ByteArray).map Value.string).toArray 9)).trans hg6)) (k := 0) (op := 1) (d := 0) (x := 4) (y := 0) rfl
        rw [show o + 0 * 4 = o by omega] at y0 y1 y2 y3
        have HF := Lib.hid (HR.out w6 ((HG5.out.alloc _).trans hg6))
        clear hg6
        go_wp2_with fail
        exact HF.out
end Go.Proofs.YtihdpbfhkddpcaaGreatDoor

namespace Go.Proofs.YtihdpbfhkddpcaaGreatDoor
open Go.RowKit

set_option maxRecDepth 100000 in
set_option maxHeartbeats 4000000 in
theorem rNew0_any (p : List Ln) (v : Value) (w : World) (hp : LinesAt w v p) (hn : p.length < 10000000000) (R : Ending → World → Prop)
    (hno : valP p ≠ 0 → ∀ w', Grow w w' → R (.returned (.tuple #[.pointer none, .int .i64 (valP p)])) w')
    (hok : valP p = 0 → ∀ w' a, Grow w w' → R (.returned (.tuple #[.pointer (some a), .int .i64 0])) w') :
    Calls Tryz.prog 30 #[v] w R := by
  have HNO := Lib.hid hno
  have HOK := Lib.hid hok
  have HP := Lib.hid hp
  clear hno hok hp
  go_enter Tryz.func30, Tryz.ntmps30
  go_wp2_with fail
  refine rValidate_any p v _ HP.out _ ?_
  intro w1 hg1
  have HG1 := Lib.hid hg1
  clear hg1
  by_cases h0 : valP p = 0
  rotate_left
  · have HF := Lib.hid (HNO.out h0 w1 HG1.out)
    have hz : (valP p != 0) = true := by simpa using h0
    obtain ⟨e, he⟩ : ∃ e, valP p = e := ⟨_, rfl⟩
    rw [he] at HF hz h0 ⊢
    clear he
    go_wp2_with fail
    exact HF.out
  have HF := Lib.hid (HOK.out h0)
  rw [h0]
  go_wp2_with (at_builtin; refine Classical.byContradiction (fun hcon => ?_))
  refine hcon ?_
  clear hcon
  refine wpList_appAll _ rfl (.tmp 10) (.tmp 11) 22 rfl w1.heap.size 58 Tryz.underlying22 b_info_ln rfl (by decide) (by decide) encL encL_len encL_one _ [] rfl (ownsRow_empty w1 4 _ _ _ (Nat.le_refl _)) _ p rfl (HP.out.grow (HG1.out.alloc _)) (by simp; omega) (by simp) ?_
  intro v2 w2 hown2 hgr2
  have hg2 : Grow w1 w2 := grown_below (ownsRow_empty (α := Ln) w1 4 58 encL _ (Nat.le_refl _)) hgr2 (Nat.le_refl _) (by simp) ((Grow.refl w1).alloc _)
  have HG2 := Lib.hid (HG1.out.trans hg2)
  obtain ⟨a, c, rfl, q1, q2, jk⟩ := slc_of_owns encL_len (xs := p) (by simpa using hown2)
  have HFF := Lib.hid (fun o1 o2 a => HF.out ((w2.alloc o1).alloc o2) a ((HG2.out.alloc o1).alloc o2))
  clear hown2 hgr2 hg2 jk
  go_wp2_with fail
  exact HFF.out _ _ _

set_option maxRecDepth 100000 in
set_option maxHeartbeats 4000000 in
theorem Begin_any (p : List Ln) (v : Value) (w : World) (hp : LinesAt w v p) (hn : p.length < 10000000000) (R : Ending → World → Prop)
    (hno : valP p ≠ 0 → ∀ w', Grow w w' → R (.returned (.tuple #[.pointer none, .pointer none, .bool false])) w')
    (hok : valP p = 0 → ∀ w' B a, Grow w w' → w.heap.size ≤ B → BnAt (fun k => k == B) B w' (newB p) → R (.returned (.tuple #[.pointer (some ⟨B, 0, none⟩), .pointer (some a), .bool true])) w') :
    Calls Tryz.prog 11 #[v] w R := by
  have HNO := Lib.hid hno
  have HOK := Lib.hid hok
  have HP := Lib.hid hp
  clear hno hok hp
  go_enter Tryz.func11, Tryz.ntmps11
  go_wp2_with fail
  refine New_any p v _ HP.out hn _ ?_ ?_
  · intro h0 w1 hg1
    have HG1 := Lib.hid hg1
    have hz : (valP p == 0) = false := by simpa using h0
    have H0 := Lib.hid h0
    clear hg1 h0
    obtain ⟨e, he⟩ : ∃ e, valP p = e := ⟨_, rfl⟩
    have HE := Lib.hid he
    rw [he] at hz ⊢
    clear he
    go_wp2_with fail
    refine rNew0_any p v _ (HP.out.grow HG1.out) hn _ ?_ ?_
    · intro _ w2 hg2
      have HF := Lib.hid (HNO.out H0.out w2 (HG1.out.trans hg2))
      rw [HE.out]
      clear hg2
      go_wp2_with fail
      first | exact HF.out | exact bodyPost_ret (by simp [results, Tryz.results11, go_sem]) rfl HF.out
    · intro h; exact absurd h H0.out
  · intro h0 w1 B hg1 hB hb
    have HG1 := Lib.hid hg1
    have HB := Lib.hid hb
    clear hg1 hb
    go_wp2_with fail
    refine rNew0_any p v _ (HP.out.grow HG1.out) hn _ ?_ ?_
    · intro h; exact absurd h0 h
    · intro _ w2 a hg2
      have HF := Lib.hid (HOK.out h0 w2 B a (HG1.out.trans hg2) hB (HB.out.grow hg2))
      clear hg2
      go_wp2_with fail
      first | exact HF.out | exact bodyPost_ret (by simp [results, Tryz.results11, go_sem]) rfl HF.out

set_option maxRecDepth 100000 in
set_option maxHeartbeats 4000000 in
theorem failed9_any (p : List Ln) (v : Value) (w : World) (hg : Glob w) (hp : LinesAt w v p) (hn : p.length < 10000000000) (h0 : valP p ≠ 0) (R : Ending → World → Prop) (hR : ∀ w', Grow w w' → R (.returned (.bool true)) w') :
    Calls Tryz.prog 12 #[v] w R := by
  have HR := Lib.hid hR
  have HP := Lib.hid hp
  have HG := Lib.hid hg
  have H0 := Lib.hid h0
  have hz : (valP p != 0) = true := by simpa using h0
  obtain ⟨e, he⟩ : ∃ e, valP p = e := ⟨_, rfl⟩
  have HE := Lib.hid he
  rw [he] at hz
  clear hR hp hg h0 he
  go_enter Tryz.func12, Tryz.ntmps12
  go_wp2_with fail
  refine New_any p v _ HP.out hn _ ?_ ?_
  rotate_left
  · intro h; exact absurd h H0.out
  intro _ w1 hg1
  have HG1 := Lib.hid hg1
  rw [HE.out]
  clear hg1
  go_wp2_with fail
  refine rNew0_any p v _ (HP.out.grow HG1.out) hn _ ?_ ?_
  rotate_left
  · intro h; exact absurd h H0.out
  intro _ w2 hg2
  have HG2 := Lib.hid (HG1.out.trans hg2)
  rw [HE.out]
  clear hg2
  go_wp2_with fail
  refine sane_any _ (HG.out.grow HG2.out) _ ?_
  intro w3 hg3
  have HF := Lib.hid (HR.out w3 (HG2.out.trans hg3))
  clear hg3
  go_wp2_with fail
  exact HF.out

set_option maxRecDepth 100000 in
set_option maxHeartbeats 4000000 in
theorem few_any (l : List ByteArray) (v : Value) (w : World) (hl : TextsAt w v l) (R : Ending → World → Prop)
    (hR : ∀ w' v', Grow w w' → TextsAt w' v' (l.take 24) → (v' = v ∨ NewS w.heap.size v') → R (.returned v') w') :
    Calls Tryz.prog 13 #[v] w R := by
  have HR := Lib.hid hR
  have HL := Lib.hid hl
  obtain ⟨va, vc, rfl, v1, v2, jk⟩ := hl
  clear hR jk
  go_enter Tryz.func13, Tryz.ntmps13
  by_cases h24 : 24 < l.length
  · have hz : decide ((l.length : Int) > 24) = true := by rw [decide_eq_true_eq]; omega
    obtain ⟨t, ht⟩ : ∃ t, l[0]? = some t := ⟨_, List.getElem?_eq_getElem (by omega)⟩
    obtain ⟨b, o, rfl, _, _⟩ := texts_at HL.out ht
    have h24c : (24 : Nat) ≤ vc := by omega
    clear ht
    go_wp2_with (at_builtin; refine Classical.byContradiction (fun hcon => ?_))
    refine hcon ?_
    clear hcon
    refine wpList_appAll _ rfl (.tmp 6) (.tmp 8) 23 rfl w.heap.size 9 Tryz.underlying23 b_info_str rfl (by decide) (by decide) encTx encTx_len encTx_one _ [] rfl (ownsRow_empty w 1 _ _ _ (Nat.le_refl _)) _ (l.take 24) rfl ((HL.out.take (m := 24) (by omega)).grow ((Grow.refl w).alloc _)) (by simp; omega) (by simp) ?_
    intro v2 w2 hown2 hgr2
    have hg2 : Grow w w2 := grown_below (ownsRow_empty (α := ByteArray) w 1 9 encTx _ (Nat.le_refl _)) hgr2 (Nat.le_refl _) (by simp) ((Grow.refl w).alloc _)
    have HF := Lib.hid (HR.out w2 v2 hg2 (slc_of_owns encTx_len (by simpa using hown2)) (.inr (NewS.of_own (show Own 1 encTx _ w2 v2 (l.take 24) from ⟨_, by simpa using hown2⟩))))
    clear hown2 hgr2 hg2
    go_wp2_with fail
    exact HF.out
  · have hz : decide ((l.length : Int) > 24) = false := by rw [decide_eq_false_iff_not]; omega
    have HF := Lib.hid (HR.out w _ (Grow.refl w) (by rw [List.take_of_length_le (by omega)]; exact HL.out) (.inl rfl))
    go_wp2_with fail
    exact HF.out

theorem long49_any (p : List Ln) (v : Value) (w : World) (hp : LinesAt w v p) (R : Ending → World → Prop) (hR : R (.returned (.bool (decide (100 < p.length)))) w) :
    Calls Tryz.prog 8 #[v, .slice none 0 0] w R := by
  obtain ⟨a, c, rfl, h1, h2, _⟩ := hp
  by_cases h : 100 < p.length
  · rw [decide_eq_true h] at hR
    have t1 : (p.length : Int) > 100 := by omega
    go_enter Tryz.func8, Tryz.ntmps8
    go_wp2
    simpa using hR
  · rw [decide_eq_false h] at hR
    have t1 : ¬ (p.length : Int) > 100 := by omega
    go_enter Tryz.func8, Tryz.ntmps8
    go_wp2
    simpa using hR
end Go.Proofs.YtihdpbfhkddpcaaGreatDoor

namespace Go.Proofs.YtihdpbfhkddpcaaGreatDoor
open Go.RowKit

theorem SlcAt.take3 {α : Type} {k : Nat} {enc : α → List Value} {w : World} {a : Option Addr} {n c : Nat} {xs : List α} (h : SlcAt k enc w (.slice a n c) xs) {m : Nat} (hm : m ≤ xs.length) : SlcAt k enc w (.slice a m m) (xs.take m) := by
  obtain ⟨a', c', e, h2, h3, h4⟩ := h
  cases e
  have hl : (xs.take m).length = m := by rw [List.length_take]; omega
  refine ⟨a, m, by rw [hl], by rw [hl]; exact Nat.le_refl _, by omega, ?_⟩
  rcases h4 with ⟨h4, h5⟩ | ⟨b, o, e, hb, hc⟩
  · refine .inl ⟨by rw [h4]; simp, fun e => ?_⟩
    have := h5 e
    have h6 : xs.length = 0 := by rw [h4]; rfl
    omega
  · refine .inr ⟨b, o, e, hb, fun j x hx i u hu => ?_⟩
    rw [List.getElem?_take] at hx
    split at hx
    · exact hc j x hx i u hu
    · cases hx
theorem map_tb_dl (l : List ByteArray) : (l.map dl).map tb = l := by
  rw [List.map_map]
  have : (tb ∘ dl) = id := by funext t; exact tb_of t
  rw [this, List.map_id]
theorem book_read {l : List ByteArray} (hok : okL l = true) (hl : l.length ≤ 80) : Bk.readL 80 0 (tb (bkS l)).data.toList = (l.map dl, []) := by
  rw [tb_data]
  refine Bk.readL_book (l.map dl) 80 0 ?_ (by rw [List.length_map]; exact hl)
  intro t ht
  obtain ⟨u, hu, rfl⟩ := List.mem_map.1 ht
  exact List.all_eq_true.1 hok u hu
theorem book_some {l : List ByteArray} (hok : okL l = true) (hl : l.length ≤ 80) {m : Nat} (hm : m ≤ (bkS l).length) : ∃ k, k ≤ l.length ∧ (Bk.readL 80 0 (tb ((bkS l).take m)).data.toList).1 = (l.take k).map dl ∧ ((Bk.readL 80 0 (tb ((bkS l).take m)).data.toList).2 = [] ∨ k < l.length) := by
  rw [tb_data]
  obtain ⟨k, h1, h2, h3, _, _⟩ := Bk.readL_take (l.map dl) 80 0 m (fun t ht => by
    obtain ⟨u, hu, rfl⟩ := List.mem_map.1 ht
    exact List.all_eq_true.1 hok u hu) (by rw [List.length_map]; exact hl) hm
  rw [List.length_map] at h1 h3
  exact ⟨k, h1, by rw [List.map_take]; exact h2, h3⟩
theorem keep_bd (n : Int) (L : Nat) (hL : L ≤ 1000000000) : ∃ m : Nat, wrap64 ((IntKind.u64.wrap n).tmod ((L : Int) + 1)) = (m : Int) ∧ m ≤ L := by
  have hu : 0 ≤ IntKind.u64.wrap n := by
    unfold IntKind.wrap
    simp [IntKind.signed, IntKind.bits]
    omega
  have h1 := Int.tmod_nonneg ((L : Int) + 1) hu
  have h2 := Int.tmod_lt_of_pos (IntKind.u64.wrap n) (show (0 : Int) < (L : Int) + 1 by omega)
  refine ⟨((IntKind.u64.wrap n).tmod ((L : Int) + 1)).toNat, ?_, by omega⟩
  rw [IntWalk.wrap64_in _ (by omega)]
  omega
set_option maxRecDepth 100000 in
set_option maxHeartbeats 8000000 in
theorem benchWrites_any (l : List ByteArray) (n : Int) (w : World) (v : Value) (hg : Glob w) (hl : TextsAt w v l) (R : Ending → World → Prop) (hR : ∀ w', Grow w w' → R (.returned (.bool true)) w') :
    Calls Tryz.prog 5 #[v, .int .i64 n] w R := by
  have HR := Lib.hid hR
  have HG := Lib.hid hg
  have HL := Lib.hid hl
  obtain ⟨va, vc, rfl, v1, v2, jk⟩ := hl
  clear hR hg jk
  go_enter Tryz.func5, Tryz.ntmps5
  go_wp2_with fail
  refine Long9_any l _ _ HL.out _ ?_
  intro w1 hg1
  have HG1 := Lib.hid hg1
  clear hg1
  cases hlg : lngT l with
  | true =>
    go_wp2_with fail
    refine sane_any _ (HG.out.grow HG1.out) _ ?_
    intro w2 hg2
    have HF := Lib.hid (HR.out w2 (HG1.out.trans hg2))
    clear hg2
    go_wp2_with fail
    exact HF.out
  | false =>
    obtain ⟨hsz, hlen⟩ := lngT_no hlg
    have hsz' : ∀ t ∈ l, t.size ≤ 1000000 := fun t ht => by have := hsz t ht; omega
    have HSZ := Lib.hid hsz'
    clear hlg hsz hsz'
    go_wp2_with fail
    refine Write_any l _ _ (HG.out.grow HG1.out) (HL.out.grow HG1.out) HSZ.out _ ?_
    intro w2 hg2
    have HG2 := Lib.hid (HG1.out.trans hg2)
    obtain ⟨A, hA⟩ : ∃ A, wrS l = A := ⟨_, rfl⟩
    obtain ⟨e, he⟩ : ∃ e, wrE l = e := ⟨_, rfl⟩
    rw [hA, he]
    have HA := Lib.hid hA
    have HE := Lib.hid he
    clear hg2 hA he
    go_wp2_with fail
    refine rWrite_any l _ _ (HG.out.grow HG2.out) (HL.out.grow HG2.out) HSZ.out _ ?_
    intro w3 hg3
    have HG3 := Lib.hid (HG2.out.trans hg3)
    rw [HA.out, HE.out]
    clear hg3
    by_cases h0 : e = 0
    rotate_left
    · have h0z : (e != 0) = true := by simpa using h0
      go_wp2_with fail
      refine sane_any _ (HG.out.grow HG3.out) _ ?_
      intro w4 hg4
      have HF := Lib.hid (HR.out w4 (HG3.out.trans hg4))
      clear hg4
      go_wp2_with fail
      exact HF.out
    subst h0
    have h80 : ¬ 80 < l.length := fun h => by have h1 := HE.out; unfold wrE at h1; rw [if_pos h] at h1; cases h1
    have hok : okL l = true := by
      have h1 := HE.out
      unfold wrE at h1
      rw [if_neg h80] at h1
      cases hk : okL l with
      | true => rfl
      | false => rw [hk] at h1; cases h1
    have hAS : A = bkS l := by rw [← HA.out]; unfold wrS; rw [if_neg h80, hok, if_pos rfl]
    subst hAS
    have hbl : (bkS l).length ≤ 300006900 := by
      have h1 := book_len l HSZ.out l.length (Nat.le_refl _)
      rw [List.take_length] at h1
      omega
    have HOK := Lib.hid hok
    have htbs := tb_size (bkS l)
    obtain ⟨A, hA⟩ : ∃ A, bkS l = A := ⟨_, rfl⟩
    have HAS := Lib.hid hA
    rw [hA] at hbl htbs ⊢
    clear hA hok HA HE
    go_wp2_with fail
    refine Read_any (tb A) (by omega) _ (HG.out.grow HG3.out) _ ?_
    intro w4 v4 hg4 ho4
    rw [← HAS.out, book_read HOK.out (by omega)] at ho4 ⊢
    dsimp only at ho4 ⊢
    rw [map_tb_dl] at ho4
    rw [HAS.out]
    have HT4 := Lib.hid (slc_of_owns encTx_len ho4)
    have HG4 := Lib.hid (HG3.out.trans hg4)
    have htn := tb_nil
    clear hg4 ho4
    go_wp2_with fail
    refine rSameTexts_any l l v4 _ _ HT4.out (HL.out.grow HG4.out) _ ?_
    intro w5 hg5
    rw [decide_eq_true rfl]
    have HG5 := Lib.hid (HG4.out.trans hg5)
    clear hg5
    obtain ⟨m, hm, hml⟩ := keep_bd n A.length (by omega)
    have hmz : ¬ (m : Int) < 0 := by omega
    have hmA : m ≤ (tb A).size := by omega
    have hex := tb_extract A 0 m
    rw [List.drop_zero] at hex
    have HEX := Lib.hid hex
    clear hex
    go_wp2_with fail
    rw [HEX.out]
    obtain ⟨k, hk, hk1, hk2⟩ := book_some (l := l) HOK.out (by omega) (m := m) (by rw [HAS.out]; exact hml)
    rw [HAS.out] at hk1 hk2
    refine Read_any (tb (A.take m)) (by rw [tb_size, List.length_take]; omega) _ (HG.out.grow HG5.out) _ ?_
    intro w6 v6 hg6 ho6
    obtain ⟨P, hP⟩ : ∃ P, Bk.readL 80 0 (tb (A.take m)).data.toList = P := ⟨_, rfl⟩
    rw [hP] at hk1 hk2 ho6 ⊢
    clear hP
    obtain ⟨p, r⟩ := P
    dsimp only at hk1 hk2 ho6 ⊢
    subst hk1
    rw [map_tb_dl] at ho6
    have hkl : (l.take k).length = k := by rw [List.length_take]; omega
    have HT6 := Lib.hid (slc_of_owns encTx_len ho6)
    obtain ⟨ka, kc, rfl, k1, k2, jk6⟩ := slc_of_owns encTx_len ho6
    rw [hkl] at HT6 k1 ⊢
    have HG6 := Lib.hid (HG5.out.trans hg6)
    have HT3 := Lib.hid ((HL.out.grow HG6.out).take3 hk)
    have hkz : (k : Int) ≤ (l.length : Int) := by omega
    have hvk : k ≤ vc := by omega
    clear ho6 hg6 jk6 hkl hm hml
    obtain ⟨mv, hmv⟩ : ∃ q, wrap64 ((IntKind.u64.wrap n).tmod ((A.length : Int) + 1)) = q := ⟨_, rfl⟩
    rw [hmv]
    clear hmv
    have hva : (∃ ad, va = some ad) ∨ (va = none ∧ l = [] ∧ vc = 0) := by
      obtain ⟨a', c', e, _, _, h4⟩ := HL.out
      cases e
      rcases h4 with ⟨h4, h5⟩ | ⟨b, o, e, _, _⟩
      · cases va with
        | none => exact .inr ⟨rfl, h4, h5 rfl⟩
        | some ad => exact .inl ⟨ad, rfl⟩
      · exact .inl ⟨_, e⟩
    rcases hva with ⟨ad, rfl⟩ | ⟨rfl, rfl, rfl⟩
    · go_wp2_with fail
      refine rSameTexts_any (l.take k) (l.take k) _ _ _ HT6.out HT3.out _ ?_
      intro w7 hg7
      rw [decide_eq_true rfl]
      have HG7 := Lib.hid (HG6.out.trans hg7)
      clear hg7
      by_cases hr : r = []
      · subst hr
        go_wp2_with fail
        refine sane_any _ (HG.out.grow HG7.out) _ ?_
        intro w8 hg8
        have HF := Lib.hid (HR.out w8 (HG7.out.trans hg8))
        clear hg8
        go_wp2_with fail
        exact HF.out
      · have hrb := tb_nel hr
        have hrc : ((tb r).toList == []) = false := beq_eq_false_iff_ne.2 hrb
        have hkl : (k : Int) < (l.length : Int) := by have := hk2.resolve_left hr; omega
        go_wp2_with fail
        refine sane_any _ (HG.out.grow HG7.out) _ ?_
        intro w8 hg8
        have HF := Lib.hid (HR.out w8 (HG7.out.trans hg8))
        clear hg8
        go_wp2_with fail
        exact HF.out
    · obtain rfl : k = 0 := by simpa using hk
      obtain rfl : r = [] := hk2.resolve_right (by simp)
      go_wp2_with fail
      refine rSameTexts_any [] [] _ _ _ HT6.out (SlcAt.nil _ _ _) _ ?_
      intro w7 hg7
      rw [decide_eq_true rfl]
      have HG7 := Lib.hid (HG6.out.trans hg7)
      clear hg7
      go_wp2_with fail
      refine sane_any _ (HG.out.grow HG7.out) _ ?_
      intro w8 hg8
      have HF := Lib.hid (HR.out w8 (HG7.out.trans hg8))
      clear hg8
      go_wp2_with fail
      exact HF.out
end Go.Proofs.YtihdpbfhkddpcaaGreatDoor

namespace Go.Proofs.YtihdpbfhkddpcaaGreatDoor
open Go.RowKit

/-! ### Plainly -/
noncomputable def stopB (s : Bn) : List ByteArray → Option (Nat × Int)
  | [] => none
  | t :: r => if (doB s t).1 ≠ 0 then some (0, (doB s t).1) else (stopB (doB s t).2 r).map fun q => (q.1 + 1, q.2)
noncomputable def ordB (t : ByteArray) : List ByteArray := (Bk.readL 80 0 t.data.toList).1.map tb
noncomputable def repB (p : List Ln) (t : ByteArray) : Option Bn × Int × Int :=
  if valP p ≠ 0 then (none, 0, valP p)
  else if (Bk.readL 80 0 t.data.toList).2 ≠ [] then (none, 0, 10)
  else match stopB (newB p) (ordB t) with
    | some q => (none, (q.1 : Nat), q.2)
    | none => (some (dosB (newB p) (ordB t)), ((ordB t).length : Nat), 0)
theorem stop_hit : ∀ {l : List ByteArray} {s : Bn} {k : Nat} {t : ByteArray}, stopB s (l.take k) = none → l[k]? = some t → (doB (dosB s (l.take k)) t).1 ≠ 0 → stopB s l = some (k, (doB (dosB s (l.take k)) t).1)
  | [], _, _, _, _, h, _ => by simp at h
  | a :: l, s, 0, t, _, h, hne => by
    simp at h; subst h
    have hne' : (doB s a).1 ≠ 0 := hne
    unfold stopB
    rw [if_pos hne']
    rfl
  | a :: l, s, k + 1, t, h1, h2, h3 => by
    rw [List.take_succ_cons] at h1 h3 ⊢
    unfold stopB at h1 ⊢
    by_cases ha : (doB s a).1 ≠ 0
    · rw [if_pos ha] at h1; cases h1
    · rw [if_neg ha] at h1 ⊢
      have h4 : stopB (doB s a).2 (l.take k) = none := by
        cases h : stopB (doB s a).2 (l.take k) with
        | none => rfl
        | some q => rw [h] at h1; cases h1
      rw [stop_hit h4 (by simpa using h2) h3]
      rfl
theorem stop_on : ∀ {l : List ByteArray} {s : Bn} {k : Nat} {t : ByteArray}, stopB s (l.take k) = none → l[k]? = some t → (doB (dosB s (l.take k)) t).1 = 0 → stopB s (l.take (k + 1)) = none
  | [], _, _, _, _, h, _ => by simp at h
  | a :: l, s, 0, t, _, h, hne => by
    simp at h; subst h
    have hne' : (doB s a).1 = 0 := hne
    rw [List.take_succ_cons, List.take_zero]
    unfold stopB stopB
    rw [if_neg (by rw [hne']; simp)]; rfl
  | a :: l, s, k + 1, t, h1, h2, h3 => by
    rw [List.take_succ_cons] at h1 h3 ⊢
    unfold stopB at h1 ⊢
    by_cases ha : (doB s a).1 ≠ 0
    · rw [if_pos ha] at h1; cases h1
    · rw [if_neg ha] at h1 ⊢
      have h4 : stopB (doB s a).2 (l.take k) = none := by
        cases h : stopB (doB s a).2 (l.take k) with
        | none => rfl
        | some q => rw [h] at h1; cases h1
      rw [stop_on h4 (by simpa using h2) h3]; rfl
theorem dos_snoc {l : List ByteArray} {s : Bn} {k : Nat} {t : ByteArray} (h : l[k]? = some t) : dosB s (l.take (k + 1)) = (doB (dosB s (l.take k)) t).2 := by
  rw [List.take_add_one, h, Option.toList_some, dosB_append]; rfl
theorem read_bd {b : List UInt8} {t : List UInt8} (h : t ∈ (Bk.readL 80 0 b).1) : t.length ≤ 30 := (Bk.okT_iff.1 ((Bk.readL_eq 80 0 b).2.1 t h)).2.1

set_option maxRecDepth 100000 in
set_option maxHeartbeats 8000000 in
theorem Replay_any (p : List Ln) (v : Value) (t : ByteArray) (w : World) (hg : Glob w) (hp : LinesAt w v p) (hn : p.length < 10000000000) (ht : t.size ≤ 1000000000) (R : Ending → World → Prop)
    (hno : ∀ n e, repB p t = (none, n, e) → ∀ w', Grow w w' → R (.returned (.tuple #[.pointer none, .int .i64 n, .int .i64 e])) w')
    (hok : ∀ s n e, repB p t = (some s, n, e) → ∀ w' B, Grow w w' → w.heap.size ≤ B → BnAt (fun k => k == B) B w' s → OkB s → R (.returned (.tuple #[.pointer (some ⟨B, 0, none⟩), .int .i64 n, .int .i64 e])) w') :
    Calls Tryz.prog 50 #[v, .string t] w R := by
  have HNO := Lib.hid hno
  have HOK := Lib.hid hok
  have HP := Lib.hid hp
  have HG := Lib.hid hg
  have hwz := hg.size
  clear hno hok hp hg
  go_enter Tryz.func50, Tryz.ntmps50
  go_wp2_with fail
  refine New_any p v _ HP.out hn _ ?_ ?_
  · intro h0 w1 hg1
    have HF := Lib.hid (HNO.out 0 (valP p) (by unfold repB; rw [if_pos h0]) w1 hg1)
    have hz : (valP p != 0) = true := by simpa using h0
    obtain ⟨e, he⟩ : ∃ e, valP p = e := ⟨_, rfl⟩
    rw [he] at HF hz h0 ⊢
    clear he hg1
    go_wp2_with fail
    first | exact HF.out | exact bodyPost_ret (by simp [results, Tryz.results50, go_sem]) rfl HF.out
  · intro h0 w1 B hg1 hB hb
    have HG1 := Lib.hid hg1
    have HB := Lib.hid hb
    have H0 := Lib.hid h0
    have hBl := hb.hid.bd B (by simp)
    clear hg1 hb h0
    go_wp2_with fail
    refine Read_any t ht _ (HG.out.grow HG1.out) _ ?_
    intro w2 rv hg2 ho2
    obtain ⟨M, hM⟩ : ∃ M, Bk.readL 80 0 t.data.toList = M := ⟨_, rfl⟩
    have hrb : ∀ u ∈ M.1, u.length ≤ 30 := fun u hu => read_bd (by rw [hM]; exact hu)
    have hrl : M.1.length ≤ 80 := by rw [← hM]; exact read_len80 _ _ _
    have hrep : repB p t = (if M.2 ≠ [] then (none, 0, 10) else match stopB (newB p) (M.1.map tb) with
      | some q => (none, (q.1 : Nat), q.2)
      | none => (some (dosB (newB p) (M.1.map tb)), ((M.1.map tb).length : Nat), 0) : Option Bn × Int × Int) := by
      unfold repB ordB; rw [if_neg (by rw [H0.out]; simp), hM]
    rw [hM] at ho2 ⊢
    rw [hrep] at HNO HOK
    clear hM hrep
    obtain ⟨q, r⟩ := M
    dsimp only at ho2 hrb hrl HNO HOK ⊢
    obtain ⟨l, hl⟩ : ∃ l, q.map tb = l := ⟨_, rfl⟩
    have hln : l.length ≤ 80 := by rw [← hl, List.length_map]; exact hrl
    have hlb : ∀ u ∈ l, u.size < 4294967281 := by
      intro u hu
      rw [← hl] at hu
      obtain ⟨z, hz, rfl⟩ := List.mem_map.1 hu
      rw [tb_size]
      have := hrb z hz
      omega
    rw [hl] at ho2 HNO HOK
    have HLB := Lib.hid hlb
    clear hl hrb hrl hlb
    have hhid := (slc_of_owns encTx_len ho2).hide_new (NewS.of_own (show Own 1 encTx _ w2 rv l from ⟨_, ho2⟩)) (H := fun k => k == B) (fun b hb => by rw [beq_eq_false_iff_ne]; omega)
    obtain ⟨ra, rc, rfl, r1, r2, jk⟩ := slc_of_owns encTx_len ho2
    have HT := Lib.hid hhid
    have HG2 := Lib.hid (HG1.out.trans hg2)
    have HB2 := Lib.hid (HB.out.grow hg2)
    have hB4 : 4 < B := by omega
    clear ho2 jk hhid hg2 HB
    by_cases hr : r = []
    rotate_left
    · have HF := Lib.hid (HNO.out 0 10 (by rw [if_pos hr]) w2 HG2.out)
      have hrb := tb_nel hr
      have hrc : ((tb r).toList == []) = false := beq_eq_false_iff_ne.2 hrb
      go_wp2_with fail
      all_goals first | exact HF.out | exact bodyPost_ret (by simp [results, Tryz.results50, go_sem]) rfl HF.out
    subst hr
    rw [if_neg (by simp)] at HNO HOK
    have hrn := tb_nil
    have hnb : OkB (newB p) := OkB.new H0.out
    have HNB := Lib.hid hnb
    clear hnb
    go_wp2_with fail
    go_loopw [31] (fun s31 wr => ∃ k : Nat, k ≤ l.length ∧ s31 = .int .i64 k ∧ Chg B w2 wr ∧ BnAt (fun k => k == B) B wr (dosB (newB p) (l.take k)) ∧ stopB (newB p) (l.take k) = none) (fun s31 _ => l.length - (intOf s31).toNat)
    case atStart => exact ⟨0, Nat.zero_le _, rfl, chg_refl B w2, HB2.out, rfl⟩
    case round =>
      obtain ⟨k, hk, rfl, hc, hbn, hst⟩ := hrel
      have HC := Lib.hid hc
      have HBN := Lib.hid hbn
      have HST := Lib.hid hst
      have hgw : Grow w wr := chg_grow HG2.out hc (by omega)
      have HGW := Lib.hid hgw
      clear hc hbn hst hgw
      by_cases hlt : k < l.length
      · have hltz : (k : Int) < (l.length : Int) := by omega
        obtain ⟨u, hu⟩ : ∃ u, l[k]? = some u := ⟨_, List.getElem?_eq_getElem hlt⟩
        obtain ⟨b, o, rfl, hbl, y0⟩ := texts_at (show TextsAt wr _ l from (HT.out.grow HC.out).unhide) hu
        have hus := HLB.out u (List.mem_of_getElem? hu)
        have HU := Lib.hid hu
        clear hu
        go_wp2_with fail
        refine bDo_any (fun k => k == B) B u hus (dosB (newB p) (l.take k)) _ (HG.out.grow HGW.out) HBN.out (HNB.out.dos _) hB4 _ ?_
        intro w5 hc5 hb5
        obtain ⟨e, he⟩ : ∃ e, (doB (dosB (newB p) (l.take k)) u).1 = e := ⟨_, rfl⟩
        have HE := Lib.hid he
        have HC5 := Lib.hid (HC.out.trans hc5)
        have HB5 := Lib.hid hb5
        have hgw5 : Grow w w5 := chg_grow HG2.out HC5.out (by omega)
        rw [he]
        by_cases h0 : e = 0
        · subst h0
          have hs2 := stop_on HST.out HU.out HE.out
          have HS2 := Lib.hid hs2
          clear he hc5 hb5 hs2 hgw5
          go_wp2_with fail
          go_roundw
          case rel => exact ⟨k + 1, by omega, by go_num, HC5.out, by rw [dos_snoc HU.out]; exact HB5.out, HS2.out⟩
          case measure => simp [intOf]; omega
        · have hz : (e != 0) = true := by simpa using h0
          have hs2 := stop_hit HST.out HU.out (by rw [HE.out]; exact h0)
          rw [HE.out] at hs2
          have HF := Lib.hid (HNO.out k e (by rw [hs2]) w5 hgw5)
          clear he hc5 hb5 hs2 hgw5
          go_wp2_with fail
          first | exact HF.out | exact bodyPost_ret (by simp [results, Tryz.results50, go_sem]) rfl HF.out
      · obtain rfl : k = l.length := by omega
        have hltz : ¬ (l.length : Int) < (l.length : Int) := by omega
        have hst := HST.out
        have hbn := HBN.out
        rw [List.take_length] at hst hbn
        have HF := Lib.hid (HOK.out (dosB (newB p) l) l.length 0 (by rw [hst]) wr B HGW.out (by omega) hbn (HNB.out.dos _))
        clear hst hbn
        go_wp2_with fail
        first | exact HF.out | exact bodyPost_ret (by simp [results, Tryz.results50, go_sem]) rfl HF.out
end Go.Proofs.YtihdpbfhkddpcaaGreatDoor

namespace Go.Proofs.YtihdpbfhkddpcaaGreatDoor
open Go.RowKit

/-! ### Plainly -/
theorem head_repair (s : Bn) (x : List Ed) (h : 0 < s.progs.length) : (repairB s x).2.progs[0]? = s.progs[0]? := by
  unfold repairB
  repeat' split
  all_goals first | rfl | exact List.getElem?_append_left h
theorem head_exec {s : Bn} (ok : OkB s) (k : Nat) (l : List Int) : (execB s k l).2.progs[0]? = s.progs[0]? := by
  have h : 0 < s.progs.length := by rw [ok.len]; omega
  have hr := fun x => head_repair s x h
  unfold execB putB undoB testB forgetB lockB fixBn verifyB
  repeat' split
  all_goals first
    | rfl
    | exact hr _
    | (show (s.progs.take s.hist.length)[0]? = _
       rw [List.getElem?_take, if_pos (by omega)])
theorem head_do {s : Bn} (ok : OkB s) (t : ByteArray) : (doB s t).2.progs[0]? = s.progs[0]? := by
  unfold doB
  repeat' split
  all_goals first | rfl | exact head_exec ok _ _
theorem head_dos {s : Bn} (ok : OkB s) : ∀ l, (dosB s l).progs[0]? = s.progs[0]?
  | [] => rfl
  | t :: r => (head_dos (ok.do t) r).trans (head_do ok t)
theorem RepB.head {p : List Ln} {s : Bn} (h : RepB p s) (hp : valP p = 0) : s.progs[0]? = some p := by
  rw [← h.1, head_dos (OkB.new hp)]; rfl
theorem RepB.val {p : List Ln} {s : Bn} (ok : OkB s) (h : s.progs[0]? = some p) : valP p = 0 := ok.val p (List.mem_of_getElem? h)
theorem RepB.stop {p : List Ln} {s : Bn} (h : RepB p s) : ∀ k, k ≤ s.orders.length → stopB (newB p) (s.orders.take k) = none
  | 0, _ => rfl
  | k + 1, hk => by
    obtain ⟨t, ht⟩ : ∃ t, s.orders[k]? = some t := ⟨_, List.getElem?_eq_getElem (by omega)⟩
    exact stop_on (h.stop k (by omega)) ht (h.2 k t ht)
/-- The book makes the bench again. -/
theorem RepB.book {p : List Ln} {s : Bn} (ok : OkB s) (h : RepB p s) (hp : valP p = 0) : repB p (tb (bkS s.orders)) = (some s, ((s.orders.length : Nat) : Int), (0 : Int)) := by
  unfold repB ordB
  rw [if_neg (by rw [hp]; simp), book_read ok.okL ok.ord]
  dsimp only
  rw [if_neg (by simp), map_tb_dl]
  have := h.stop s.orders.length (Nat.le_refl _)
  rw [List.take_length] at this
  rw [this, h.1]
set_option maxRecDepth 100000 in
set_option maxHeartbeats 16000000 in
theorem Audit_any (H : Nat → Bool) (B : Nat) (s : Bn) (p : List Ln) (w : World) (hg : Glob w) (h : BnAt H B w s) (ok : OkB s) (rep : RepB p s) (hp : valP p = 0) (R : Ending → World → Prop) (hR : ∀ w', Grow w w' → R (.returned (.bool true)) w') :
    Calls Tryz.prog 28 #[.pointer (some ⟨B, 0, none⟩)] w R := by
  have HR := Lib.hid hR
  have HG := Lib.hid hg
  have HH := Lib.hid h
  have HOK := Lib.hid ok
  have HBK := Lib.hid (rep.book ok hp)
  have HHD := Lib.hid (rep.head hp)
  have HPV := Lib.hid hp
  clear hR hg h ok rep hp
  go_enter Tryz.func28, Tryz.ntmps28
  go_wp2_with fail
  refine look_any H B s _ HH.out _ ?_
  intro w1 V hg1 hs1
  have HG1 := Lib.hid hg1
  have HS1 := Lib.hid hs1
  clear hg1 hs1
  have hc : stCells V s = #[.slice V.pa s.progs.length V.pc, .slice V.ha s.hist.length V.hc, .slice V.ta s.tests.length V.tc, .slice V.la s.lk.length V.lc, .int .i64 s.fixes, .int .i64 s.checks, .slice V.oa s.orders.length V.oc] := rfl
  rw [hc]
  go_upto_region 4 with fail
  obtain ⟨w2, hw2⟩ : ∃ z : World, z = w1.alloc (.cells (stCells V s) 73) := ⟨_, rfl⟩
  change Code.wp _ _ _ _ (w1.alloc (.cells (stCells V s) 73))
  have hg2 : Grow w1 w2 := by rw [hw2]; exact (Grow.refl w1).alloc _
  have hb2 : w2.heap[w1.heap.size]? = some (.cells (stCells V s) 73 (0, 0)) := by rw [hw2]; exact heap_alloc_new _ _
  rw [← hw2]
  obtain ⟨x, hx⟩ : ∃ z, w1.heap.size = z := ⟨_, rfl⟩
  rw [hx] at hb2 ⊢
  have hs2 := HS1.out.grow (hg2.hid H)
  obtain ⟨L, hL, hLx⟩ := hs2.unhide.pr
  obtain ⟨M, hM, hMx⟩ := hs2.unhide.hi
  have hlp : 0 < s.progs.length := by rw [HOK.out.len]; omega
  obtain ⟨t0, ht0, ht0x⟩ : ∃ t, L[0]? = some t ∧ t.x = p := by
    have h1 : L[0]?.map Lo.x = some p := by rw [← List.getElem?_map, hLx]; exact HHD.out
    cases h2 : L[0]? with
    | none => rw [h2] at h1; cases h1
    | some t => rw [h2] at h1; exact ⟨t, rfl, Option.some.inj h1⟩
  obtain ⟨pb, po, hpa, hpl, y0⟩ := lo_at hL.at_ ht0
  rw [Nat.add_zero] at y0
  have HP0 := Lib.hid (show LinesAt w2 t0.v p by rw [← ht0x]; exact hL.ins t0 (List.mem_of_getElem? ht0))
  have hLl : L.length = s.progs.length := by rw [← hLx]; simp
  have hMl : M.length = s.hist.length := by rw [← hMx]; simp
  obtain ⟨d0, d1, d2, d3, d4, d5, d6⟩ := st_cells hb2
  rw [hpa] at d0
  have HB2 := Lib.hid hb2
  have HS2 := Lib.hid hs2
  have HM := Lib.hid hM
  have HMX := Lib.hid hMx
  have HG2 := Lib.hid (HG1.out.trans hg2)
  have HPA := Lib.hid hpa
  have HY0 := Lib.hid y0
  have hplz : (0 : Int) < (s.progs.length : Int) := by omega
  clear hw2 hg2 hb2 hs2 hL hLx hM hMx ht0 hx HS1 HG1 hpa
  go_wp2_with fail
  go_loopw [4, 23] (fun s4 s23 wr => ∃ (k : Nat) (pk : List Ln), k ≤ s.hist.length ∧ s23 = .int .i64 k ∧ s.progs[k]? = some pk ∧ LinesAt wr s4 pk ∧ Grow w2 wr) (fun _ s23 _ => s.hist.length - (intOf s23).toNat)
  case atStart => exact ⟨0, p, Nat.zero_le _, rfl, HHD.out, HP0.out, Grow.refl w2⟩
  case round =>
    obtain ⟨k, pk, hk, rfl, hpk, hlpk, hg⟩ := hrel
    have HGR := Lib.hid hg
    have HLP := Lib.hid hlpk
    have HPK := Lib.hid hpk
    clear hg hlpk hpk d0 d1 d2 d3 d4 d5 d6 y0
    by_cases hlt : k < s.hist.length
    · have hltz : (k : Int) < (s.hist.length : Int) := by omega
      obtain ⟨tm, htm⟩ : ∃ t, M[k]? = some t := ⟨_, List.getElem?_eq_getElem (by omega)⟩
      obtain ⟨mb, mo, hha, hmb, m0⟩ := lo_at (HM.out.grow HGR.out).at_ htm
      have hxk : s.hist[k]? = some tm.x := by rw [← HMX.out, List.getElem?_map, htm]; rfl
      obtain ⟨q, hq⟩ : ∃ q, s.progs[k + 1]? = some q := ⟨_, List.getElem?_eq_getElem (by rw [HOK.out.len]; omega)⟩
      obtain ⟨hch, hqe⟩ := HOK.out.step k pk tm.x q HPK.out hxk hq
      have hk8 : k < 8 := by have := HOK.out.h8; omega
      have HMI := Lib.hid ((HM.out.grow HGR.out).ins tm (List.mem_of_getElem? htm))
      have HQ := Lib.hid hq
      have HCH := Lib.hid hch
      have HQE := Lib.hid hqe
      rw [hha]
      clear hq hch hqe hxk htm hha
      go_wp2_with fail
      refine Do_any pk tm.x _ _ _ HLP.out HMI.out _ ?_
      intro w5 v5 hg5 hl5
      rw [HCH.out] at hl5 ⊢
      rw [if_pos rfl, ← HQE.out] at hl5
      have HL5 := Lib.hid hl5
      have HG5 := Lib.hid (HGR.out.trans hg5)
      clear hl5 hg5
      go_wp2_with fail
      go_roundw
      case rel => exact ⟨k + 1, q, by omega, by go_num, HQ.out, HL5.out, HG5.out⟩
      case measure => simp [intOf]; omega
    · obtain rfl : k = s.hist.length := by omega
      have hltz : ¬ (s.hist.length : Int) < (s.hist.length : Int) := by omega
      obtain rfl : pk = s.prog := Option.some.inj (HPK.out.symm.trans HOK.out.ne)
      have HSW := Lib.hid (HS2.out.grow (HGR.out.hid H))
      obtain ⟨c0, c1, c2, c3, c4, c5, c6⟩ := st_cells (HGR.out.blk HB2.out)
      go_wp2_with fail
      refine program_any H V s _ HSW.out HOK.out.pne _ ?_
      intro w6 pv hg6 hpv
      have HG6 := Lib.hid (HGR.out.trans hg6)
      have HPV2 := Lib.hid hpv.unhide
      have HLP6 := Lib.hid (HLP.out.grow hg6)
      clear hg6 hpv c0 c1 c2 c3 c4 c5 c6
      go_wp2_with fail
      refine eqL_any s.prog _ _ _ HLP6.out HPV2.out _ ?_
      intro w7 hg7
      have HG7 := Lib.hid (HG6.out.trans hg7)
      have HLP7 := Lib.hid (HLP6.out.grow hg7)
      obtain ⟨c0, c1, c2, c3, c4, c5, c6⟩ := st_cells (HG7.out.blk HB2.out)
      clear hg7
      go_wp2_with fail
      refine breaks_any H s.prog _ V s _ HLP7.out (HS2.out.grow (HG7.out.hid H)) _ ?_
      intro w8 hg8
      rw [HOK.out.holds]
      have HG8 := Lib.hid (HG7.out.trans hg8)
      clear hg8 c0 c1 c2 c3 c4 c5 c6
      have HWT := Lib.hid (show valP p = 0 from HPV.out)
      have hg08 : Grow w w8 := HG2.out.trans HG8.out
      have hL8 : LinesAt w8 t0.v p := HP0.out.grow HG8.out
      have hOD8 : TextsAt w8 (.slice V.oa s.orders.length V.oc) s.orders := (HS2.out.grow (HG8.out.hid H)).unhide.od
      have HL8 := Lib.hid hL8
      have HOD8 := Lib.hid hOD8
      have HG08 := Lib.hid hg08
      have hox : ∀ t ∈ s.orders, t.size ≤ 1000000 := fun t ht => by
        have h1 := (Bk.okT_iff.1 (List.all_eq_true.1 HOK.out.okL t ht)).2.1
        have h2 : (dl t).length = t.size := (tx_len t).symm
        omega
      have HOX := Lib.hid hox
      have hbn : (tb (bkS s.orders)).size ≤ 1000000000 := by
        have h1 := book_len s.orders hox s.orders.length (Nat.le_refl _)
        rw [List.take_length] at h1
        have h2 := HOK.out.ord
        rw [tb_size]; omega
      have HBN := Lib.hid hbn
      have hpl8 := valp_len HPV.out
      clear hg08 hL8 hOD8 hox hbn
      go_wp2_with fail
      refine wp_region_held_drew (S := fun X => Grow w8 X) (by kernel_rfl) ((Grow.refl w8).drew) (fun hH => ?_)
      refine wpAnyH_take (i := 0) (v := .pointer (some ⟨x, 0, none⟩)) rfl (by kernel_rfl) (by kernel_rfl) (by kernel_rfl) (fun _ _ _ h => h) (Or.inl ⟨by rfl, ?_⟩) hH ?_
      · intro w9 hw9
        go_simp
      try simp only [List.getElem_toArray, List.getElem_cons_zero, Act.put, List.setIfInBounds_toArray, List.set_cons_zero, List.set_cons_succ]
      refine wpAnyH_take (i := 1) (v := .slice (some ⟨pb, po, none⟩) s.progs.length V.pc) rfl (by kernel_rfl) (by kernel_rfl) (by kernel_rfl) (fun _ _ _ h => h) (Or.inl ⟨by rfl, ?_⟩) hH ?_
      · intro w9 hw9
        obtain ⟨c0, c1, c2, c3, c4, c5, c6⟩ := st_cells (Grow.blk (HG8.out.trans hw9) HB2.out)
        rw [HPA.out] at c0
        go_simp
      try simp only [List.getElem_toArray, List.getElem_cons_succ, List.getElem_cons_zero, Act.put, List.setIfInBounds_toArray, List.set_cons_zero, List.set_cons_succ]
      refine wpAnyH_take (i := 2) (v := .pointer (some ⟨pb, po, none⟩)) rfl (by kernel_rfl) (by kernel_rfl) (by kernel_rfl) (fun _ _ _ h => h) (Or.inl ⟨by rfl, ?_⟩) hH ?_
      · intro w9 hw9
        go_simp
      try simp only [List.getElem_toArray, List.getElem_cons_succ, List.getElem_cons_zero, Act.put, List.setIfInBounds_toArray, List.set_cons_zero, List.set_cons_succ]
      refine wpAnyH_take (i := 3) (v := .slice t0.a t0.n t0.c) rfl (by kernel_rfl) (by kernel_rfl) (by kernel_rfl) (fun _ _ _ h => h) (Or.inl ⟨by rfl, ?_⟩) hH ?_
      · intro w9 hw9
        have y9 := Grow.cell (HG8.out.trans hw9) HY0.out
        go_simp
      try simp only [List.getElem_toArray, List.getElem_cons_succ, List.getElem_cons_zero, Act.put, List.setIfInBounds_toArray, List.set_cons_zero, List.set_cons_succ]
      refine wpAnyH_take (i := 4) (v := .pointer (some ⟨x, 6, none⟩)) rfl (by kernel_rfl) (by kernel_rfl) (by kernel_rfl) (fun _ _ _ h => h) (Or.inl ⟨by rfl, ?_⟩) hH ?_
      · intro w9 hw9
        go_simp
      try simp only [List.getElem_toArray, List.getElem_cons_succ, List.getElem_cons_zero, Act.put, List.setIfInBounds_toArray, List.set_cons_zero, List.set_cons_succ]
      refine wpAnyH_take (i := 5) (v := .slice V.oa s.orders.length V.oc) rfl (by kernel_rfl) (by kernel_rfl) (by kernel_rfl) (fun _ _ _ h => h) (Or.inl ⟨by rfl, ?_⟩) hH ?_
      · intro w9 hw9
        obtain ⟨c0, c1, c2, c3, c4, c5, c6⟩ := st_cells (Grow.blk (HG8.out.trans hw9) HB2.out)
        go_simp
      try simp only [List.getElem_toArray, List.getElem_cons_succ, List.getElem_cons_zero, Act.put, List.setIfInBounds_toArray, List.set_cons_zero, List.set_cons_succ]
      refine wpAnyH_ready (rs := [6]) (by kernel_rfl) (by simp) ?_
      refine AllReadyH.cons rfl (fun K hK => ?_) AllReadyH.nil
      go_simp
      refine write_any s.orders _ _ (HG.out.grow (HG08.out.trans hH)) (HOD8.out.grow hH) HOX.out (by have := HOK.out.ord; omega) _ ?_
      intro w9 hg9
      go_wp2_with fail
      refine hK.out _ _ (hH.trans hg9) (fun hH2 => ?_)
      clear hK K hH
      have hH := hH2
      clear hH2
      try simp only [List.getElem_toArray, List.getElem_cons_succ, List.getElem_cons_zero, Act.put, List.setIfInBounds_toArray, List.set_cons_zero, List.set_cons_succ]
      clear hg9
      refine wpAnyH_ready (rs := [7]) (by kernel_rfl) (by simp) ?_
      refine AllReadyH.cons rfl (fun K hK => ?_) AllReadyH.nil
      go_simp
      refine Replay_any p _ (tb (bkS s.orders)) _ (HG.out.grow (HG08.out.trans hH)) (HL8.out.grow hH) (by omega) HBN.out _ ?_ ?_
      · intro n e he; rw [HBK.out] at he; cases he
      intro s9 n9 e9 he9 w9 B9 hg9 hB9 hb9 ok9
      obtain ⟨rfl, rfl, rfl⟩ : s = s9 ∧ ((s.orders.length : Nat) : Int) = n9 ∧ (0 : Int) = e9 := by
        rw [HBK.out] at he9
        injection he9 with h1 h2
        injection h1 with h1
        injection h2 with h2 h3
        exact ⟨h1, h2, h3⟩
      clear he9
      have HB9 := Lib.hid hb9
      go_wp2_with fail
      refine hK.out _ _ (hH.trans hg9) (fun hH2 => ?_)
      clear hK K hH
      have hH := hH2
      clear hH2
      try simp only [List.getElem_toArray, List.getElem_cons_succ, List.getElem_cons_zero, Act.put, List.setIfInBounds_toArray, List.set_cons_zero, List.set_cons_succ]
      clear hg9
      refine wpAnyH_take (i := 8) (v := .tuple #[.pointer (some ⟨B9, 0, none⟩), .int .i64 (s.orders.length : Nat), .int .i64 0]) rfl (by kernel_rfl) (by kernel_rfl) (by kernel_rfl) (fun _ _ _ h => h) (Or.inl ⟨by rfl, ?_⟩) hH ?_
      · intro w9 hw9
        go_simp
      try simp only [List.getElem_toArray, List.getElem_cons_succ, List.getElem_cons_zero, Act.put, List.setIfInBounds_toArray, List.set_cons_zero, List.set_cons_succ]
      refine wpAnyH_take (i := 9) (v := .pointer (some ⟨B9, 0, none⟩)) rfl (by kernel_rfl) (by kernel_rfl) (by kernel_rfl) (fun _ _ _ h => h) (Or.inl ⟨by rfl, ?_⟩) hH ?_
      · intro w9 hw9
        go_simp
      try simp only [List.getElem_toArray, List.getElem_cons_succ, List.getElem_cons_zero, Act.put, List.setIfInBounds_toArray, List.set_cons_zero, List.set_cons_succ]
      refine wpAnyH_take (i := 10) (v := .int .i64 (s.orders.length : Nat)) rfl (by kernel_rfl) (by kernel_rfl) (by kernel_rfl) (fun _ _ _ h => h) (Or.inl ⟨by rfl, ?_⟩) hH ?_
      · intro w9 hw9
        go_simp
      try simp only [List.getElem_toArray, List.getElem_cons_succ, List.getElem_cons_zero, Act.put, List.setIfInBounds_toArray, List.set_cons_zero, List.set_cons_succ]
      refine wpAnyH_take (i := 11) (v := .int .i64 0) rfl (by kernel_rfl) (by kernel_rfl) (by kernel_rfl) (fun _ _ _ h => h) (Or.inl ⟨by rfl, ?_⟩) hH ?_
      · intro w9 hw9
        go_simp
      try simp only [List.getElem_toArray, List.getElem_cons_succ, List.getElem_cons_zero, Act.put, List.setIfInBounds_toArray, List.set_cons_zero, List.set_cons_succ]
      refine wpAnyH_take (i := 12) (v := .pointer (some ⟨B9, 0, none⟩)) rfl (by kernel_rfl) (by kernel_rfl) (by kernel_rfl) (fun _ _ _ h => h) (Or.inl ⟨by rfl, ?_⟩) hH ?_
      · intro w9 hw9
        go_simp
      try simp only [List.getElem_toArray, List.getElem_cons_succ, List.getElem_cons_zero, Act.put, List.setIfInBounds_toArray, List.set_cons_zero, List.set_cons_succ]
      refine wpAnyH_take (i := 13) (v := .int .i64 (s.orders.length : Nat)) rfl (by kernel_rfl) (by kernel_rfl) (by kernel_rfl) (fun _ _ _ h => h) (Or.inl ⟨by rfl, ?_⟩) hH ?_
      · intro w9 hw9
        go_simp
      try simp only [List.getElem_toArray, List.getElem_cons_succ, List.getElem_cons_zero, Act.put, List.setIfInBounds_toArray, List.set_cons_zero, List.set_cons_succ]
      refine wpAnyH_take (i := 14) (v := .int .i64 0) rfl (by kernel_rfl) (by kernel_rfl) (by kernel_rfl) (fun _ _ _ h => h) (Or.inl ⟨by rfl, ?_⟩) hH ?_
      · intro w9 hw9
        go_simp
      try simp only [List.getElem_toArray, List.getElem_cons_succ, List.getElem_cons_zero, Act.put, List.setIfInBounds_toArray, List.set_cons_zero, List.set_cons_succ]
      refine wpAnyH_done (by kernel_rfl) ?_ _
      obtain ⟨V9, hb9b, hs9⟩ := HB9.out.blk
      have HBB := Lib.hid hb9b
      have HS9 := Lib.hid hs9
      have HG9 := Lib.hid (HG8.out.trans hH)
      clear hH hb9b hs9 hb9
      go_wp2_with fail
      refine wp_region_held_drew (S := fun X => Grow w9 X) (by kernel_rfl) ((Grow.refl w9).drew) (fun hH => ?_)
      refine wpAnyH_take (i := 0) (v := .int .i64 0) rfl (by kernel_rfl) (by kernel_rfl) (by kernel_rfl) (fun _ _ _ h => h) (Or.inl ⟨by rfl, ?_⟩) hH ?_
      · intro w9 hw9
        go_simp
      try simp only [List.getElem_toArray, List.getElem_cons_zero, Act.put, List.setIfInBounds_toArray, List.set_cons_zero, List.set_cons_succ]
      refine wpAnyH_take (i := 1) (v := .bool true) rfl (by kernel_rfl) (by kernel_rfl) (by kernel_rfl) (fun _ _ _ h => h) (Or.inl ⟨by rfl, ?_⟩) hH ?_
      · intro w9 hw9
        go_simp
      try simp only [List.getElem_toArray, List.getElem_cons_succ, List.getElem_cons_zero, Act.put, List.setIfInBounds_toArray, List.set_cons_zero, List.set_cons_succ]
      refine wpAnyH_take (i := 2) (v := .bool true) rfl (by kernel_rfl) (by kernel_rfl) (by kernel_rfl) (fun _ _ _ h => h) (Or.inl ⟨by rfl, ?_⟩) hH ?_
      · intro w9 hw9
        go_simp
      try simp only [List.getElem_toArray, List.getElem_cons_succ, List.getElem_cons_zero, Act.put, List.setIfInBounds_toArray, List.set_cons_zero, List.set_cons_succ]
      refine wpAnyH_take (i := 3) (v := .pointer (some ⟨B9, 0, none⟩)) rfl (by kernel_rfl) (by kernel_rfl) (by kernel_rfl) (fun _ _ _ h => h) (Or.inl ⟨by rfl, ?_⟩) hH ?_
      · intro w9 hw9
        go_simp
      try simp only [List.getElem_toArray, List.getElem_cons_succ, List.getElem_cons_zero, Act.put, List.setIfInBounds_toArray, List.set_cons_zero, List.set_cons_succ]
      refine wpAnyH_take (i := 4) (v := .pointer (some ⟨B9, 0, none⟩)) rfl (by kernel_rfl) (by kernel_rfl) (by kernel_rfl) (fun _ _ _ h => h) (Or.inl ⟨by rfl, ?_⟩) hH ?_
      · intro w9 hw9
        go_simp
      try simp only [List.getElem_toArray, List.getElem_cons_succ, List.getElem_cons_zero, Act.put, List.setIfInBounds_toArray, List.set_cons_zero, List.set_cons_succ]
      refine wpAnyH_take (i := 5) (v := .pointer (some ⟨B9, 2, none⟩)) rfl (by kernel_rfl) (by kernel_rfl) (by kernel_rfl) (fun _ _ _ h => h) (Or.inl ⟨by rfl, ?_⟩) hH ?_
      · intro w9 hw9
        go_simp
      try simp only [List.getElem_toArray, List.getElem_cons_succ, List.getElem_cons_zero, Act.put, List.setIfInBounds_toArray, List.set_cons_zero, List.set_cons_succ]
      refine wpAnyH_take (i := 6) (v := .agg #[.slice V9.pa s.progs.length V9.pc, .slice V9.ha s.hist.length V9.hc, .slice V9.ta s.tests.length V9.tc, .slice V9.la s.lk.length V9.lc, .int .i64 s.fixes, .int .i64 s.checks, .slice V9.oa s.orders.length V9.oc]) rfl (by kernel_rfl) (by kernel_rfl) (by kernel_rfl) (fun _ _ _ h => h) (Or.inl ⟨by rfl, ?_⟩) hH ?_
      · intro w9 hw9
        obtain ⟨b0, b1, c0, c1, c2, c3, c4, c5, c6⟩ := bm_cells (m := 0) (V := V9) (s := s) (Grow.blk hw9 HBB.out)
        go_simp
      try simp only [List.getElem_toArray, List.getElem_cons_succ, List.getElem_cons_zero, Act.put, List.setIfInBounds_toArray, List.set_cons_zero, List.set_cons_succ]
      refine wpAnyH_take (i := 7) (v := .agg #[.slice V.pa s.progs.length V.pc, .slice V.ha s.hist.length V.hc, .slice V.ta s.tests.length V.tc, .slice V.la s.lk.length V.lc, .int .i64 s.fixes, .int .i64 s.checks, .slice V.oa s.orders.length V.oc]) rfl (by kernel_rfl) (by kernel_rfl) (by kernel_rfl) (fun _ _ _ h => h) (Or.inl ⟨by rfl, ?_⟩) hH ?_
      · intro w9 hw9
        obtain ⟨c0, c1, c2, c3, c4, c5, c6⟩ := st_cells (Grow.blk (HG9.out.trans hw9) HB2.out)
        go_simp
      try simp only [List.getElem_toArray, List.getElem_cons_succ, List.getElem_cons_zero, Act.put, List.setIfInBounds_toArray, List.set_cons_zero, List.set_cons_succ]
      refine wpAnyH_ready (rs := [8]) (by kernel_rfl) (by simp) ?_
      refine AllReadyH.cons rfl (fun K hK => ?_) AllReadyH.nil
      go_simp
      refine same_any (fun k => k == B9) H V9 V s _ (HS9.out.grow (hH.hid _)) (HS2.out.grow ((HG9.out.trans hH).hid H)) HOK.out.pne _ ?_
      intro w5 hg5
      go_wp2_with fail
      refine hK.out _ _ (hH.trans hg5) (fun hH2 => ?_)
      clear hK K hH
      have hH := hH2
      clear hH2
      try simp only [List.getElem_toArray, List.getElem_cons_succ, List.getElem_cons_zero, Act.put, List.setIfInBounds_toArray, List.set_cons_zero, List.set_cons_succ]
      clear hg5
      refine wpAnyH_take (i := 9) (v := .bool true) rfl (by kernel_rfl) (by kernel_rfl) (by kernel_rfl) (fun _ _ _ h => h) (Or.inl ⟨by rfl, ?_⟩) hH ?_
      · intro w9 hw9
        go_simp
      try simp only [List.getElem_toArray, List.getElem_cons_succ, List.getElem_cons_zero, Act.put, List.setIfInBounds_toArray, List.set_cons_zero, List.set_cons_succ]
      refine wpAnyH_take (i := 10) (v := .bool true) rfl (by kernel_rfl) (by kernel_rfl) (by kernel_rfl) (fun _ _ _ h => h) (Or.inl ⟨by rfl, ?_⟩) hH ?_
      · intro w9 hw9
        go_simp
      try simp only [List.getElem_toArray, List.getElem_cons_succ, List.getElem_cons_zero, Act.put, List.setIfInBounds_toArray, List.set_cons_zero, List.set_cons_succ]
      refine wpAnyH_done (by kernel_rfl) ?_ _
      have HF := Lib.hid (HR.out _ (HG2.out.trans (HG9.out.trans hH)))
      clear hH
      go_wp2_with fail
      exact HF.out
end Go.Proofs.YtihdpbfhkddpcaaGreatDoor

namespace Go.Proofs.YtihdpbfhkddpcaaGreatDoor
open Go.RowKit

theorem RepB.dos {p : List Ln} {s : Bn} (h : RepB p s) : ∀ l, RepB p (dosB s l)
  | [] => h
  | t :: r => (h.do t).dos r
/-- A list that lay ahead of a bench, or was made behind it, lies not in its block. -/
theorem texts_off {w w2 : World} {B : Nat} {v v' : Value} {l ls : List ByteArray} (hl : TextsAt w v l) (hB : w.heap.size ≤ B) (h : TextsAt w2 v' ls) {base : Nat} (hv : v' = v ∨ NewS base v') (hB2 : B < base) : TextsAt (hideW (fun k => k == B) w2) v' ls := by
  refine SlcAt.hide h ?_
  intro b o n c e
  rcases hv with rfl | hn
  · obtain ⟨a, c', e2, _, _, h4⟩ := hl
    rw [e] at e2
    injection e2 with e3 e4 _
    rcases h4 with ⟨h4, _⟩ | ⟨b', o', e5, hb', _⟩
    · obtain ⟨a, c', e6, _, _, _⟩ := h
      rw [e] at e6
      injection e6 with _ e7 _
      right
      rw [h4] at e4
      have : ls.length = 0 := by rw [← e7, e4]; rfl
      exact List.eq_nil_of_length_eq_zero this
    · left
      rw [← e3] at e5
      injection e5 with e5
      injection e5 with e5 _ _
      rw [beq_eq_false_iff_ne]; omega
  · left
    have : base ≤ b := hn _ n c e
    rw [beq_eq_false_iff_ne]; omega
set_option maxRecDepth 100000 in
set_option maxHeartbeats 8000000 in
theorem benchAudits_any (p : List Ln) (l : List ByteArray) (w : World) (v0 v1 : Value) (hg : Glob w) (hp : LinesAt w v0 p) (hl : TextsAt w v1 l) (R : Ending → World → Prop) (hR : ∀ w', Grow w w' → R (.returned (.bool true)) w') :
    Calls Tryz.prog 7 #[v0, v1] w R := by
  have HR := Lib.hid hR
  have HG := Lib.hid hg
  have HP := Lib.hid hp
  have HL := Lib.hid hl
  have hgs := hg.size
  clear hR hg hp hl
  go_enter Tryz.func7, Tryz.ntmps7
  go_wp2_with fail
  refine long49_any p _ _ HP.out _ ?_
  cases hlg : decide (100 < p.length) with
  | true =>
    go_wp2_with fail
    refine sane_any _ HG.out _ ?_
    intro w2 hg2
    have HF := Lib.hid (HR.out w2 hg2)
    clear hg2
    go_wp2_with fail
    exact HF.out
  | false =>
  have hpl : p.length ≤ 100 := by have := of_decide_eq_false hlg; omega
  clear hlg
  go_wp2_with fail
  refine Long9_any l _ _ HL.out _ ?_
  intro w1 hg1
  have HG1 := Lib.hid hg1
  clear hg1
  cases hlg : lngT l with
  | true =>
    go_wp2_with fail
    refine sane_any _ (HG.out.grow HG1.out) _ ?_
    intro w2 hg2
    have HF := Lib.hid (HR.out w2 (HG1.out.trans hg2))
    clear hg2
    go_wp2_with fail
    exact HF.out
  | false =>
  obtain ⟨hsz, hlen⟩ := lngT_no hlg
  have HSZ := Lib.hid hsz
  clear hlg hsz
  go_wp2_with fail
  refine Begin_any p _ _ (HP.out.grow HG1.out) (by omega) _ ?_ ?_
  · intro h0 w2 hg2
    have HG2 := Lib.hid (HG1.out.trans hg2)
    have H0 := Lib.hid h0
    clear hg2 h0
    go_wp2_with fail
    refine failed9_any p _ _ (HG.out.grow HG2.out) (HP.out.grow HG2.out) (by omega) H0.out _ ?_
    intro w3 hg3
    have HF := Lib.hid (HR.out w3 (HG2.out.trans hg3))
    clear hg3
    go_wp2_with fail
    exact HF.out
  · intro h0 w2 B ra hg2 hB hb
    have HG2 := Lib.hid (HG1.out.trans hg2)
    have HB2 := Lib.hid hb
    have H0 := Lib.hid h0
    have hwB : w.heap.size ≤ B := Nat.le_trans HG1.out.sz hB
    have hBl := hb.hid.bd B (by simp)
    clear hg2 hb hB h0
    go_wp2_with fail
    refine few_any l _ _ (HL.out.grow HG2.out) _ ?_
    intro w3 v3 hg3 ht3 hv3
    have hoff := texts_off HL.out hwB ht3 hv3 hBl
    obtain ⟨ls, hls⟩ : ∃ z, l.take 24 = z := ⟨_, rfl⟩
    have hlsz : ∀ t ∈ ls, t.size < 4294967281 := fun t ht => by
      rw [← hls] at ht
      have := HSZ.out t (List.mem_of_mem_take ht)
      omega
    rw [hls] at ht3 hoff
    have HLS := Lib.hid hlsz
    have HT := Lib.hid hoff
    have HG3 := Lib.hid (HG2.out.trans hg3)
    have HB3 := Lib.hid (HB2.out.grow hg3)
    obtain ⟨va, vc, rfl, a1, a2, jk⟩ := ht3
    have hB4 : 4 < B := by omega
    have HN0 := Lib.hid (OkB.new H0.out)
    clear hg3 hv3 hoff hlsz jk hls HB2
    go_wp2_with fail
    go_loopw [8] (fun s8 wr => ∃ k : Nat, k ≤ ls.length ∧ s8 = .int .i64 k ∧ Chg B w3 wr ∧ BnAt (fun k => k == B) B wr (dosB (newB p) (ls.take k))) (fun s8 _ => ls.length - (intOf s8).toNat)
    case atStart => exact ⟨0, Nat.zero_le _, rfl, chg_refl B w3, HB3.out⟩
    case round =>
      obtain ⟨k, hk, rfl, hc, hbn⟩ := hrel
      have HC := Lib.hid hc
      have HBN := Lib.hid hbn
      have HGW := Lib.hid (chg_grow HG3.out hc hwB)
      clear hc hbn
      by_cases hlt : k < ls.length
      · have hltz : (k : Int) < (ls.length : Int) := by omega
        obtain ⟨u, hu⟩ : ∃ u, ls[k]? = some u := ⟨_, List.getElem?_eq_getElem hlt⟩
        obtain ⟨b, o, rfl, hbl, y0⟩ := texts_at (show TextsAt wr _ ls from (HT.out.grow HC.out).unhide) hu
        have hus := HLS.out u (List.mem_of_getElem? hu)
        have HU := Lib.hid hu
        clear hu
        go_wp2_with fail
        refine bDo_any (fun k => k == B) B u hus (dosB (newB p) (ls.take k)) _ (HG.out.grow HGW.out) HBN.out (HN0.out.dos _) hB4 _ ?_
        intro w5 hc5 hb5
        have HC5 := Lib.hid (HC.out.trans hc5)
        have HB5 := Lib.hid (show BnAt (fun k => k == B) B w5 (dosB (newB p) (ls.take (k + 1))) by rw [dos_snoc HU.out]; exact hb5)
        obtain ⟨e, he⟩ : ∃ e, (doB (dosB (newB p) (ls.take k)) u).1 = e := ⟨_, rfl⟩
        rw [he]
        clear he hc5 hb5
        go_wp2_with fail
        go_roundw
        case rel => exact ⟨k + 1, by omega, by go_num, HC5.out, HB5.out⟩
        case measure => simp [intOf]; omega
      · obtain rfl : k = ls.length := by omega
        have hltz : ¬ (ls.length : Int) < (ls.length : Int) := by omega
        go_wp2_with fail
        refine Audit_any (fun k => k == B) B _ p _ (HG.out.grow HGW.out) HBN.out (HN0.out.dos _) ((RepB.new p).dos _) H0.out _ ?_
        intro w6 hg6
        have HG6 := Lib.hid (HGW.out.trans hg6)
        clear hg6
        go_wp2_with fail
        refine sane_any _ (HG.out.grow HG6.out) _ ?_
        intro w7 hg7
        have HF := Lib.hid (HR.out w7 (HG6.out.trans hg7))
        clear hg7
        go_wp2_with fail
        exact HF.out
end Go.Proofs.YtihdpbfhkddpcaaGreatDoor
