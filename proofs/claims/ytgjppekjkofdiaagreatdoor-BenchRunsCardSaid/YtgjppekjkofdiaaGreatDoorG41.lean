/-
The walk of the statements' sanity check: the chapter's examples hold.
The walks of the statements' Begin, failed and few, and of the document's New as far as they need it.
The walk of Replay: a bench is made by a book.
The walk of Audit: it always holds.
The law BenchAudits: the audit always holds.
What a bench tells: the locked tests, the failing tests, the counts, the book.
The walk of Tests: the tests, each with a state of its own.
The walk of Stands: the history makes the program, and no locked test fails.
What lies outside the block of a bench stays while the bench changes; more than one bench.
The law BenchStands: the history makes the program, and no locked test fails, behind each order.
-/
import Derived.Test.YtgjppekjkofdiaaGreatDoorG34
import Derived.Test.YtgjppekjkofdiaaGreatDoorG35
import Derived.Test.YtgjppekjkofdiaaGreatDoorG40
import Derived.RegionTactic
import Derived.Deep.RegionHeld3
import Derived.Test.YtgjppekjkofdiaaGreatDoorG01
import Derived.Test.YtgjppekjkofdiaaGreatDoorG23
import Derived.Test.YtgjppekjkofdiaaGreatDoorG42
import Derived.BigQuiet
import Derived.Test.YtgjppekjkofdiaaGreatDoorG43
import Derived.Test.YtgjppekjkofdiaaGreatDoorG20
import Derived.Test.YtgjppekjkofdiaaGreatDoorG26
import Derived.Test.YtgjppekjkofdiaaGreatDoorG44
namespace Go.Proofs.YtgjppekjkofdiaaGreatDoor
open Go.RowKit

theorem sn_sum : Bk.sumL 0 (dl Sn.o1) = 821069 := by kernel_rfl
theorem sn_book : bkS [Sn.o1] = [56, 50, 49, 48, 54, 57, 32, 99, 104, 101, 99, 107, 10] := by
  unfold bkS
  show Bk.lineL (Bk.sumL 0 (dl Sn.o1)) (dl Sn.o1) ++ [] = _
  rw [sn_sum]
  unfold Bk.lineL
  simp [Lib.itoa, Lib.decDigits, dl, Sn.o1]
theorem sn_wr : tb (wrS [Sn.o1]) = ⟨#[56, 50, 49, 48, 54, 57, 32, 99, 104, 101, 99, 107, 10]⟩ ∧ wrE [Sn.o1] = 0 := by
  have h : okL [Sn.o1] = true := by decide +kernel
  constructor
  · unfold wrS
    rw [if_neg (by decide), h, if_pos rfl, sn_book]; rfl
  · unfold wrE
    rw [if_neg (by decide), h, if_pos rfl]
theorem lines_lit (w : World) (xs : List Ln) (T : TypeId) (hl : xs.length ≤ 1000) : LinesAt (w.alloc (.cells (xs.flatMap encL).toArray T)) (.slice (some ⟨w.heap.size, 0, none⟩) xs.length xs.length) xs := by
  refine ⟨_, xs.length, rfl, Nat.le_refl _, by omega, .inr ⟨w.heap.size, 0, rfl, by simp, fun j x hj i u hu => ?_⟩⟩
  rw [World.cell?_alloc_new, List.getElem?_toArray, Nat.zero_add]
  have hi : i < 4 := by
    have := (List.getElem?_eq_some_iff.1 hu).1
    rwa [encL_len] at this
  clear hl
  induction xs generalizing j with
  | nil => simp at hj
  | cons y r ih =>
    rw [List.flatMap_cons]
    cases j with
    | zero =>
      simp at hj; subst hj
      rw [Nat.zero_mul, Nat.zero_add, List.getElem?_append_left (by rw [encL_len]; exact hi)]
      exact hu
    | succ j =>
      rw [List.getElem?_append_right (by rw [encL_len]; omega), encL_len, show (j + 1) * 4 + i - 4 = j * 4 + i by omega]
      exact ih j (by simpa using hj)

def snT : Array Value := (Sn.ords.map Value.string).toArray
def snE : Array Value := (Sn.wants.map (Value.int .i64)).toArray
set_option maxRecDepth 100000 in
set_option maxHeartbeats 8000000 in
theorem sane_any (w : World) (hg : Glob w) (R : Ending → World → Prop) (hR : ∀ w', Grow w w' → R (.returned (.bool true)) w') :
    Calls Tryz.prog 11 #[] w R := by
  have HR := Lib.hid hR
  have HG := Lib.hid hg
  have hsz := hg.size
  clear hR hg
  go_enter Tryz.func11, Tryz.ntmps11
  go_wp2_with fail
  refine New_any Sn.p0 _ _ (lines_lit w Sn.p0 81 (by decide)) (by decide) _ ?_ ?_
  · intro hne; exact absurd Sn.val0 hne
  · intro _ w1 B hg1 hB hbn
    rw [World.size_alloc] at hB
    have hgw1 : Grow w w1 := ((Grow.refl w).alloc _).trans hg1
    have hBl := hbn.hid.bd B (by simp)
    have HG1 := Lib.hid hgw1
    have HBN := Lib.hid hbn
    clear hg1 hbn hgw1
    go_upto_region 6 with fail
    change Code.wp _ _ _ _ ((w1.alloc (.cells snT 9)).alloc (.cells snE 33))
    have hg13 : Grow w1 ((w1.alloc (.cells snT 9)).alloc (.cells snE 33)) := ((Grow.refl w1).alloc _).alloc _
    have hT : ((w1.alloc (.cells snT 9)).alloc (.cells snE 33)).heap[w1.heap.size]? = some (.cells snT 9 (0, 0)) := ((Grow.refl _).alloc _).blk (heap_alloc_new w1 (.cells snT 9))
    have hE : ((w1.alloc (.cells snT 9)).alloc (.cells snE 33)).heap[w1.heap.size + 1]? = some (.cells snE 33 (0, 0)) := by
      have := heap_alloc_new (w1.alloc (.cells snT 9)) (.cells snE 33)
      rw [World.size_alloc] at this
      exact this
    obtain ⟨w3, hw3⟩ : ∃ z : World, z = (w1.alloc (.cells snT 9)).alloc (.cells snE 33) := ⟨_, rfl⟩
    rw [← hw3] at hg13 hT hE ⊢
    obtain ⟨nT, hnT⟩ : ∃ z, w1.heap.size = z := ⟨_, rfl⟩
    obtain ⟨nE, hnE⟩ : ∃ z, w1.heap.size + 1 = z := ⟨_, rfl⟩
    rw [hnE] at hE ⊢
    rw [hnT] at hT ⊢
    have HB3 := Lib.hid (HBN.out.grow hg13)
    have HG3 := Lib.hid (HG1.out.trans hg13)
    have HT := Lib.hid hT
    have HE := Lib.hid hE
    have hTB : nT ≠ B := by omega
    have hEB : nE ≠ B := by omega
    have hB4 : 4 < B := by omega
    have hwB : w.heap.size ≤ B := by omega
    clear hw3 hg13 hT hE hnT hnE hBl HBN HG1
    go_wp2_with fail
    go_loopw [5] (fun s5 wr => ∃ k : Nat, k ≤ 7 ∧ s5 = .int .i64 k ∧ Chg B w3 wr ∧ BnAt (fun k => k == B) B wr (Sn.stN k)) (fun s5 _ => 7 - (intOf s5).toNat)
    case atStart => exact ⟨0, by decide, rfl, chg_refl B w3, HB3.out⟩
    case round =>
      obtain ⟨k, hk, rfl, hc, hbn⟩ := hrel
      have HC := Lib.hid hc
      have HBN := Lib.hid hbn
      clear hc hbn
      by_cases hlt : k < 7
      · have hltz : (k : Int) < 7 := by omega
        obtain ⟨t, ht⟩ : ∃ t, Sn.ords[k]? = some t := ⟨_, List.getElem?_eq_getElem (by show k < 7; omega)⟩
        obtain ⟨e, he⟩ : ∃ e, Sn.wants[k]? = some e := ⟨_, List.getElem?_eq_getElem (by show k < 7; omega)⟩
        have hts : t.size < 4294967281 := by
          have : ∀ u ∈ Sn.ords, u.size < 4294967281 := by decide +kernel
          exact this t (List.mem_of_getElem? ht)
        have HDO := Lib.hid (Sn.do_at k t e ht he)
        have HTK := Lib.hid (show snT[k]? = some (Value.string t) by unfold snT; rw [List.getElem?_toArray, List.getElem?_map, ht]; rfl)
        have HEK := Lib.hid (show snE[k]? = some (Value.int .i64 e) by unfold snE; rw [List.getElem?_toArray, List.getElem?_map, he]; rfl)
        have HOK := Lib.hid (Sn.okN k hk)
        clear ht he
        go_wp2_with fail
        refine wp_region_held_drew (S := fun X => Chg B w3 X) (by kernel_rfl) (HC.out.trans (Chg.of_grow (Grow.refl wr).drew)) (fun hH => ?_)
        refine wpAnyH_take (i := 0) (v := .pointer (some ⟨B, 0, none⟩)) rfl (by kernel_rfl) (by kernel_rfl) (by kernel_rfl) (fun _ _ _ h => h) (Or.inl ⟨by rfl, ?_⟩) hH ?_
        · intro w9 hw9
          go_simp
        try simp only [List.getElem_toArray, List.getElem_cons_zero, Act.put, List.setIfInBounds_toArray, List.set_cons_zero, List.set_cons_succ]
        refine wpAnyH_take (i := 1) (v := .slice (some ⟨nT, 0, none⟩) 7 7) rfl (by kernel_rfl) (by kernel_rfl) (by kernel_rfl) (fun _ _ _ h => h) (Or.inl ⟨by rfl, ?_⟩) hH ?_
        · intro w9 hw9
          go_simp
        try simp only [List.getElem_toArray, List.getElem_cons_succ, List.getElem_cons_zero, Act.put, List.setIfInBounds_toArray, List.set_cons_zero, List.set_cons_succ]
        refine wpAnyH_take (i := 2) (v := .int .i64 k) rfl (by kernel_rfl) (by kernel_rfl) (by kernel_rfl) (fun _ _ _ h => h) (Or.inl ⟨by rfl, ?_⟩) hH ?_
        · intro w9 hw9
          go_simp
        try simp only [List.getElem_toArray, List.getElem_cons_succ, List.getElem_cons_zero, Act.put, List.setIfInBounds_toArray, List.set_cons_zero, List.set_cons_succ]
        refine wpAnyH_take (i := 3) (v := .pointer (some ⟨nT, k, none⟩)) rfl (by kernel_rfl) (by kernel_rfl) (by kernel_rfl) (fun _ _ _ h => h) (Or.inl ⟨by rfl, ?_⟩) hH ?_
        · intro w9 hw9
          go_simp
        try simp only [List.getElem_toArray, List.getElem_cons_succ, List.getElem_cons_zero, Act.put, List.setIfInBounds_toArray, List.set_cons_zero, List.set_cons_succ]
        refine wpAnyH_take (i := 4) (v := .string t) rfl (by kernel_rfl) (by kernel_rfl) (by kernel_rfl) (fun _ _ _ h => h) (Or.inl ⟨by rfl, ?_⟩) hH ?_
        · intro w9 hw9
          have y9 := cellOf (Chg.blk hw9 hTB HT.out) k HTK.out
          go_simp
        try simp only [List.getElem_toArray, List.getElem_cons_succ, List.getElem_cons_zero, Act.put, List.setIfInBounds_toArray, List.set_cons_zero, List.set_cons_succ]
        refine wpAnyH_take (i := 6) (v := .slice (some ⟨nE, 0, none⟩) 7 7) rfl (by kernel_rfl) (by kernel_rfl) (by kernel_rfl) (fun _ _ _ h => h) (Or.inl ⟨by rfl, ?_⟩) hH ?_
        · intro w9 hw9
          go_simp
        try simp only [List.getElem_toArray, List.getElem_cons_succ, List.getElem_cons_zero, Act.put, List.setIfInBounds_toArray, List.set_cons_zero, List.set_cons_succ]
        refine wpAnyH_take (i := 7) (v := .int .i64 k) rfl (by kernel_rfl) (by kernel_rfl) (by kernel_rfl) (fun _ _ _ h => h) (Or.inl ⟨by rfl, ?_⟩) hH ?_
        · intro w9 hw9
          go_simp
        try simp only [List.getElem_toArray, List.getElem_cons_succ, List.getElem_cons_zero, Act.put, List.setIfInBounds_toArray, List.set_cons_zero, List.set_cons_succ]
        refine wpAnyH_take (i := 8) (v := .pointer (some ⟨nE, k, none⟩)) rfl (by kernel_rfl) (by kernel_rfl) (by kernel_rfl) (fun _ _ _ h => h) (Or.inl ⟨by rfl, ?_⟩) hH ?_
        · intro w9 hw9
          go_simp
        try simp only [List.getElem_toArray, List.getElem_cons_succ, List.getElem_cons_zero, Act.put, List.setIfInBounds_toArray, List.set_cons_zero, List.set_cons_succ]
        refine wpAnyH_take (i := 9) (v := .int .i64 e) rfl (by kernel_rfl) (by kernel_rfl) (by kernel_rfl) (fun _ _ _ h => h) (Or.inl ⟨by rfl, ?_⟩) hH ?_
        · intro w9 hw9
          have y9 := cellOf (Chg.blk hw9 hEB HE.out) k HEK.out
          go_simp
        try simp only [List.getElem_toArray, List.getElem_cons_succ, List.getElem_cons_zero, Act.put, List.setIfInBounds_toArray, List.set_cons_zero, List.set_cons_succ]
        refine wpAnyH_ready (rs := [5]) (by kernel_rfl) (by simp) ?_
        refine AllReadyH.cons rfl (fun K hK => ?_) AllReadyH.nil
        go_simp
        refine bDo_any (fun k => k == B) B t hts (Sn.stN k) _ ((HG.out.grow HG3.out).chg hH hB4) (HBN.out.grow (Grow.refl wr).drew) HOK.out hB4 _ ?_
        intro w5 hc5 hb5
        rw [HDO.out] at hb5 ⊢
        dsimp only at hb5 ⊢
        go_wp2_with fail
        have HB5 := Lib.hid hb5
        refine hK.out _ _ (hH.trans hc5) (fun hH2 => ?_)
        clear hK K hH
        have hH := hH2
        clear hH2
        try simp only [List.getElem_toArray, List.getElem_cons_succ, List.getElem_cons_zero, Act.put, List.setIfInBounds_toArray, List.set_cons_zero, List.set_cons_succ]
        clear hb5 hc5
        refine wpAnyH_take (i := 10) (v := .bool false) rfl (by kernel_rfl) (by kernel_rfl) (by kernel_rfl) (fun _ _ _ h => h) (Or.inl ⟨by rfl, ?_⟩) hH ?_
        · intro w9 hw9
          go_simp
        try simp only [List.getElem_toArray, List.getElem_cons_succ, List.getElem_cons_zero, Act.put, List.setIfInBounds_toArray, List.set_cons_zero, List.set_cons_succ]
        refine wpAnyH_done (by kernel_rfl) ?_ _
        have HC5 := Lib.hid hH
        clear hH
        go_wp2_with fail
        go_roundw
        case rel => exact ⟨k + 1, by omega, by go_num, HC5.out, HB5.out⟩
        case measure => simp [intOf]; omega
      · obtain rfl : k = 7 := by omega
        have HGW := Lib.hid (chg_grow HG3.out HC.out hwB)
        go_wp2_with fail
        refine Program_any (fun k => k == B) B (Sn.stN 7) _ HBN.out (Sn.okN 7 (by decide)) _ ?_
        intro w5 pv base hg5 hbs hpo
        rw [Sn.prog7] at hpo
        have hpl := slc_of_owns (xs := Sn.p1) encL_len hpo
        obtain ⟨pa, pc, rfl, p1, p2, jk⟩ := hpl
        have HPL := Lib.hid (slc_of_owns (xs := Sn.p1) encL_len hpo)
        have HG5 := Lib.hid (HGW.out.trans hg5)
        rw [show Sn.p1.length = 2 from rfl] at p1 HPL ⊢
        clear hg5 hpo jk
        go_wp2_with fail
        refine Write_any [Sn.o1] _ _ (HG.out.grow (HG5.out.alloc _)) (texts_lit w5 [Sn.o1] 9 (by decide)) (by decide +kernel) _ ?_
        intro w6 hg6
        rw [sn_wr.1, sn_wr.2]
        obtain ⟨b, o, rfl, hb, y0, y1, y2, y3⟩ := lines_at (HPL.out.grow (((Grow.refl w5).alloc (.cells (([Sn.o1] : List ByteArray).map Value.string).toArray 9)).trans hg6)) (k := 0) (op := 1) (d := 0) (x := 4) (y := 0) rfl
        rw [show o + 0 * 4 = o by omega] at y0 y1 y2 y3
        have HF := Lib.hid (HR.out w6 ((HG5.out.alloc _).trans hg6))
        clear hg6
        go_wp2_with fail
        exact HF.out
end Go.Proofs.YtgjppekjkofdiaaGreatDoor

namespace Go.Proofs.YtgjppekjkofdiaaGreatDoor
open Go.RowKit

set_option maxRecDepth 100000 in
set_option maxHeartbeats 4000000 in
theorem rNew0_any (p : List Ln) (v : Value) (w : World) (hp : LinesAt w v p) (hn : p.length < 10000000000) (R : Ending → World → Prop)
    (hno : valP p ≠ 0 → ∀ w', Grow w w' → R (.returned (.tuple #[.pointer none, .int .i64 (valP p)])) w')
    (hok : valP p = 0 → ∀ w' a, Grow w w' → R (.returned (.tuple #[.pointer (some a), .int .i64 0])) w') :
    Calls Tryz.prog 25 #[v] w R := by
  have HNO := Lib.hid hno
  have HOK := Lib.hid hok
  have HP := Lib.hid hp
  clear hno hok hp
  go_enter Tryz.func25, Tryz.ntmps25
  go_wp2_with fail
  refine rValidate_any p v _ HP.out _ ?_
  intro w1 hg1
  have HG1 := Lib.hid hg1
  clear hg1
  by_cases h0 : valP p = 0
  rotate_left
  · have HF := Lib.hid (HNO.out h0 w1 HG1.out)
    have hz : (valP p != 0) = true := by simpa using h0
    obtain ⟨e, he⟩ : ∃ e, valP p = e := ⟨_, rfl⟩
    rw [he] at HF hz h0 ⊢
    clear he
    go_wp2_with fail
    exact HF.out
  have HF := Lib.hid (HOK.out h0)
  rw [h0]
  go_wp2_with (at_builtin; refine Classical.byContradiction (fun hcon => ?_))
  refine hcon ?_
  clear hcon
  refine wpList_appAll _ rfl (.tmp 10) (.tmp 11) 22 rfl w1.heap.size 81 Tryz.underlying22 b_info_ln rfl (by decide) (by decide) encL encL_len encL_one _ [] rfl (ownsRow_empty w1 4 _ _ _ (Nat.le_refl _)) _ p rfl (HP.out.grow (HG1.out.alloc _)) (by simp; omega) (by simp) ?_
  intro v2 w2 hown2 hgr2
  have hg2 : Grow w1 w2 := grown_below (ownsRow_empty (α := Ln) w1 4 81 encL _ (Nat.le_refl _)) hgr2 (Nat.le_refl _) (by simp) ((Grow.refl w1).alloc _)
  have HG2 := Lib.hid (HG1.out.trans hg2)
  obtain ⟨a, c, rfl, q1, q2, jk⟩ := slc_of_owns encL_len (xs := p) (by simpa using hown2)
  have HFF := Lib.hid (fun o1 o2 a => HF.out ((w2.alloc o1).alloc o2) a ((HG2.out.alloc o1).alloc o2))
  clear hown2 hgr2 hg2 jk
  go_wp2_with fail
  exact HFF.out _ _ _

set_option maxRecDepth 100000 in
set_option maxHeartbeats 4000000 in
theorem Begin_any (p : List Ln) (v : Value) (w : World) (hp : LinesAt w v p) (hn : p.length < 10000000000) (R : Ending → World → Prop)
    (hno : valP p ≠ 0 → ∀ w', Grow w w' → R (.returned (.tuple #[.pointer none, .pointer none, .bool false])) w')
    (hok : valP p = 0 → ∀ w' B a, Grow w w' → w.heap.size ≤ B → BnAt (fun k => k == B) B w' (newB p) → R (.returned (.tuple #[.pointer (some ⟨B, 0, none⟩), .pointer (some a), .bool true])) w') :
    Calls Tryz.prog 12 #[v] w R := by
  have HNO := Lib.hid hno
  have HOK := Lib.hid hok
  have HP := Lib.hid hp
  clear hno hok hp
  go_enter Tryz.func12, Tryz.ntmps12
  go_wp2_with fail
  refine New_any p v _ HP.out hn _ ?_ ?_
  · intro h0 w1 hg1
    have HG1 := Lib.hid hg1
    have hz : (valP p == 0) = false := by simpa using h0
    have H0 := Lib.hid h0
    clear hg1 h0
    obtain ⟨e, he⟩ : ∃ e, valP p = e := ⟨_, rfl⟩
    have HE := Lib.hid he
    rw [he] at hz ⊢
    clear he
    go_wp2_with fail
    refine rNew0_any p v _ (HP.out.grow HG1.out) hn _ ?_ ?_
    · intro _ w2 hg2
      have HF := Lib.hid (HNO.out H0.out w2 (HG1.out.trans hg2))
      rw [HE.out]
      clear hg2
      go_wp2_with fail
      first | exact HF.out | exact bodyPost_ret (by simp [results, Tryz.results12, go_sem]) rfl HF.out
    · intro h; exact absurd h H0.out
  · intro h0 w1 B hg1 hB hb
    have HG1 := Lib.hid hg1
    have HB := Lib.hid hb
    clear hg1 hb
    go_wp2_with fail
    refine rNew0_any p v _ (HP.out.grow HG1.out) hn _ ?_ ?_
    · intro h; exact absurd h0 h
    · intro _ w2 a hg2
      have HF := Lib.hid (HOK.out h0 w2 B a (HG1.out.trans hg2) hB (HB.out.grow hg2))
      clear hg2
      go_wp2_with fail
      first | exact HF.out | exact bodyPost_ret (by simp [results, Tryz.results12, go_sem]) rfl HF.out

set_option maxRecDepth 100000 in
set_option maxHeartbeats 4000000 in
theorem failed9_any (p : List Ln) (v : Value) (w : World) (hg : Glob w) (hp : LinesAt w v p) (hn : p.length < 10000000000) (h0 : valP p ≠ 0) (R : Ending → World → Prop) (hR : ∀ w', Grow w w' → R (.returned (.bool true)) w') :
    Calls Tryz.prog 13 #[v] w R := by
  have HR := Lib.hid hR
  have HP := Lib.hid hp
  have HG := Lib.hid hg
  have H0 := Lib.hid h0
  have hz : (valP p != 0) = true := by simpa using h0
  obtain ⟨e, he⟩ : ∃ e, valP p = e := ⟨_, rfl⟩
  have HE := Lib.hid he
  rw [he] at hz
  clear hR hp hg h0 he
  go_enter Tryz.func13, Tryz.ntmps13
  go_wp2_with fail
  refine New_any p v _ HP.out hn _ ?_ ?_
  rotate_left
  · intro h; exact absurd h H0.out
  intro _ w1 hg1
  have HG1 := Lib.hid hg1
  rw [HE.out]
  clear hg1
  go_wp2_with fail
  refine rNew0_any p v _ (HP.out.grow HG1.out) hn _ ?_ ?_
  rotate_left
  · intro h; exact absurd h H0.out
  intro _ w2 hg2
  have HG2 := Lib.hid (HG1.out.trans hg2)
  rw [HE.out]
  clear hg2
  go_wp2_with fail
  refine sane_any _ (HG.out.grow HG2.out) _ ?_
  intro w3 hg3
  have HF := Lib.hid (HR.out w3 (HG2.out.trans hg3))
  clear hg3
  go_wp2_with fail
  exact HF.out

set_option maxRecDepth 100000 in
set_option maxHeartbeats 4000000 in
theorem few_any (l : List ByteArray) (v : Value) (w : World) (hl : TextsAt w v l) (R : Ending → World → Prop)
    (hR : ∀ w' v', Grow w w' → TextsAt w' v' (l.take 24) → (v' = v ∨ NewS w.heap.size v') → R (.returned v') w') :
    Calls Tryz.prog 14 #[v] w R := by
  have HR := Lib.hid hR
  have HL := Lib.hid hl
  obtain ⟨va, vc, rfl, v1, v2, jk⟩ := hl
  clear hR jk
  go_enter Tryz.func14, Tryz.ntmps14
  by_cases h24 : 24 < l.length
  · have hz : decide ((l.length : Int) > 24) = true := by rw [decide_eq_true_eq]; omega
    obtain ⟨t, ht⟩ : ∃ t, l[0]? = some t := ⟨_, List.getElem?_eq_getElem (by omega)⟩
    obtain ⟨b, o, rfl, _, _⟩ := texts_at HL.out ht
    have h24c : (24 : Nat) ≤ vc := by omega
    clear ht
    go_wp2_with (at_builtin; refine Classical.byContradiction (fun hcon => ?_))
    refine hcon ?_
    clear hcon
    refine wpList_appAll _ rfl (.tmp 6) (.tmp 8) 23 rfl w.heap.size 9 Tryz.underlying23 b_info_str rfl (by decide) (by decide) encTx encTx_len encTx_one _ [] rfl (ownsRow_empty w 1 _ _ _ (Nat.le_refl _)) _ (l.take 24) rfl ((HL.out.take (m := 24) (by omega)).grow ((Grow.refl w).alloc _)) (by simp; omega) (by simp) ?_
    intro v2 w2 hown2 hgr2
    have hg2 : Grow w w2 := grown_below (ownsRow_empty (α := ByteArray) w 1 9 encTx _ (Nat.le_refl _)) hgr2 (Nat.le_refl _) (by simp) ((Grow.refl w).alloc _)
    have HF := Lib.hid (HR.out w2 v2 hg2 (slc_of_owns encTx_len (by simpa using hown2)) (.inr (NewS.of_own (show Own 1 encTx _ w2 v2 (l.take 24) from ⟨_, by simpa using hown2⟩))))
    clear hown2 hgr2 hg2
    go_wp2_with fail
    exact HF.out
  · have hz : decide ((l.length : Int) > 24) = false := by rw [decide_eq_false_iff_not]; omega
    have HF := Lib.hid (HR.out w _ (Grow.refl w) (by rw [List.take_of_length_le (by omega)]; exact HL.out) (.inl rfl))
    go_wp2_with fail
    exact HF.out

theorem long49_any (p : List Ln) (v : Value) (w : World) (hp : LinesAt w v p) (R : Ending → World → Prop) (hR : R (.returned (.bool (decide (100 < p.length)))) w) :
    Calls Tryz.prog 9 #[v, .slice none 0 0] w R := by
  obtain ⟨a, c, rfl, h1, h2, _⟩ := hp
  by_cases h : 100 < p.length
  · rw [decide_eq_true h] at hR
    have t1 : (p.length : Int) > 100 := by omega
    go_enter Tryz.func9, Tryz.ntmps9
    go_wp2
    simpa using hR
  · rw [decide_eq_false h] at hR
    have t1 : ¬ (p.length : Int) > 100 := by omega
    go_enter Tryz.func9, Tryz.ntmps9
    go_wp2
    simpa using hR
end Go.Proofs.YtgjppekjkofdiaaGreatDoor

namespace Go.Proofs.YtgjppekjkofdiaaGreatDoor
open Go.RowKit

/-! ### Plainly -/
theorem dos_snoc {l : List ByteArray} {s : Bn} {k : Nat} {t : ByteArray} (h : l[k]? = some t) : dosB s (l.take (k + 1)) = (doB (dosB s (l.take k)) t).2 := by
  rw [List.take_add_one, h, Option.toList_some, dosB_append]; rfl
end Go.Proofs.YtgjppekjkofdiaaGreatDoor

namespace Go.Proofs.YtgjppekjkofdiaaGreatDoor
open Go.RowKit

/-! ### Plainly -/
theorem head_repair (s : Bn) (x : List Ed) (h : 0 < s.progs.length) : (repairB s x).2.progs[0]? = s.progs[0]? := by
  unfold repairB
  repeat' split
  all_goals first | rfl | exact List.getElem?_append_left h
theorem head_exec {s : Bn} (ok : OkB s) (k : Nat) (l : List Int) : (execB s k l).2.progs[0]? = s.progs[0]? := by
  have h : 0 < s.progs.length := by rw [ok.len]; omega
  have hr := fun x => head_repair s x h
  unfold execB putB undoB testB forgetB lockB fixBn verifyB
  repeat' split
  all_goals first
    | rfl
    | exact hr _
    | (show (s.progs.take s.hist.length)[0]? = _
       rw [List.getElem?_take, if_pos (by omega)])
theorem head_do {s : Bn} (ok : OkB s) (t : ByteArray) : (doB s t).2.progs[0]? = s.progs[0]? := by
  unfold doB
  repeat' split
  all_goals first | rfl | exact head_exec ok _ _
theorem head_dos {s : Bn} (ok : OkB s) : ∀ l, (dosB s l).progs[0]? = s.progs[0]?
  | [] => rfl
  | t :: r => (head_dos (ok.do t) r).trans (head_do ok t)
theorem RepB.val {p : List Ln} {s : Bn} (ok : OkB s) (h : s.progs[0]? = some p) : valP p = 0 := ok.val p (List.mem_of_getElem? h)
end Go.Proofs.YtgjppekjkofdiaaGreatDoor

namespace Go.Proofs.YtgjppekjkofdiaaGreatDoor
open Go.RowKit

theorem RepB.dos {p : List Ln} {s : Bn} (h : RepB p s) : ∀ l, RepB p (dosB s l)
  | [] => h
  | t :: r => (h.do t).dos r
/-- A list that lay ahead of a bench, or was made behind it, lies not in its block. -/
theorem texts_off {w w2 : World} {B : Nat} {v v' : Value} {l ls : List ByteArray} (hl : TextsAt w v l) (hB : w.heap.size ≤ B) (h : TextsAt w2 v' ls) {base : Nat} (hv : v' = v ∨ NewS base v') (hB2 : B < base) : TextsAt (hideW (fun k => k == B) w2) v' ls := by
  refine SlcAt.hide h ?_
  intro b o n c e
  rcases hv with rfl | hn
  · obtain ⟨a, c', e2, _, _, h4⟩ := hl
    rw [e] at e2
    injection e2 with e3 e4 _
    rcases h4 with ⟨h4, _⟩ | ⟨b', o', e5, hb', _⟩
    · obtain ⟨a, c', e6, _, _, _⟩ := h
      rw [e] at e6
      injection e6 with _ e7 _
      right
      rw [h4] at e4
      have : ls.length = 0 := by rw [← e7, e4]; rfl
      exact List.eq_nil_of_length_eq_zero this
    · left
      rw [← e3] at e5
      injection e5 with e5
      injection e5 with e5 _ _
      rw [beq_eq_false_iff_ne]; omega
  · left
    have : base ≤ b := hn _ n c e
    rw [beq_eq_false_iff_ne]; omega
end Go.Proofs.YtgjppekjkofdiaaGreatDoor

namespace Go.Proofs.YtgjppekjkofdiaaGreatDoor
open Go.RowKit

theorem OkB.tsz {s : Bn} (ok : OkB s) : ∀ t ∈ s.orders, t.size ≤ 1000000 := fun t ht => by
  have h1 := (Bk.okT_iff.1 (List.all_eq_true.1 ok.okL t ht)).2.1
  have h2 : (dl t).length = t.size := (tx_len t).symm
  omega
theorem st_field (x0 x1 x2 x3 x4 x5 x6 : Value) (W : World) :
    (Instr.field 91 (.agg #[x0, x1, x2, x3, x4, x5, x6]) 3).run Tryz.prog W = .ok x3 W ∧ (Instr.field 91 (.agg #[x0, x1, x2, x3, x4, x5, x6]) 6).run Tryz.prog W = .ok x6 W ∧ (Instr.field 91 (.agg #[x0, x1, x2, x3, x4, x5, x6]) 2).run Tryz.prog W = .ok x2 W :=
  ⟨by kernel_rfl, by kernel_rfl, by kernel_rfl⟩
theorem st_out (V : V5) (s : Bn) : stCells V s = #[.slice V.pa s.progs.length V.pc, .slice V.ha s.hist.length V.hc, .slice V.ta s.tests.length V.tc, .slice V.la s.lk.length V.lc, .int .i64 s.fixes, .int .i64 s.checks, .slice V.oa s.orders.length V.oc] := rfl

set_option maxRecDepth 100000 in
set_option maxHeartbeats 4000000 in
theorem Locked_any (H : Nat → Bool) (B : Nat) (s : Bn) (w : World) (h : BnAt H B w s) (ok : OkB s) (R : Ending → World → Prop)
    (hR : ∀ w' v base, Grow w w' → w.heap.size ≤ base → w'.ownsRow base 3 1 v s.lk.length (s.lk.flatMap encI) → R (.returned v) w') :
    Calls Tryz.prog 40 #[.pointer (some ⟨B, 0, none⟩)] w R := by
  have HR := Lib.hid hR
  have HH := Lib.hid h
  have HLL := Lib.hid ok.lk8
  clear hR h ok
  go_enter Tryz.func40, Tryz.ntmps40
  go_wp2_with fail
  refine look_any H B s _ HH.out _ ?_
  intro w1 V hg1 hs1
  have HLK := Lib.hid hs1.unhide.lk
  have HG1 := Lib.hid hg1
  rw [st_out V s]
  have hfd := fun x0 x1 x2 x3 x4 x5 x6 W => (st_field x0 x1 x2 x3 x4 x5 x6 W).1
  clear hs1 hg1
  go_wp2_with fail
  refine clI_any s.lk _ _ HLK.out (by have := HLL.out; omega) _ ?_
  intro w2 v2 hg2 hv2
  have HF := Lib.hid (HR.out w2 v2 _ (HG1.out.trans hg2) HG1.out.sz hv2)
  clear hg2 hv2
  go_wp2_with fail
  exact HF.out

set_option maxRecDepth 100000 in
set_option maxHeartbeats 4000000 in
theorem Failing9_any (H : Nat → Bool) (B : Nat) (s : Bn) (w : World) (h : BnAt H B w s) (ok : OkB s) (R : Ending → World → Prop)
    (hR : ∀ w' v base, Grow w w' → w.heap.size ≤ base → OwnI base w' v (failB s.prog s.tests) → R (.returned v) w') :
    Calls Tryz.prog 22 #[.pointer (some ⟨B, 0, none⟩)] w R := by
  have HR := Lib.hid hR
  have HH := Lib.hid h
  have HPN := Lib.hid ok.pne
  clear hR h ok
  go_enter Tryz.func22, Tryz.ntmps22
  go_wp2_with fail
  refine look_any H B s _ HH.out _ ?_
  intro w1 V hg1 hs1
  have HS1 := Lib.hid hs1
  have HG1 := Lib.hid hg1
  clear hs1 hg1
  rw [st_out V s]
  go_upto_region 2 with fail
  obtain ⟨w2, hw2⟩ : ∃ z : World, z = w1.alloc (.cells (stCells V s) 91) := ⟨_, rfl⟩
  change Code.wp _ _ _ _ (w1.alloc (.cells (stCells V s) 91))
  have hg2 : Grow w1 w2 := by rw [hw2]; exact (Grow.refl w1).alloc _
  have hb2 : w2.heap[w1.heap.size]? = some (.cells (stCells V s) 91 (0, 0)) := by rw [hw2]; exact heap_alloc_new _ _
  rw [← hw2]
  obtain ⟨x, hx⟩ : ∃ z, w1.heap.size = z := ⟨_, rfl⟩
  rw [hx] at hb2 ⊢
  have HB2 := Lib.hid hb2
  have HG2 := Lib.hid (HG1.out.trans hg2)
  have HS2 := Lib.hid (HS1.out.grow (hg2.hid H))
  clear hw2 hg2 hb2 hx
  go_wp2_with fail
  refine wp_region_held_drew (S := fun X => Grow w2 X) (by kernel_rfl) ((Grow.refl w2).drew) (fun hH => ?_)
  refine wpAnyH_take (i := 0) (v := .agg #[.slice V.pa s.progs.length V.pc, .slice V.ha s.hist.length V.hc, .slice V.ta s.tests.length V.tc, .slice V.la s.lk.length V.lc, .int .i64 s.fixes, .int .i64 s.checks, .slice V.oa s.orders.length V.oc]) rfl (by kernel_rfl) (by kernel_rfl) (by kernel_rfl) (fun _ _ _ h => h) (Or.inl ⟨by rfl, ?_⟩) hH ?_
  · intro w9 hw9
    obtain ⟨c0, c1, c2, c3, c4, c5, c6⟩ := st_cells (Grow.blk hw9 HB2.out)
    go_simp
  try simp only [List.getElem_toArray, List.getElem_cons_zero, Act.put, List.setIfInBounds_toArray, List.set_cons_zero, List.set_cons_succ]
  refine wpAnyH_take (i := 1) (v := .agg #[.slice V.pa s.progs.length V.pc, .slice V.ha s.hist.length V.hc, .slice V.ta s.tests.length V.tc, .slice V.la s.lk.length V.lc, .int .i64 s.fixes, .int .i64 s.checks, .slice V.oa s.orders.length V.oc]) rfl (by kernel_rfl) (by kernel_rfl) (by kernel_rfl) (fun _ _ _ h => h) (Or.inl ⟨by rfl, ?_⟩) hH ?_
  · intro w9 hw9
    obtain ⟨c0, c1, c2, c3, c4, c5, c6⟩ := st_cells (Grow.blk hw9 HB2.out)
    go_simp
  try simp only [List.getElem_toArray, List.getElem_cons_succ, List.getElem_cons_zero, Act.put, List.setIfInBounds_toArray, List.set_cons_zero, List.set_cons_succ]
  refine wpAnyH_ready (rs := [2]) (by kernel_rfl) (by simp) ?_
  refine AllReadyH.cons rfl (fun K hK => ?_) AllReadyH.nil
  go_simp
  refine program_any H V s _ (HS2.out.grow (hH.hid H)) HPN.out _ ?_
  intro w3 pv hg3 hpv
  have HPV := Lib.hid hpv.unhide
  go_wp2_with fail
  refine hK.out _ _ (hH.trans hg3) (fun hH2 => ?_)
  clear hK K hH
  have hH := hH2
  clear hH2
  try simp only [List.getElem_toArray, List.getElem_cons_succ, List.getElem_cons_zero, Act.put, List.setIfInBounds_toArray, List.set_cons_zero, List.set_cons_succ]
  clear hg3 hpv
  refine wpAnyH_ready (rs := [3]) (by kernel_rfl) (by simp) ?_
  refine AllReadyH.cons rfl (fun K hK => ?_) AllReadyH.nil
  go_simp
  refine bfailing_any H s.prog pv V s _ HPV.out (HS2.out.grow (hH.hid H)) _ ?_
  intro w4 x4 hg4 hx4
  have HX4 := Lib.hid (hx4.mono hH.sz)
  go_wp2_with fail
  refine hK.out _ _ (hH.trans hg4) (fun hH2 => ?_)
  clear hK K hH
  have hH := hH2
  clear hH2
  try simp only [List.getElem_toArray, List.getElem_cons_succ, List.getElem_cons_zero, Act.put, List.setIfInBounds_toArray, List.set_cons_zero, List.set_cons_succ]
  clear hg4 hx4
  refine wpAnyH_take (i := 4) (v := x4) rfl (by kernel_rfl) (by kernel_rfl) (by kernel_rfl) (fun _ _ _ h => h) (Or.inl ⟨by rfl, ?_⟩) hH ?_
  · intro w9 hw9
    go_simp
  try simp only [List.getElem_toArray, List.getElem_cons_succ, List.getElem_cons_zero, Act.put, List.setIfInBounds_toArray, List.set_cons_zero, List.set_cons_succ]
  refine wpAnyH_done (by kernel_rfl) ?_ _
  have HF := Lib.hid (HR.out _ x4 _ (HG2.out.trans hH) HG2.out.sz HX4.out)
  clear hH
  go_wp2_with fail
  exact HF.out

set_option maxRecDepth 100000 in
set_option maxHeartbeats 4000000 in
theorem Counts_any (H : Nat → Bool) (B : Nat) (s : Bn) (w : World) (h : BnAt H B w s) (R : Ending → World → Prop)
    (hR : ∀ w', Grow w w' → R (.returned (.tuple #[.int .i64 s.fixes, .int .i64 s.checks])) w') :
    Calls Tryz.prog 19 #[.pointer (some ⟨B, 0, none⟩)] w R := by
  have HR := Lib.hid hR
  have HH := Lib.hid h
  clear hR h
  go_enter Tryz.func19, Tryz.ntmps19
  go_wp2_with fail
  refine look_any H B s _ HH.out _ ?_
  intro w1 V hg1 hs1
  have HG1 := Lib.hid hg1
  clear hs1 hg1
  rw [st_out V s]
  go_upto_region 2 with fail
  obtain ⟨w2, hw2⟩ : ∃ z : World, z = w1.alloc (.cells (stCells V s) 91) := ⟨_, rfl⟩
  change Code.wp _ _ _ _ (w1.alloc (.cells (stCells V s) 91))
  have hg2 : Grow w1 w2 := by rw [hw2]; exact (Grow.refl w1).alloc _
  have hb2 : w2.heap[w1.heap.size]? = some (.cells (stCells V s) 91 (0, 0)) := by rw [hw2]; exact heap_alloc_new _ _
  rw [← hw2]
  obtain ⟨x, hx⟩ : ∃ z, w1.heap.size = z := ⟨_, rfl⟩
  rw [hx] at hb2 ⊢
  have HG2 := Lib.hid (HG1.out.trans hg2)
  obtain ⟨c0, c1, c2, c3, c4, c5, c6⟩ := st_cells hb2
  have HF := Lib.hid (fun W (g : Grow w2 W) => HR.out W (HG2.out.trans g))
  clear hw2 hg2 hb2 hx
  go_wp2_with (go_quiet (fail))
  exact HF.out _ ((Grow.refl _).drewN _)

set_option maxRecDepth 100000 in
set_option maxHeartbeats 4000000 in
theorem Book_any (H : Nat → Bool) (B : Nat) (s : Bn) (w : World) (hg : Glob w) (h : BnAt H B w s) (ok : OkB s) (R : Ending → World → Prop)
    (hR : ∀ w', Grow w w' → R (.returned (.string (tb (bkS s.orders)))) w') :
    Calls Tryz.prog 26 #[.pointer (some ⟨B, 0, none⟩)] w R := by
  have HR := Lib.hid hR
  have HG := Lib.hid hg
  have HH := Lib.hid h
  have HSZ := Lib.hid ok.tsz
  have HOL := Lib.hid ok.ord
  clear hR hg h ok
  go_enter Tryz.func26, Tryz.ntmps26
  go_wp2_with fail
  refine look_any H B s _ HH.out _ ?_
  intro w1 V hg1 hs1
  have HOD := Lib.hid hs1.unhide.od
  have HG1 := Lib.hid hg1
  rw [st_out V s]
  have hfd := fun x0 x1 x2 x3 x4 x5 x6 W => (st_field x0 x1 x2 x3 x4 x5 x6 W).2.1
  clear hs1 hg1
  go_wp2_with fail
  refine write_any s.orders _ _ (HG.out.grow HG1.out) HOD.out HSZ.out (by have := HOL.out; omega) _ ?_
  intro w2 hg2
  have HF := Lib.hid (HR.out w2 (HG1.out.trans hg2))
  clear hg2
  go_wp2_with fail
  exact HF.out
end Go.Proofs.YtgjppekjkofdiaaGreatDoor

namespace Go.Proofs.YtgjppekjkofdiaaGreatDoor
open Go.RowKit

set_option maxRecDepth 100000 in
set_option maxHeartbeats 8000000 in
theorem Tests_any (H : Nat → Bool) (B : Nat) (s : Bn) (w : World) (h : BnAt H B w s) (ok : OkB s) (R : Ending → World → Prop)
    (hR : ∀ w' v base L, Grow w w' → w.heap.size ≤ base → TqOwn base w' v L → L.map Tq.p = s.tests → R (.returned v) w') :
    Calls Tryz.prog 17 #[.pointer (some ⟨B, 0, none⟩)] w R := by
  have HR := Lib.hid hR
  have HH := Lib.hid h
  have H8 := Lib.hid ok.t8
  have HX4 := Lib.hid (fun (t : Tst) (ht : t ∈ s.tests) => show t.xs.length = 4 from (valS_ok.1 (Tst.ok_iff.1 ((valT_ok.1 ok.tst).2 t ht)).1).1)
  clear hR h ok
  go_enter Tryz.func17, Tryz.ntmps17
  go_wp2_with fail
  refine look_any H B s _ HH.out _ ?_
  intro w1 V hg1 hs1
  obtain ⟨M, hM, hMx⟩ := hs1.unhide.ts
  have hMl : M.length = s.tests.length := by rw [← hMx]; simp
  have HG1 := Lib.hid hg1
  have HM := Lib.hid hM
  have HMX := Lib.hid hMx
  rw [st_out V s]
  have hfd := fun x0 x1 x2 x3 x4 x5 x6 W => (st_field x0 x1 x2 x3 x4 x5 x6 W).2.2
  clear hs1 hM hMx
  go_wp2_with fail
  go_loopw [3, 10] (fun out i wr => ∃ (k : Nat) (L : List Tq), k ≤ s.tests.length ∧ i = .int .i64 k ∧ Grow w1 wr ∧ TqOwn w1.heap.size wr out L ∧ L.map Tq.p = s.tests.take k) (fun _ i _ => s.tests.length - (intOf i).toNat)
  case atStart => exact ⟨0, [], Nat.zero_le _, rfl, Grow.refl _, TqOwn.nil _ _, rfl⟩
  case round =>
    obtain ⟨k, L, hk, rfl, hg, how, hLx⟩ := hrel
    have HG := Lib.hid hg
    have HOW := Lib.hid how
    have HLX := Lib.hid hLx
    have hzw := hg.sz
    have hLk : L.length = k := by have := congrArg List.length hLx; simp at this; omega
    clear hg how hLx
    by_cases hlt : k < s.tests.length
    · have hlt2 : (k : Int) < (s.tests.length : Int) := by omega
      have hk8 : k < 8 := by have := H8.out; omega
      obtain ⟨q, hq⟩ : ∃ q, M[k]? = some q := ⟨_, List.getElem?_eq_getElem (by omega)⟩
      obtain ⟨mb, mo, hta, hmb, m0, m1, m2⟩ := tq_at (HM.out.grow HG.out).at_ hq
      have hqk : s.tests[k]? = some q.p := by rw [← HMX.out, List.getElem?_map, hq]; rfl
      have hx4 := HX4.out q.p (List.mem_of_getElem? hqk)
      have HI := Lib.hid ((HM.out.grow HG.out).ins q (List.mem_of_getElem? hq))
      have HLN := Lib.hid (show s.tests.take (k + 1) = s.tests.take k ++ [q.p] by rw [List.take_add_one, hqk]; rfl)
      have HLE := Lib.hid (show L.length < 100000000000 by have := H8.out; omega)
      have hx4' : q.xs.length = 4 := hx4
      rw [hta]
      clear hqk hq hLk hta hx4
      obtain ⟨qa, qn, qc, qx, qo, qw⟩ := q
      dsimp only at m0 m1 m2 HI HLN hx4'
      have HXQ := Lib.hid hx4'
      clear hx4'
      go_upto_region 5 with fail
      obtain ⟨w2, hw2⟩ : ∃ z : World, z = wr.alloc (.cells #[.slice qa qn qc, .int .i64 qo, .int .i64 qw] 101) := ⟨_, rfl⟩
      change Code.wp _ _ _ _ (wr.alloc (.cells #[.slice qa qn qc, .int .i64 qo, .int .i64 qw] 101))
      have hg2 : Grow wr w2 := by rw [hw2]; exact (Grow.refl wr).alloc _
      have hb2 : w2.heap[wr.heap.size]? = some (.cells #[.slice qa qn qc, .int .i64 qo, .int .i64 qw] 101 (0, 0)) := by rw [hw2]; exact heap_alloc_new _ _
      rw [← hw2]
      obtain ⟨x, hx⟩ : ∃ z, wr.heap.size = z := ⟨_, rfl⟩
      have hx1 : w1.heap.size ≤ x := by omega
      rw [hx] at hb2 ⊢
      have HB2 := Lib.hid hb2
      have HI2 := Lib.hid (HI.out.grow hg2)
      have HG2 := Lib.hid (HG.out.trans hg2)
      have HO2 := Lib.hid (HOW.out.grow hg2)
      have HOWL := Lib.hid (fun b (hb : u3.ownBlock = some b) => show b < x from by rw [← hx]; exact HOW.out.lt hb)
      have hbase2 : w1.heap.size ≤ w2.heap.size := HG2.out.sz
      clear hw2 hg2 hb2 hx m0 m1 m2 HOW HI
      go_wp2_with fail
      refine wp_region_held_drew (S := fun X => X.heap[x]? = some (.cells #[.slice qa qn qc, .int .i64 qo, .int .i64 qw] 101 (0, 0)) ∧ Grow w1 X) (by kernel_rfl) ⟨(Grow.refl w2).drew.blk HB2.out, HG2.out.trans (Grow.refl w2).drew⟩ (fun hH => ?_)
      refine wpAnyH_take (i := 0) (v := u3) rfl (by kernel_rfl) (by kernel_rfl) (by kernel_rfl) (fun _ _ _ h => h) (Or.inl ⟨by rfl, ?_⟩) hH ?_
      · intro w9 hw9
        go_simp
      try simp only [List.getElem_toArray, List.getElem_cons_zero, Act.put, List.setIfInBounds_toArray, List.set_cons_zero, List.set_cons_succ]
      refine wpAnyH_take (i := 1) (v := .pointer (some ⟨x, 0, none⟩)) rfl (by kernel_rfl) (by kernel_rfl) (by kernel_rfl) (fun _ _ _ h => h) (Or.inl ⟨by rfl, ?_⟩) hH ?_
      · intro w9 hw9
        go_simp
      try simp only [List.getElem_toArray, List.getElem_cons_succ, List.getElem_cons_zero, Act.put, List.setIfInBounds_toArray, List.set_cons_zero, List.set_cons_succ]
      refine wpAnyH_take (i := 2) (v := .slice qa qn qc) rfl (by kernel_rfl) (by kernel_rfl) (by kernel_rfl) (fun _ _ _ h => h) (Or.inl ⟨by rfl, ?_⟩) hH ?_
      · intro w9 hw9
        obtain ⟨y0, y1, y2⟩ := box3 hw9.1
        go_simp
      try simp only [List.getElem_toArray, List.getElem_cons_succ, List.getElem_cons_zero, Act.put, List.setIfInBounds_toArray, List.set_cons_zero, List.set_cons_succ]
      refine wpAnyH_take (i := 4) (v := .pointer (some ⟨x, 1, none⟩)) rfl (by kernel_rfl) (by kernel_rfl) (by kernel_rfl) (fun _ _ _ h => h) (Or.inl ⟨by rfl, ?_⟩) hH ?_
      · intro w9 hw9
        go_simp
      try simp only [List.getElem_toArray, List.getElem_cons_succ, List.getElem_cons_zero, Act.put, List.setIfInBounds_toArray, List.set_cons_zero, List.set_cons_succ]
      refine wpAnyH_take (i := 5) (v := .int .i64 qo) rfl (by kernel_rfl) (by kernel_rfl) (by kernel_rfl) (fun _ _ _ h => h) (Or.inl ⟨by rfl, ?_⟩) hH ?_
      · intro w9 hw9
        obtain ⟨y0, y1, y2⟩ := box3 hw9.1
        go_simp
      try simp only [List.getElem_toArray, List.getElem_cons_succ, List.getElem_cons_zero, Act.put, List.setIfInBounds_toArray, List.set_cons_zero, List.set_cons_succ]
      refine wpAnyH_take (i := 6) (v := .pointer (some ⟨x, 2, none⟩)) rfl (by kernel_rfl) (by kernel_rfl) (by kernel_rfl) (fun _ _ _ h => h) (Or.inl ⟨by rfl, ?_⟩) hH ?_
      · intro w9 hw9
        go_simp
      try simp only [List.getElem_toArray, List.getElem_cons_succ, List.getElem_cons_zero, Act.put, List.setIfInBounds_toArray, List.set_cons_zero, List.set_cons_succ]
      refine wpAnyH_take (i := 7) (v := .int .i64 qw) rfl (by kernel_rfl) (by kernel_rfl) (by kernel_rfl) (fun _ _ _ h => h) (Or.inl ⟨by rfl, ?_⟩) hH ?_
      · intro w9 hw9
        obtain ⟨y0, y1, y2⟩ := box3 hw9.1
        go_simp
      try simp only [List.getElem_toArray, List.getElem_cons_succ, List.getElem_cons_zero, Act.put, List.setIfInBounds_toArray, List.set_cons_zero, List.set_cons_succ]
      refine wpAnyH_ready (rs := [3]) (by kernel_rfl) (by simp) ?_
      refine AllReadyH.cons rfl (fun K hK => ?_) AllReadyH.nil
      go_simp
      refine clI_any qx _ _ (HI2.out.grow (Grow.refl w2).drew) (by have := HXQ.out; omega) _ ?_
      intro w3 v3 hg3 hv3
      go_wp2_with fail
      have HG3 := Lib.hid (show Grow w2 w3 from (Grow.refl w2).drew.trans hg3)
      have HO3 := Lib.hid (show Own 1 encI w2.heap.size w3 v3 qx from ⟨_, hv3⟩)
      obtain ⟨a3, c3, rfl, q1, q2, jk3⟩ := HO3.out.slc encI_len
      have HS3 := Lib.hid (HO3.out.slc encI_len)
      have HB1 := Lib.hid (HO2.out.new hbase2 HO3.out)
      clear jk3 hv3
      refine hK.out _ _ ⟨hg3.blk hH.1, hH.2.trans hg3⟩ (fun hH2 => ?_)
      clear hK K hH
      have hH := hH2
      clear hH2
      try simp only [List.getElem_toArray, List.getElem_cons_succ, List.getElem_cons_zero, Act.put, List.setIfInBounds_toArray, List.set_cons_zero, List.set_cons_succ]
      clear hg3
      refine wpAnyH_take (i := 8) (v := .agg #[.slice a3 qx.length c3, .int .i64 qo, .int .i64 qw]) rfl (by kernel_rfl) (by kernel_rfl) (by kernel_rfl) (fun _ _ _ h => h) (Or.inl ⟨by rfl, ?_⟩) hH ?_
      · intro w9 hw9
        go_simp
      try simp only [List.getElem_toArray, List.getElem_cons_succ, List.getElem_cons_zero, Act.put, List.setIfInBounds_toArray, List.set_cons_zero, List.set_cons_succ]
      refine wpAnyH_ready (rs := [9]) (by kernel_rfl) (by simp) ?_
      refine AllReadyH.cons rfl (fun K hK => ?_) AllReadyH.nil
      go_simp
      refine hK.out _ _ ⟨((Grow.refl w3).alloc _).blk hH.1, hH.2.alloc _⟩ (fun hH2 => ?_)
      clear hK K hH
      have hH := hH2
      clear hH2
      try simp only [List.getElem_toArray, List.getElem_cons_succ, List.getElem_cons_zero, Act.put, List.setIfInBounds_toArray, List.set_cons_zero, List.set_cons_succ]
      have hg34 : Grow w3 (w3.alloc (.cells #[.slice a3 qx.length c3, .int .i64 qo, .int .i64 qw] 101)) := (Grow.refl w3).alloc _
      have HO4 := Lib.hid (HO2.out.grow (HG3.out.trans hg34))
      refine wpAnyH_ready (rs := [10]) (by kernel_rfl) (by simp) ?_
      refine AllReadyH.cons rfl (fun K hK => ?_) AllReadyH.nil
      refine step_appB rfl (.tmp 14) (.tmp 23) 36 rfl w1.heap.size 101 Tryz.underlying36 b_info_ts rfl (by decide) (by decide) encTq encTq_len encTq_one u3 L (by simp [Act.eval]) HO4.out.row ⟨w3.heap.size, 0, none⟩ (⟨a3, qx.length, c3, qx, qo, qw⟩ : Tq) 1 (by simp [Act.eval] <;> rfl) (news_blk (heap_alloc_new w3 (.cells #[.slice a3 qx.length c3, .int .i64 qo, .int .i64 qw] 101))) HLE.out hH.2.sz ?_
      intro v6 w6 hown6 hgr6 hat6
      have HG6 := Lib.hid (show Grow w1 w6 from grown_below HO4.out.row hgr6 (Nat.le_refl _) hH.2.sz hH.2)
      have hkx : w6.heap[x]? = some (.cells #[.slice qa qn qc, .int .i64 qo, .int .i64 qw] 101 (0, 0)) := by
        rw [hgr6.block x (lt_of_block hH.1) (fun e => by have h1 := HOWL.out x e.symm; omega)]
        exact hH.1
      have HO6 := Lib.hid (HO4.out.app (t := (⟨a3, qx.length, c3, qx, qo, qw⟩ : Tq)) hgr6 hown6 hat6 (HS3.out.grow hg34) fun b o s hb => ⟨(HB1.out b o s hb).1, Nat.lt_of_lt_of_le (HB1.out b o s hb).2.1 hg34.sz, (HB1.out b o s hb).2.2⟩)
      clear hown6 hgr6 hat6 hg34
      refine hK.out _ _ ⟨hkx, HG6.out⟩ (fun hH2 => ?_)
      clear hK K hH
      have hH := hH2
      clear hH2
      try simp only [List.getElem_toArray, List.getElem_cons_succ, List.getElem_cons_zero, Act.put, List.setIfInBounds_toArray, List.set_cons_zero, List.set_cons_succ]
      clear hkx
      refine wpAnyH_take (i := 11) (v := v6) rfl (by kernel_rfl) (by kernel_rfl) (by kernel_rfl) (fun _ _ _ h => h) (Or.inl ⟨by rfl, ?_⟩) hH ?_
      · intro w9 hw9
        go_simp
      try simp only [List.getElem_toArray, List.getElem_cons_succ, List.getElem_cons_zero, Act.put, List.setIfInBounds_toArray, List.set_cons_zero, List.set_cons_succ]
      refine wpAnyH_done (by kernel_rfl) ?_ _
      clear hH
      go_wp2_with fail
      go_roundw
      case rel => exact ⟨k + 1, L ++ [⟨a3, qx.length, c3, qx, qo, qw⟩], by omega, by go_num, HG6.out, HO6.out, by rw [HLN.out, List.map_append, HLX.out]; rfl⟩
      case measure => simp [intOf]; omega
    · obtain rfl : k = s.tests.length := by omega
      have hltz : ¬ (s.tests.length : Int) < (s.tests.length : Int) := by omega
      have hLx := HLX.out
      rw [List.take_length] at hLx
      have HF := Lib.hid (HR.out wr _ w1.heap.size L (HG1.out.trans HG.out) HG1.out.sz HOW.out hLx)
      clear hLx
      go_wp2_with fail
      exact HF.out
end Go.Proofs.YtgjppekjkofdiaaGreatDoor

namespace Go.Proofs.YtgjppekjkofdiaaGreatDoor
open Go.RowKit

theorem failT {p : List Ln} {T : List Tq} {ts : List Tst} (h : T.map Tq.p = ts) : ifOK (chkT p (T.map Tq.t)) (whereL (fun t => !passM p t) (T.map Tq.t)) = failB p ts := by
  rw [← h, ← noV_t, failB_noV]; rfl
theorem chkT_q {p : List Ln} {T : List Tq} {ts : List Tst} (h : T.map Tq.p = ts) : chkT p (T.map Tq.t) = chkT p ts := by rw [← h, ← noV_t, chkT_noV]
set_option maxRecDepth 100000 in
set_option maxHeartbeats 8000000 in
theorem Stands_any (H : Nat → Bool) (B : Nat) (s : Bn) (p : List Ln) (v : Value) (w : World) (h : BnAt H B w s) (ok : OkB s) (hp : LinesAt w v p) (h0 : s.progs[0]? = some p) (R : Ending → World → Prop)
    (hR : ∀ w', Grow w w' → R (.returned (.bool true)) w') :
    Calls Tryz.prog 23 #[.pointer (some ⟨B, 0, none⟩), v] w R := by
  have HR := Lib.hid hR
  have HH := Lib.hid h
  have HOK := Lib.hid ok
  have HP := Lib.hid hp
  have HPL := Lib.hid (play_all ok h0)
  have HHO := Lib.hid (hist_ok ok h0)
  have HPV := Lib.hid (ok.val p (List.mem_of_getElem? h0))
  clear hR h ok hp h0
  go_enter Tryz.func23, Tryz.ntmps23
  go_wp2_with fail
  refine Program_any H B s _ HH.out HOK.out _ ?_
  intro w1 pv base1 hg1 hb1 ho1
  have HP1 := Lib.hid (show LinesAt w1 pv s.prog from slc_of_owns encL_len ho1)
  have HG1 := Lib.hid hg1
  have HH1 := Lib.hid (HH.out.grow hg1)
  clear hg1 hb1 ho1
  go_wp2_with fail
  refine Tests_any H B s _ HH1.out HOK.out _ ?_
  intro w2 tv base2 T hg2 hb2 ht2 hx2
  have HT2 := Lib.hid (show TestsAt w2 tv (T.map Tq.t) from ht2.at_.tests)
  have HTX := Lib.hid hx2
  have HG2 := Lib.hid (HG1.out.trans hg2)
  have HP2 := Lib.hid (HP1.out.grow hg2)
  have HH2 := Lib.hid (HH1.out.grow hg2)
  have htl : (T.map Tq.t).length = s.tests.length := by rw [List.length_map, ← hx2, List.length_map]
  have ht8 := HOK.out.t8
  obtain ⟨ta, tc, rfl, t1, t2, jkt⟩ := HT2.out.at_
  rw [htl] at t1 ⊢
  have HT2b := Lib.hid (show TestsAt w2 (.slice ta s.tests.length tc) (T.map Tq.t) by rw [← htl]; exact HT2.out)
  clear hg2 hb2 ht2 hx2 jkt HT2 HP1 HH1
  go_wp2_with fail
  refine Locked_any H B s _ HH2.out HOK.out _ ?_
  intro w3 lv base3 hg3 hb3 ho3
  have HL3 := Lib.hid (show IntsAt w3 lv s.lk from slc_of_owns encI_len ho3)
  have HG3 := Lib.hid (HG2.out.trans hg3)
  have HG23 := Lib.hid hg3
  have HP3 := Lib.hid (HP2.out.grow hg3)
  have HH3 := Lib.hid (HH2.out.grow hg3)
  obtain ⟨la, lc, rfl, l1, l2, jkl⟩ := slc_of_owns encI_len ho3
  clear hg3 hb3 ho3 jkl HP2 HH2
  go_wp2_with fail
  refine Failing9_any H B s _ HH3.out HOK.out _ ?_
  intro w4 fv base4 hg4 hb4 ho4
  have HF4 := Lib.hid (show IntsAt w4 fv (failB s.prog s.tests) from ho4.slc encI_len)
  have HG4 := Lib.hid (HG3.out.trans hg4)
  have HG24 := Lib.hid (HG23.out.trans hg4)
  have HP4 := Lib.hid (HP3.out.grow hg4)
  have HL4 := Lib.hid (HL3.out.grow hg4)
  have HH4 := Lib.hid (HH3.out.grow hg4)
  obtain ⟨fa, fc, rfl, f1, f2, jkf⟩ := HF4.out
  clear hg4 hb4 ho4 jkf HP3 HH3 HL3
  go_wp2_with fail
  refine History_any H B s _ HH4.out HOK.out _ ?_
  intro w5 hv base5 L hg5 hb5 hn5 hl5 hx5
  have HG5 := Lib.hid (HG4.out.trans hg5)
  have HG25 := Lib.hid (HG24.out.trans hg5)
  have HP5 := Lib.hid (HP4.out.grow hg5)
  have HL5 := Lib.hid (HL4.out.grow hg5)
  have HF5 := Lib.hid (HF4.out.grow hg5)
  have HHL := Lib.hid hl5
  have HHX := Lib.hid hx5
  have hLl : L.length = s.hist.length := by rw [← hx5]; simp
  have h8 := HOK.out.h8
  obtain ⟨ha, hc, rfl, h1, h2, jkh⟩ := hl5.at_
  rw [hLl] at h1 ⊢
  have HHLb := Lib.hid (show LlAt 5 encE w5 (.slice ha s.hist.length hc) L by rw [← hLl]; exact HHL.out)
  clear hg5 hb5 hn5 hl5 hx5 jkh HP4 HH4 HL4 HF4 HHL hLl
  go_wp2_with fail
  refine Play_any p s.hist L _ _ _ (HP.out.grow HG5.out) HHLb.out HHX.out HPV.out h8 HHO.out _ ?_
  intro w6 qv hg6 hq6
  rw [HPL.out] at hq6
  have HQ6 := Lib.hid hq6
  have HG6 := Lib.hid (HG5.out.trans hg6)
  have HG26 := Lib.hid (HG25.out.trans hg6)
  have HP6 := Lib.hid (HP5.out.grow hg6)
  have HL6 := Lib.hid (HL5.out.grow hg6)
  have HF6 := Lib.hid (HF5.out.grow hg6)
  clear hg6 hq6 HP5 HL5 HF5
  go_wp2_with fail
  refine Failing_any s.prog (T.map Tq.t) _ _ _ HP6.out ⟨HT2b.out.at_.grow HG26.out, fun t ht => (HT2b.out.ins t ht).grow HG26.out⟩ _ ?_
  intro w7 x7 hg7 hx7
  rw [failT HTX.out] at hx7
  rw [chkT_q HTX.out, HOK.out.chk]
  have HX7 := Lib.hid (show IntsAt w7 x7 (failB s.prog s.tests) from hx7.slc encI_len)
  have HG7 := Lib.hid (HG6.out.trans hg7)
  have HP7 := Lib.hid (HP6.out.grow hg7)
  have HL7 := Lib.hid (HL6.out.grow hg7)
  have HF7 := Lib.hid (HF6.out.grow hg7)
  have HQ7 := Lib.hid (HQ6.out.grow hg7)
  clear hg7 hx7 HP6 HL6 HF6 HQ6
  go_wp2_with fail
  refine rsame4_any s.prog s.prog _ _ _ HP7.out HQ7.out _ ?_
  intro w8 hg8
  rw [decide_eq_true (rfl : s.prog = s.prog)]
  have HG8 := Lib.hid (HG7.out.trans hg8)
  have HL8 := Lib.hid (HL7.out.grow hg8)
  have HF8 := Lib.hid (HF7.out.grow hg8)
  have HX8 := Lib.hid (HX7.out.grow hg8)
  clear hg8 HP7 HQ7 HL7 HF7 HX7
  go_wp2_with fail
  refine rsameI4_any (failB s.prog s.tests) (failB s.prog s.tests) _ _ _ HX8.out HF8.out _ ?_
  intro w9 hg9
  rw [decide_eq_true (rfl : failB s.prog s.tests = failB s.prog s.tests)]
  have HG9 := Lib.hid (HG8.out.trans hg9)
  have HL9 := Lib.hid (HL8.out.grow hg9)
  have HF9 := Lib.hid (HF8.out.grow hg9)
  have t8z : decide ((s.tests.length : Int) > 8) = false := by rw [decide_eq_false_iff_not]; omega
  have h8z : decide ((s.hist.length : Int) > 8) = false := by rw [decide_eq_false_iff_not]; omega
  clear hg9 HL8 HF8 HX8
  go_wp2_with fail
  go_loopw [14] (fun s8 wr => ∃ k : Nat, k ≤ s.lk.length ∧ s8 = .int .i64 k ∧ Grow w9 wr) (fun s8 _ => s.lk.length - (intOf s8).toNat)
  case atStart => exact ⟨0, Nat.zero_le _, rfl, Grow.refl _⟩
  case round =>
  obtain ⟨k, hk, rfl, hgr⟩ := hrel
  have HGR := Lib.hid hgr
  clear hgr
  by_cases hlt : k < s.lk.length
  · have hltz : (k : Int) < (s.lk.length : Int) := by omega
    obtain ⟨x, hx⟩ : ∃ x, s.lk[k]? = some x := ⟨_, List.getElem?_eq_getElem hlt⟩
    obtain ⟨b, o, rfl, hbl, y0⟩ := ints_at (HL9.out.grow HGR.out) hx
    obtain ⟨s1, s2, s3⟩ := lock_stands HOK.out (List.mem_of_getElem? hx)
    have HC := Lib.hid (show (failB s.prog s.tests).contains x = false by rw [← Bool.not_eq_true, List.contains_iff_mem]; exact s3)
    have s1z : decide (x < 0) = false := by rw [decide_eq_false_iff_not]; omega
    have s2z : decide (x ≥ (s.tests.length : Int)) = false := by rw [decide_eq_false_iff_not]; omega
    clear hx s3
    go_wp2_with fail
    refine has4_any (failB s.prog s.tests) x _ _ (HF9.out.grow HGR.out) _ ?_
    intro w10 hg10
    rw [HC.out]
    have HG10 := Lib.hid (HGR.out.trans hg10)
    clear hg10 y0
    go_wp2_with fail
    go_roundw
    case rel => exact ⟨k + 1, by omega, by go_num, HG10.out⟩
    case measure => simp [intOf]; omega
  · obtain rfl : k = s.lk.length := by omega
    have hltz : ¬ (s.lk.length : Int) < (s.lk.length : Int) := by omega
    have HF := Lib.hid (HR.out wr (HG9.out.trans HGR.out))
    go_wp2_with fail
    exact HF.out
end Go.Proofs.YtgjppekjkofdiaaGreatDoor

namespace Go.Proofs.YtgjppekjkofdiaaGreatDoor
open Go.RowKit

/-- A list that the call has made behind a bench stays while the bench changes. -/
theorem row_chg {base : Nat} {T : TypeId} {k n : Nat} {w w' : World} {v : Value} {l : List Value} {B : Nat} (h : w.ownsRow base T k v n l) (c : Chg B w w') (hB : B < base) : w'.ownsRow base T k v n l := by
  obtain ⟨h1, h2⟩ := h
  refine ⟨h1, h2.imp id ?_⟩
  rintro ⟨g, cap, cur, a, b, d, e⟩
  exact ⟨g, cap, cur, a, b, c.blk (by omega) d, e⟩
theorem Chg.slc {α : Type} {k : Nat} {enc : α → List Value} {w w' : World} {v : Value} {xs : List α} {B : Nat} (c : Chg B w w') (h : SlcAt k enc w v xs) (hB : ∀ a n m, v = .slice (some a) n m → a.block ≠ B) : SlcAt k enc w' v xs :=
  ((SlcAt.hide h (H := fun k => k == B) fun _ _ n m e => .inl (beq_eq_false_iff_ne.2 (hB _ n m e))).grow c).unhide
/-- One more bench is hidden from a bench. -/
theorem BnAt.more {H : Nat → Bool} {B N : Nat} {w w' : World} {s s2 : Bn} (h : BnAt H B w s) (g : Grow w w') (hN : w.heap.size ≤ N) (h2 : BnAt (fun k => k == N) N w' s2) : BnAt (hidN H N) B w' s := by
  obtain ⟨V, hb, hs⟩ := h.blk
  have hNl := h2.hid.bd N (by simp)
  refine ⟨⟨by unfold hidN; rw [h.hid.hH]; rfl, fun k hk => ?_⟩, V, g.blk hb, hs.grow (g.hidN hN)⟩
  unfold hidN at hk
  rw [Bool.or_eq_true] at hk
  rcases hk with hk | hk
  · exact Nat.lt_of_lt_of_le (h.hid.bd k hk) g.sz
  · have := beq_iff_eq.1 hk; omega
/-- Fewer blocks are hidden. -/
theorem BnAt.only {H : Nat → Bool} {B : Nat} {w : World} {s : Bn} (h : BnAt H B w s) : BnAt (fun k => k == B) B w s := by
  obtain ⟨V, hb, hs⟩ := h.blk
  refine ⟨⟨by simp, fun k hk => by obtain rfl := beq_iff_eq.1 hk; exact h.hid.bd _ h.hid.hH⟩, V, hb, ?_⟩
  have e : hideW H w = hideW H (hideW (fun k => k == B) w) := by
    rw [hide_hide]
    congr 1
    funext k
    by_cases hk : k = B
    · subst hk; rw [h.hid.hH]; simp
    · rw [show (k == B) = false by simpa using hk, Bool.false_or]
  rw [e] at hs
  exact hs.unhide
/-- A row that is hidden from a bench grows by one more element: it stays hidden, in its block or in a new one. -/
theorem BnAt.row {H : Nat → Bool} {B : Nat} {w w' : World} {s : Bn} {v v' : Value} (h : BnAt H B w s) (hv : ∀ b, v.ownBlock = some b → H b = true ∧ b ≠ B) (hgr : w.grownBy w' v.ownBlock) (hlt : ∀ b, v'.ownBlock = some b → b < w'.heap.size) (hat : v'.ownBlock = v.ownBlock ∨ v'.ownBlock = some w.heap.size) :
    ∃ H', BnAt H' B w' s ∧ ∀ b, v'.ownBlock = some b → H' b = true ∧ b ≠ B := by
  obtain ⟨V, hb, hs⟩ := h.blk
  have hBl := h.hid.bd B h.hid.hH
  have hb' : w'.heap[B]? = some (.cells (bnCells V s) 93 (0, 0)) := by
    rw [hgr.block B hBl (fun e => (hv B e.symm).2 rfl)]; exact hb
  have hsz := hgr.size
  have g : ∀ H' : Nat → Bool, (∀ k, k < w.heap.size → H' k = H k) → Grow (hideW H w) (hideW H' w') := fun H' hH' => by
    refine ⟨hgr.os, hgr.tape, hgr.output, by rw [hide_size, hide_size]; exact hsz, fun k hk => ?_⟩
    rw [hide_size] at hk
    rw [hide_heap, hide_heap, hH' k hk]
    by_cases hne : some k ≠ v.ownBlock
    · rw [hgr.block k hk hne]
    · have hk2 : H k = true := (hv k (Classical.not_not.1 hne).symm).1
      rw [hk2, Array.getElem?_eq_getElem hk, Array.getElem?_eq_getElem (Nat.lt_of_lt_of_le hk hsz)]; rfl
  refine ⟨fun k => H k || (v'.ownBlock == some k), ⟨⟨by rw [h.hid.hH]; rfl, fun k hk => ?_⟩, V, hb', hs.grow (g _ fun k hk => ?_)⟩, fun b hb2 => ⟨by rw [hb2]; simp, ?_⟩⟩
  · rw [Bool.or_eq_true] at hk
    rcases hk with hk | hk
    · exact Nat.lt_of_lt_of_le (h.hid.bd k hk) hsz
    · exact hlt k (beq_iff_eq.1 hk)
  · cases hh : H k with
    | true => rfl
    | false =>
      show (false || (v'.ownBlock == some k)) = false
      rw [Bool.false_or, beq_eq_false_iff_ne]
      intro e
      rcases hat with h1 | h1
      · rw [h1] at e; rw [(hv k e).1] at hh; cases hh
      · rw [h1] at e; have := Option.some.inj e; omega
  · rcases hat with h1 | h1
    · rw [h1] at hb2; exact (hv b hb2).2
    · rw [h1] at hb2; have := Option.some.inj hb2; omega
end Go.Proofs.YtgjppekjkofdiaaGreatDoor

namespace Go.Proofs.YtgjppekjkofdiaaGreatDoor
open Go.RowKit

set_option maxRecDepth 100000 in
set_option maxHeartbeats 8000000 in
theorem benchStands_any (p : List Ln) (l : List ByteArray) (w : World) (v0 v1 : Value) (hg : Glob w) (hp : LinesAt w v0 p) (hl : TextsAt w v1 l) (R : Ending → World → Prop) (hR : ∀ w', Grow w w' → R (.returned (.bool true)) w') :
    Calls Tryz.prog 4 #[v0, v1] w R := by
  have HR := Lib.hid hR
  have HG := Lib.hid hg
  have HP := Lib.hid hp
  have HL := Lib.hid hl
  have hgs := hg.size
  clear hR hg hp hl
  go_enter Tryz.func4, Tryz.ntmps4
  go_wp2_with fail
  refine long49_any p _ _ HP.out _ ?_
  cases hlg : decide (100 < p.length) with
  | true =>
    go_wp2_with fail
    refine sane_any _ HG.out _ ?_
    intro w2 hg2
    have HF := Lib.hid (HR.out w2 hg2)
    clear hg2
    go_wp2_with fail
    exact HF.out
  | false =>
  have hpl : p.length ≤ 100 := by have := of_decide_eq_false hlg; omega
  clear hlg
  go_wp2_with fail
  refine Long9_any l _ _ HL.out _ ?_
  intro w1 hg1
  have HG1 := Lib.hid hg1
  clear hg1
  cases hlg : lngT l with
  | true =>
    go_wp2_with fail
    refine sane_any _ (HG.out.grow HG1.out) _ ?_
    intro w2 hg2
    have HF := Lib.hid (HR.out w2 (HG1.out.trans hg2))
    clear hg2
    go_wp2_with fail
    exact HF.out
  | false =>
  obtain ⟨hsz, hlen⟩ := lngT_no hlg
  have HSZ := Lib.hid hsz
  clear hlg hsz
  go_wp2_with fail
  refine Begin_any p _ _ (HP.out.grow HG1.out) (by omega) _ ?_ ?_
  · intro h0 w2 hg2
    have HG2 := Lib.hid (HG1.out.trans hg2)
    have H0 := Lib.hid h0
    clear hg2 h0
    go_wp2_with fail
    refine failed9_any p _ _ (HG.out.grow HG2.out) (HP.out.grow HG2.out) (by omega) H0.out _ ?_
    intro w3 hg3
    have HF := Lib.hid (HR.out w3 (HG2.out.trans hg3))
    clear hg3
    go_wp2_with fail
    exact HF.out
  intro h0 w2 B ra hg2 hB hb
  have HG2 := Lib.hid (HG1.out.trans hg2)
  have HB2 := Lib.hid hb
  have H0 := Lib.hid h0
  have hwB : w.heap.size ≤ B := Nat.le_trans HG1.out.sz hB
  have hBl := hb.hid.bd B (by simp)
  have HLT := Lib.hid hBl
  clear hg2 hb hB h0
  go_wp2_with fail
  refine few_any l _ _ (HL.out.grow HG2.out) _ ?_
  intro w3 v3 hg3 ht3 hv3
  have hoff := texts_off HL.out hwB ht3 hv3 hBl
  obtain ⟨ls, hls⟩ : ∃ z, l.take 24 = z := ⟨_, rfl⟩
  have hlsz : ∀ t ∈ ls, t.size < 4294967281 := fun t ht => by
    rw [← hls] at ht
    have := HSZ.out t (List.mem_of_mem_take ht)
    omega
  rw [hls] at ht3 hoff
  have HLS := Lib.hid hlsz
  have HLL := Lib.hid (show ls.length ≤ 24 by rw [← hls, List.length_take]; omega)
  have HT := Lib.hid hoff
  have HG3 := Lib.hid (HG2.out.trans hg3)
  have HB3 := Lib.hid (HB2.out.grow hg3)
  obtain ⟨va, vc, rfl, a1, a2, jk⟩ := ht3
  have hB4 : 4 < B := by omega
  have HN0 := Lib.hid (OkB.new H0.out)
  clear hg3 hv3 hoff hlsz jk hls HB2
  go_wp2_with fail
  go_loopw [8] (fun s8 wr => ∃ k : Nat, k ≤ ls.length ∧ s8 = .int .i64 k ∧ Chg B w3 wr ∧ BnAt (fun k => k == B) B wr (dosB (newB p) (ls.take k))) (fun s8 _ => ls.length - (intOf s8).toNat)
  case atStart => exact ⟨0, Nat.zero_le _, rfl, chg_refl B w3, HB3.out⟩
  case round =>
  obtain ⟨k, hk, rfl, hc, hbn⟩ := hrel
  have HC := Lib.hid hc
  have HBN := Lib.hid hbn
  have HGW := Lib.hid (chg_grow HG3.out hc hwB)
  clear hc hbn
  by_cases hlt : k < ls.length
  · have hltz : (k : Int) < (ls.length : Int) := by omega
    obtain ⟨u, hu⟩ : ∃ u, ls[k]? = some u := ⟨_, List.getElem?_eq_getElem hlt⟩
    obtain ⟨b, o, rfl, hbl, y0⟩ := texts_at (show TextsAt wr _ ls from (HT.out.grow HC.out).unhide) hu
    have hus := HLS.out u (List.mem_of_getElem? hu)
    have HU := Lib.hid hu
    clear hu
    go_wp2_with fail
    refine bDo_any (fun k => k == B) B u hus (dosB (newB p) (ls.take k)) _ (HG.out.grow HGW.out) HBN.out (HN0.out.dos _) hB4 _ ?_
    intro w5 hc5 hb5
    have HC5 := Lib.hid (HC.out.trans hc5)
    have HB5 := Lib.hid (show BnAt (fun k => k == B) B w5 (dosB (newB p) (ls.take (k + 1))) by rw [dos_snoc HU.out]; exact hb5)
    obtain ⟨e, he⟩ : ∃ e, (doB (dosB (newB p) (ls.take k)) u).1 = e := ⟨_, rfl⟩
    rw [he]
    clear he hc5 hb5
    go_wp2_with fail
    refine Stands_any (fun k => k == B) B _ p _ _ HB5.out (HN0.out.dos _) (HP.out.grow (chg_grow HG3.out HC5.out hwB)) (by rw [head_dos HN0.out]; rfl) _ ?_
    intro w6 hg6
    have HC5b := Lib.hid (HC5.out.trans (Chg.of_grow hg6))
    have HB5b := Lib.hid (HB5.out.grow hg6)
    clear HC5 HB5 hg6
    have HC5 := HC5b
    have HB5 := HB5b
    clear HC5b HB5b
    go_wp2_with fail
    go_roundw
    case rel => exact ⟨k + 1, by omega, by go_num, HC5.out, HB5.out⟩
    case measure => simp [intOf]; omega
  obtain rfl : k = ls.length := by omega
  have hltz : ¬ (ls.length : Int) < (ls.length : Int) := by omega
  have HOK := Lib.hid ((HN0.out.dos ls))
  have HREP := Lib.hid ((RepB.new p).dos ls)
  have HORD := Lib.hid (show (dosB (newB p) ls).orders.length < 79 by have h1 := orders_dos (newB p) ls; have h2 : (newB p).orders.length = 0 := rfl; have := HLL.out; omega)
  have hbn := HBN.out
  rw [List.take_length] at hbn
  obtain ⟨S, hS⟩ : ∃ z, dosB (newB p) ls = z := ⟨_, rfl⟩
  rw [hS] at HOK HORD HREP hbn
  have HBS := Lib.hid hbn
  clear hbn hS HBN

  go_wp2_with fail
  refine sane_any _ (HG.out.grow HGW.out) _ ?_
  intro w6 hg6
  have HF := Lib.hid (HR.out w6 (HGW.out.trans hg6))
  clear hg6
  go_wp2_with fail
  exact HF.out
end Go.Proofs.YtgjppekjkofdiaaGreatDoor
