/-
The walks of the document's Text and Write.
The walk of the document's Read.
The walks of Merge, the program's and the document's.
-/
import Derived.Test.YtihdpbfhkddpcaaGreatDoorG45
import Derived.RegionTactic
import Derived.Deep.RegionHeld3
import Derived.Test.YtihdpbfhkddpcaaGreatDoorG44
import Derived.Test.YtihdpbfhkddpcaaGreatDoorG27
import Derived.BigQuiet
namespace Go.Proofs.YtihdpbfhkddpcaaGreatDoor
open Go.RowKit

set_option maxRecDepth 100000 in
set_option maxHeartbeats 4000000 in
theorem rText_any (l : List ByteArray) (v : Value) (w : World) (hg : Glob w) (hl : TextsAt w v l) (hsz : ∀ t ∈ l, t.size ≤ 1000000) (hn : l.length ≤ 100000) (R : Ending → World → Prop)
    (hR : ∀ w', Grow w w' → R (.returned (.string (tb (bkS l)))) w') :
    Calls Tryz.prog 46 #[v] w R := by
  have HR := Lib.hid hR
  have HG := Lib.hid hg
  have HL := Lib.hid hl
  have HSZ := Lib.hid hsz
  obtain ⟨va, vc, rfl, v1, v2, jk⟩ := hl
  clear hR hg hsz jk
  go_enter Tryz.func46, Tryz.ntmps46
  go_wp2_with fail
  go_loopw [3, 4, 5] (fun s3 s4 s5 wr => ∃ k : Nat, k ≤ l.length ∧ s5 = .int .i64 k ∧ s4 = .int .i64 (bkQ (l.take k)) ∧ s3 = .string (tb (bkS (l.take k))) ∧ Grow w wr) (fun _ _ s5 _ => l.length - (intOf s5).toNat)
  case atStart => exact ⟨0, Nat.zero_le _, rfl, rfl, rfl, Grow.refl w⟩
  case round =>
    obtain ⟨k, hk, rfl, rfl, rfl, hg⟩ := hrel
    have HGR := Lib.hid hg
    have hbl := book_len l HSZ.out k hk
    clear hg
    by_cases hlt : k < l.length
    · have hltz : (k : Int) < (l.length : Int) := by omega
      obtain ⟨t, ht⟩ : ∃ t, l[k]? = some t := ⟨_, List.getElem?_eq_getElem hlt⟩
      obtain ⟨b, o, rfl, hb, y0⟩ := texts_at (HL.out.grow HGR.out) ht
      obtain ⟨q, hq⟩ : ∃ q, bkQ (l.take k) = q := ⟨_, rfl⟩
      obtain ⟨q0, q1⟩ := bkQ_bd (l.take k)
      obtain ⟨e1, e2⟩ := bk_snoc ht
      have hts := HSZ.out t (List.mem_of_getElem? ht)
      have htl : (dl t).length = t.size := (tx_len t).symm
      obtain ⟨s0, s1⟩ := Bk.sumL_bd (dl t) (hq ▸ q0) (hq ▸ q1)
      rw [hq] at q0 q1 e1 e2 ⊢
      obtain ⟨out, hout⟩ : ∃ z, bkS (l.take k) = z := ⟨_, rfl⟩
      rw [hout] at e2 hbl ⊢
      obtain ⟨sm, hsm⟩ : ∃ z, Bk.sumL q (dl t) = z := ⟨_, rfl⟩
      rw [hsm] at e1 e2 s0 s1
      have HE1 := Lib.hid e1
      have HE2 := Lib.hid e2
      have HSM := Lib.hid (show Bk.sumL q t.data.toList = sm from hsm)
      clear ht e1 e2 hq hout hsm
      go_wp2_with fail
      refine rSum_any q t _ (by omega) _ ?_
      intro w1 hg1
      rw [Bk.sumS_of q0 q1, HSM.out]
      have HG1 := Lib.hid (HGR.out.trans hg1)
      have y1 := Grow.cell hg1 y0
      have hil := Lib.itoa_length_le sm (by omega) (by omega)
      have htbo := tb_size out
      clear hg1
      go_wp2_with fail
      refine wp_region_held_drew (S := fun X => Grow w1 X) (by kernel_rfl) ((Grow.refl w1).drew) (fun hH => ?_)
      refine wpAnyH_take (i := 0) (v := .string (tb out)) rfl (by kernel_rfl) (by kernel_rfl) (by kernel_rfl) (fun _ _ _ h => h) (Or.inl ⟨by rfl, ?_⟩) hH ?_
      · intro w9 hw9
        go_simp
      try simp only [List.getElem_toArray, List.getElem_cons_zero, Act.put, List.setIfInBounds_toArray, List.set_cons_zero, List.set_cons_succ]
      refine wpAnyH_take (i := 1) (v := .int .i64 sm) rfl (by kernel_rfl) (by kernel_rfl) (by kernel_rfl) (fun _ _ _ h => h) (Or.inl ⟨by rfl, ?_⟩) hH ?_
      · intro w9 hw9
        go_simp
      try simp only [List.getElem_toArray, List.getElem_cons_succ, List.getElem_cons_zero, Act.put, List.setIfInBounds_toArray, List.set_cons_zero, List.set_cons_succ]
      refine wpAnyH_take (i := 4) (v := .slice (some ⟨b, o, none⟩) l.length vc) rfl (by kernel_rfl) (by kernel_rfl) (by kernel_rfl) (fun _ _ _ h => h) (Or.inl ⟨by rfl, ?_⟩) hH ?_
      · intro w9 hw9
        go_simp
      try simp only [List.getElem_toArray, List.getElem_cons_succ, List.getElem_cons_zero, Act.put, List.setIfInBounds_toArray, List.set_cons_zero, List.set_cons_succ]
      refine wpAnyH_take (i := 5) (v := .int .i64 k) rfl (by kernel_rfl) (by kernel_rfl) (by kernel_rfl) (fun _ _ _ h => h) (Or.inl ⟨by rfl, ?_⟩) hH ?_
      · intro w9 hw9
        go_simp
      try simp only [List.getElem_toArray, List.getElem_cons_succ, List.getElem_cons_zero, Act.put, List.setIfInBounds_toArray, List.set_cons_zero, List.set_cons_succ]
      refine wpAnyH_take (i := 6) (v := .pointer (some ⟨b, o + k, none⟩)) rfl (by kernel_rfl) (by kernel_rfl) (by kernel_rfl) (fun _ _ _ h => h) (Or.inl ⟨by rfl, ?_⟩) hH ?_
      · intro w9 hw9
        go_simp
      try simp only [List.getElem_toArray, List.getElem_cons_succ, List.getElem_cons_zero, Act.put, List.setIfInBounds_toArray, List.set_cons_zero, List.set_cons_succ]
      refine wpAnyH_take (i := 7) (v := .string t) rfl (by kernel_rfl) (by kernel_rfl) (by kernel_rfl) (fun _ _ _ h => h) (Or.inl ⟨by rfl, ?_⟩) hH ?_
      · intro w9 hw9
        have y9 := Grow.cell hw9 y1
        go_simp
      try simp only [List.getElem_toArray, List.getElem_cons_succ, List.getElem_cons_zero, Act.put, List.setIfInBounds_toArray, List.set_cons_zero, List.set_cons_succ]
      refine wpAnyH_ready (rs := [2]) (by kernel_rfl) (by simp) ?_
      refine AllReadyH.cons rfl (fun K hK => ?_) AllReadyH.nil
      go_simp
      refine itoa_any sm (by omega) (by omega) _ (HG.out.grow (HG1.out.trans hH)) _ ?_
      intro w2 hg2
      go_wp2_with fail
      refine hK.out _ _ (hH.trans hg2) (fun hH2 => ?_)
      clear hK K hH
      have hH := hH2
      clear hH2
      try simp only [List.getElem_toArray, List.getElem_cons_succ, List.getElem_cons_zero, Act.put, List.setIfInBounds_toArray, List.set_cons_zero, List.set_cons_succ]
      clear hg2
      refine wpAnyH_take (i := 3) (v := .string ((⟨(Lib.itoa sm).toArray⟩ : ByteArray) ++ ⟨#[32]⟩)) rfl (by kernel_rfl) (by kernel_rfl) (by kernel_rfl) (fun _ _ _ h => h) (Or.inl ⟨by rfl, ?_⟩) hH ?_
      · intro w9 hw9
        go_simp
        omega
      try simp only [List.getElem_toArray, List.getElem_cons_succ, List.getElem_cons_zero, Act.put, List.setIfInBounds_toArray, List.set_cons_zero, List.set_cons_succ]
      refine wpAnyH_take (i := 8) (v := .string ((⟨(Lib.itoa sm).toArray⟩ : ByteArray) ++ ⟨#[32]⟩ ++ t)) rfl (by kernel_rfl) (by kernel_rfl) (by kernel_rfl) (fun _ _ _ h => h) (Or.inl ⟨by rfl, ?_⟩) hH ?_
      · intro w9 hw9
        go_simp
        omega
      try simp only [List.getElem_toArray, List.getElem_cons_succ, List.getElem_cons_zero, Act.put, List.setIfInBounds_toArray, List.set_cons_zero, List.set_cons_succ]
      refine wpAnyH_take (i := 9) (v := .string ((⟨(Lib.itoa sm).toArray⟩ : ByteArray) ++ ⟨#[32]⟩ ++ t ++ ⟨#[10]⟩)) rfl (by kernel_rfl) (by kernel_rfl) (by kernel_rfl) (fun _ _ _ h => h) (Or.inl ⟨by rfl, ?_⟩) hH ?_
      · intro w9 hw9
        go_simp
        omega
      try simp only [List.getElem_toArray, List.getElem_cons_succ, List.getElem_cons_zero, Act.put, List.setIfInBounds_toArray, List.set_cons_zero, List.set_cons_succ]
      refine wpAnyH_take (i := 10) (v := .string (tb out ++ ((⟨(Lib.itoa sm).toArray⟩ : ByteArray) ++ ⟨#[32]⟩ ++ t ++ ⟨#[10]⟩))) rfl (by kernel_rfl) (by kernel_rfl) (by kernel_rfl) (fun _ _ _ h => h) (Or.inl ⟨by rfl, ?_⟩) hH ?_
      · intro w9 hw9
        go_simp
        omega
      try simp only [List.getElem_toArray, List.getElem_cons_succ, List.getElem_cons_zero, Act.put, List.setIfInBounds_toArray, List.set_cons_zero, List.set_cons_succ]
      refine wpAnyH_take (i := 11) (v := .string (tb out ++ ((⟨(Lib.itoa sm).toArray⟩ : ByteArray) ++ ⟨#[32]⟩ ++ t ++ ⟨#[10]⟩))) rfl (by kernel_rfl) (by kernel_rfl) (by kernel_rfl) (fun _ _ _ h => h) (Or.inl ⟨by rfl, ?_⟩) hH ?_
      · intro w9 hw9
        go_simp
      try simp only [List.getElem_toArray, List.getElem_cons_succ, List.getElem_cons_zero, Act.put, List.setIfInBounds_toArray, List.set_cons_zero, List.set_cons_succ]
      refine wpAnyH_done (by kernel_rfl) ?_ _
      have HG2 := Lib.hid (HG1.out.trans hH)
      clear hH
      rw [line_tb, tb_app]
      go_wp2_with fail
      go_roundw
      case rel => exact ⟨k + 1, by omega, by go_num, by rw [HE1.out], by rw [HE2.out]; rfl, HG2.out⟩
      case measure => simp [intOf]; omega
    · have hk2 : k = l.length := by omega
      subst hk2
      have hltz : ¬ (l.length : Int) < (l.length : Int) := by omega
      have hf := HR.out wr HGR.out
      rw [List.take_length]
      have HF := Lib.hid hf
      clear hf
      go_wp2_with fail
      exact HF.out

set_option maxHeartbeats 4000000 in
theorem rWrite_any (l : List ByteArray) (v : Value) (w : World) (hg : Glob w) (hl : TextsAt w v l) (hsz : ∀ t ∈ l, t.size ≤ 1000000) (R : Ending → World → Prop)
    (hR : ∀ w', Grow w w' → R (.returned (.tuple #[.string (tb (wrS l)), .int .i64 (wrE l)])) w') :
    Calls Tryz.prog 25 #[v] w R := by
  have HR := Lib.hid hR
  have HG := Lib.hid hg
  have HL := Lib.hid hl
  have HSZ := Lib.hid hsz
  obtain ⟨va, vc, rfl, v1, v2, jk⟩ := hl
  clear hR hg hsz jk
  go_enter Tryz.func25, Tryz.ntmps25
  by_cases h80 : 80 < l.length
  · have hz : decide ((l.length : Int) > 80) = true := by rw [decide_eq_true_eq]; omega
    have hf := HR.out w (Grow.refl _)
    unfold wrS wrE at hf
    rw [if_pos h80, if_pos h80] at hf
    have HF := Lib.hid (show R (.returned (.tuple #[.string ⟨#[]⟩, .int .i64 3])) w from hf)
    clear hf
    go_wp2_with fail
    exact HF.out
  have hz : decide ((l.length : Int) > 80) = false := by rw [decide_eq_false_iff_not]; omega
  go_wp2_with fail
  go_loopw [4] (fun s11 wr => ∃ k : Nat, k ≤ l.length ∧ s11 = .int .i64 k ∧ Grow w wr ∧ ∀ t ∈ l.take k, Bk.okT (dl t) = true) (fun s11 _ => l.length - (intOf s11).toNat)
  case atStart => exact ⟨0, Nat.zero_le _, rfl, Grow.refl w, by simp⟩
  case round =>
    obtain ⟨k, hk, rfl, hg, hall⟩ := hrel
    have HGR := Lib.hid hg
    have HALL := Lib.hid hall
    clear hg hall
    by_cases hlt : k < l.length
    · have hltz : (k : Int) < (l.length : Int) := by omega
      obtain ⟨t, ht⟩ : ∃ t, l[k]? = some t := ⟨_, List.getElem?_eq_getElem hlt⟩
      obtain ⟨_, _, rfl, _, y0⟩ := texts_at (HL.out.grow HGR.out) ht
      have hts := HSZ.out t (List.mem_of_getElem? ht)
      have HT := Lib.hid ht
      clear ht
      go_wp2_with fail
      refine rRight_any t _ (by omega) _ ?_
      intro w1 hg1
      have HG1 := Lib.hid (HGR.out.trans hg1)
      rw [show t.data.toList = dl t from rfl]
      clear hg1
      cases hok : Bk.okT (dl t) with
      | false =>
        have hf := HR.out w1 HG1.out
        unfold wrS wrE at hf
        rw [if_neg h80, if_neg h80, okL_no HT.out hok] at hf
        have HF := Lib.hid (show R (.returned (.tuple #[.string ⟨#[]⟩, .int .i64 1])) w1 from hf)
        clear hf hok
        go_wp2_with fail
        exact HF.out
      | true =>
        have HOK := Lib.hid hok
        clear hok
        go_wp2_with fail
        go_roundw
        case rel =>
          refine ⟨k + 1, by omega, by go_num, HG1.out, fun u hu => ?_⟩
          rw [List.take_add_one, HT.out] at hu
          rcases List.mem_append.1 hu with hu | hu
          · exact HALL.out u hu
          · simp at hu; subst hu; exact HOK.out
        case measure => simp [intOf]; omega
    · have hk2 : k = l.length := by omega
      subst hk2
      have hltz : ¬ (l.length : Int) < (l.length : Int) := by omega
      have hoky : okL l = true := okL_yes (by have := HALL.out; rwa [List.take_length] at this)
      have HOKY := Lib.hid hoky
      clear hoky
      go_wp2_with fail
      refine rText_any l _ _ (HG.out.grow HGR.out) (HL.out.grow HGR.out) HSZ.out (by omega) _ ?_
      intro w2 hg2
      have hf := HR.out w2 (HGR.out.trans hg2)
      unfold wrS wrE at hf
      rw [if_neg h80, if_neg h80, HOKY.out, if_pos rfl, if_pos rfl] at hf
      have HF := Lib.hid hf
      clear hf hg2
      go_wp2_with fail
      exact HF.out
end Go.Proofs.YtihdpbfhkddpcaaGreatDoor

namespace Go.Proofs.YtihdpbfhkddpcaaGreatDoor
open Go.RowKit

/-! ### Where a byte stands -/
theorem cut_at {c : UInt8} {l : List UInt8} {j : Nat} (hj : l[j]? = some c) (hno : ∀ x ∈ l.take j, x ≠ c) : Bk.cutL c l = some (l.take j, l.drop (j + 1)) := by
  refine Bk.cutL_some.2 ⟨?_, fun h => hno c h rfl⟩
  have hlt := (List.getElem?_eq_some_iff.1 hj).1
  have he := (List.getElem?_eq_some_iff.1 hj).2
  rw [← he, ← List.drop_eq_getElem_cons hlt, List.take_append_drop]
theorem cut_no {c : UInt8} {l : List UInt8} (hno : ∀ x ∈ l.take l.length, x ≠ c) : Bk.cutL c l = none := by
  rw [List.take_length] at hno
  exact Bk.cutL_none.2 fun h => hno c h rfl
theorem take_no {c d : UInt8} {l : List UInt8} {j : Nat} (hj : l[j]? = some d) (hd : d ≠ c) (hno : ∀ x ∈ l.take j, x ≠ c) : ∀ x ∈ l.take (j + 1), x ≠ c := by
  intro x hx
  rw [List.take_add_one, hj] at hx
  rcases List.mem_append.1 hx with hx | hx
  · exact hno x hx
  · simp at hx; subst hx; exact hd
theorem tb_extract (l : List UInt8) (i j : Nat) : (tb l).extract i j = tb ((l.take j).drop i) := by
  apply tx_eq
  rw [tb_data]
  simp [tb, ByteArray.data_extract, List.drop_take]
theorem byte_get (l : List UInt8) (j : Nat) (h : j < (tb l).size) : l[j]? = some ((tb l)[j]) := by
  have h2 : j < l.length := by rwa [tb_size] at h
  rw [List.getElem?_eq_getElem h2]; rfl
theorem byte_ne {c : UInt8} {n : Nat} (hn : n < 256) (h : c ≠ UInt8.ofNat n) : (((c.toNat : Nat) : Int) != (n : Int)) = true := by
  rw [bne_iff_ne]
  intro e
  refine h (UInt8.toNat_inj.1 ?_)
  rw [UInt8.toNat_ofNat']
  omega

set_option maxRecDepth 100000 in
set_option maxHeartbeats 16000000 in
theorem rRead_any (b : ByteArray) (hb : b.size ≤ 1000000000) (w : World) (hg : Glob w) (R : Ending → World → Prop)
    (hR : ∀ w' v, Grow w w' → w'.ownsRow w.heap.size 9 1 v (((Bk.readL 80 0 b.data.toList).1.map tb)).length ((((Bk.readL 80 0 b.data.toList).1.map tb)).flatMap encTx) → R (.returned (.tuple #[v, .string (tb (Bk.readL 80 0 b.data.toList).2)])) w') :
    Calls Tryz.prog 20 #[.string b] w R := by
  have HR := Lib.hid hR
  have HG := Lib.hid hg
  clear hR hg
  go_enter Tryz.func20, Tryz.ntmps20
  go_wp2_with fail
  go_loopw [0, 4, 5] (fun s0 s4 s5 wr => ∃ (l : List (List UInt8)) (rest : List UInt8) (q : Int) (va : Option Addr) (vc : Nat), s0 = .string (tb rest) ∧ s4 = .slice va l.length vc ∧ s5 = .int .i64 q ∧ 0 ≤ q ∧ q < 1000003 ∧ l.length ≤ 80 ∧ rest.length ≤ b.size ∧ Grow w wr ∧
      wr.ownsRow w.heap.size 9 1 (.slice va l.length vc) (l.map tb).length ((l.map tb).flatMap encTx) ∧ (Bk.readL 80 0 b.data.toList).1 = l ++ (Bk.readL (80 - l.length) q rest).1 ∧ (Bk.readL 80 0 b.data.toList).2 = (Bk.readL (80 - l.length) q rest).2) (fun _ s4 _ _ => 80 - lenS s4)
  case atStart =>
    exact ⟨[], b.data.toList, 0, none, 0, by rw [tb_of], rfl, rfl, by decide, by decide, by decide, by rw [← tx_len]; exact Nat.le_refl _, Grow.refl _, World.ownsRow_nil _ _ _ _, rfl, rfl⟩
  case round =>
    obtain ⟨l, rest, q, va, vc, rfl, rfl, rfl, hq0, hq1, hl80, hrl, hg, ho, he1, he2⟩ := hrel
    have HO := Lib.hid ho
    have HGR := Lib.hid hg
    have HGL := Lib.hid (HG.out.grow hg)
    have HE1 := Lib.hid he1
    have HE2 := Lib.hid he2
    -- the loop is left
    have hfin : (Bk.readL (80 - l.length) q rest) = ([], rest) → ∀ wr', Grow wr wr' → R (.returned (.tuple #[.slice va l.length vc, .string (tb rest)])) wr' := fun hr wr' hgr => by
      have h1 := HE1.out
      have h2 := HE2.out
      rw [hr] at h1 h2
      simp only [List.append_nil] at h1
      have := HR.out wr' (.slice va l.length vc) (HGR.out.trans hgr)
      rw [h1, h2] at this
      exact this (hgr.owns HO.out)
    have HFIN := Lib.hid hfin
    clear ho hg he1 he2 hfin
    by_cases h80 : l.length < 80
    rotate_left
    · have h80z : ¬ (l.length : Int) < 80 := by omega
      have HF := Lib.hid (HFIN.out (by rw [show 80 - l.length = 0 by omega]; rfl) wr (Grow.refl _))
      go_wp2_with fail
      exact HF.out
    have h80z : (l.length : Int) < 80 := by omega
    obtain ⟨n, hn⟩ : ∃ n, 80 - l.length = n + 1 := ⟨79 - l.length, by omega⟩
    have hno := fun (hs : Bk.stepL q rest = none) => HFIN.out (by rw [hn, Bk.readL, hs])
    have HNO := Lib.hid hno
    have HN := Lib.hid hn
    have hbs : (tb rest).size = rest.length := tb_size rest
    have HBS := Lib.hid hbs
    clear hno hn hbs
    go_wp2_with fail
    go_loopw [7] (fun s7 wx => ∃ j : Nat, j ≤ rest.length ∧ s7 = .int .i64 j ∧ (∀ x ∈ rest.take j, x ≠ 10) ∧ wx = wr) (fun s7 _ => rest.length - (intOf s7).toNat)
    case atStart => exact ⟨0, Nat.zero_le _, rfl, by simp, rfl⟩
    case round =>
      obtain ⟨j, hj, rfl, hnj, rfl⟩ := hrel
      have HNJ := Lib.hid hnj
      clear hnj
      -- a byte that is no end of line
      by_cases hjl : j < rest.length
      · have hjs : j < (tb rest).size := by rw [HBS.out]; exact hjl
        have hjz : (j : Int) < ((tb rest).size : Int) := by omega
        have hgt := byte_get rest j hjs
        obtain ⟨c, hc⟩ : ∃ c, (tb rest)[j] = c := ⟨_, rfl⟩
        rw [hc] at hgt
        have HGT := Lib.hid hgt
        by_cases h10 : c = 10
        rotate_left
        · have hcb := byte_ne (n := 10) (by decide) h10
          have hcz : ¬ ((c.toNat : Nat) : Int) = 10 := by have := bne_iff_ne.1 hcb; omega
          clear hgt
          go_wp2_with fail
          go_roundw
          case rel => exact ⟨j + 1, by omega, by go_num, take_no HGT.out h10 HNJ.out, by trivial⟩
          case measure => simp [intOf]; omega
        subst h10
        have hct := cut_at HGT.out HNJ.out
        have HCT := Lib.hid hct
        clear hgt hct
        go_wp2_with fail
        go_loopw [6] (fun s6 wx => ∃ i : Nat, i ≤ j ∧ s6 = .int .i64 i ∧ (∀ x ∈ rest.take i, x ≠ 32) ∧ wx = wr) (fun s6 _ => j - (intOf s6).toNat)
        case atStart => exact ⟨0, Nat.zero_le _, rfl, by simp, rfl⟩
        case round =>
          obtain ⟨i, hi, rfl, hni, rfl⟩ := hrel
          have HNI := Lib.hid hni
          clear hni
          have htt : ∀ m, m ≤ j → (rest.take j).take m = rest.take m := fun m hm => by rw [List.take_take, Nat.min_eq_left hm]
          by_cases hij : i < j
          rotate_left
          · -- no blank
            obtain rfl : i = j := by omega
            have hiz : ¬ (i : Int) < (i : Int) := by omega
            have HF := Lib.hid (HNO.out (by unfold Bk.stepL; rw [HCT.out]; dsimp only; rw [cut_no (fun x hx => by rw [List.length_take, Nat.min_eq_left hj, htt i (Nat.le_refl _)] at hx; exact HNI.out x hx)]) wr (Grow.refl _))
            have hjn : ((i : Int) == ((tb rest).size : Int)) = false := by rw [beq_eq_false_iff_ne]; omega
            clear htt
            go_wp2_with fail
            exact HF.out
          have hijz : (i : Int) < (j : Int) := by omega
          have hgi := byte_get rest i (by rw [HBS.out]; omega)
          have his : i < (tb rest).size := by rw [HBS.out]; omega
          obtain ⟨d, hd⟩ : ∃ d, (tb rest)[i] = d := ⟨_, rfl⟩
          rw [hd] at hgi
          have HGI := Lib.hid hgi
          by_cases h32 : d = 32
          rotate_left
          · have hdb := byte_ne (n := 32) (by decide) h32
            have hdz : ¬ ((d.toNat : Nat) : Int) = 32 := by have := bne_iff_ne.1 hdb; omega
            clear hgi htt
            go_wp2_with fail
            go_roundw
            case rel => exact ⟨i + 1, by omega, by go_num, take_no HGI.out h32 HNI.out, by trivial⟩
            case measure => simp [intOf]; omega
          subst h32
          have hcd : Bk.cutL 32 (rest.take j) = some (rest.take i, (rest.take j).drop (i + 1)) := by
            have := cut_at (l := rest.take j) (j := i) (c := 32) (by rw [List.getElem?_take, if_pos hij]; exact HGI.out) (by rw [htt i hi]; exact HNI.out)
            rw [htt i hi] at this
            exact this
          have HCD := Lib.hid hcd
          have hjn : ((j : Int) == ((tb rest).size : Int)) = false := by rw [beq_eq_false_iff_ne]; omega
          have hin : ((i : Int) == (j : Int)) = false := by rw [beq_eq_false_iff_ne]; omega
          have hex := tb_extract rest (i + 1) j
          obtain ⟨o, ho⟩ : ∃ o, (rest.take j).drop (i + 1) = o := ⟨_, rfl⟩
          rw [ho] at hex HCD
          have hol : o.length ≤ rest.length := by rw [← ho, List.length_drop, List.length_take]; omega
          have HEX := Lib.hid hex
          have hex0 := tb_extract rest 0 i
          rw [List.drop_zero] at hex0
          have HEX0 := Lib.hid hex0
          have hexr : (tb rest).extract (j + 1) (tb rest).size = tb (rest.drop (j + 1)) := by rw [tb_extract rest (j + 1) _, HBS.out, List.take_length]
          have HEXR := Lib.hid hexr
          clear hgi htt hcd hex hex0 hexr ho
          go_wp2_with fail
          rw [HEX.out]
          refine rRight_any (tb o) _ (by rw [tb_size]; omega) _ ?_
          intro w1 hg1
          rw [tb_data]
          have HG1 := Lib.hid hg1
          clear hg1
          cases hok : Bk.okT o with
          | false =>
            have HF := Lib.hid (HNO.out (by unfold Bk.stepL; rw [HCT.out]; dsimp only; rw [HCD.out]; dsimp only; rw [if_neg (fun h => by rw [hok] at h; exact absurd h.1 (by decide))]) w1 HG1.out)
            clear hok
            go_wp2_with fail
            exact HF.out
          | true =>
            have HOK := Lib.hid hok
            clear hok
            have hos : (tb o).size ≤ 1000000000 := by rw [tb_size]; omega
            obtain ⟨sm, hsm⟩ : ∃ z, Bk.sumL q o = z := ⟨_, rfl⟩
            obtain ⟨s0, s1⟩ := Bk.sumL_bd o hq0 hq1
            rw [hsm] at s0 s1
            have HSM := Lib.hid hsm
            have hsum : Bk.sumS q (tb o).data.toList = sm := by rw [tb_data, Bk.sumS_of hq0 hq1, hsm]
            have HSUM := Lib.hid hsum
            clear hsm hsum
            go_wp2_with fail
            rw [HEX.out]
            refine wp_region_held_drew (S := fun X => Grow wr X) (by kernel_rfl) (HG1.out.drew) (fun hH => ?_)
            refine wpAnyH_take (i := 0) (v := .int .i64 q) rfl (by kernel_rfl) (by kernel_rfl) (by kernel_rfl) (fun _ _ _ h => h) (Or.inl ⟨by rfl, ?_⟩) hH ?_
            · intro w9 hw9
              go_simp
            try simp only [List.getElem_toArray, List.getElem_cons_zero, Act.put, List.setIfInBounds_toArray, List.set_cons_zero, List.set_cons_succ]
            refine wpAnyH_take (i := 1) (v := .string (tb o)) rfl (by kernel_rfl) (by kernel_rfl) (by kernel_rfl) (fun _ _ _ h => h) (Or.inl ⟨by rfl, ?_⟩) hH ?_
            · intro w9 hw9
              go_simp
            try simp only [List.getElem_toArray, List.getElem_cons_succ, List.getElem_cons_zero, Act.put, List.setIfInBounds_toArray, List.set_cons_zero, List.set_cons_succ]
            refine wpAnyH_take (i := 4) (v := .string (tb rest)) rfl (by kernel_rfl) (by kernel_rfl) (by kernel_rfl) (fun _ _ _ h => h) (Or.inl ⟨by rfl, ?_⟩) hH ?_
            · intro w9 hw9
              go_simp
            try simp only [List.getElem_toArray, List.getElem_cons_succ, List.getElem_cons_zero, Act.put, List.setIfInBounds_toArray, List.set_cons_zero, List.set_cons_succ]
            refine wpAnyH_take (i := 5) (v := .int .i64 i) rfl (by kernel_rfl) (by kernel_rfl) (by kernel_rfl) (fun _ _ _ h => h) (Or.inl ⟨by rfl, ?_⟩) hH ?_
            · intro w9 hw9
              go_simp
            try simp only [List.getElem_toArray, List.getElem_cons_succ, List.getElem_cons_zero, Act.put, List.setIfInBounds_toArray, List.set_cons_zero, List.set_cons_succ]
            refine wpAnyH_take (i := 6) (v := .string ((tb rest).extract 0 i)) rfl (by kernel_rfl) (by kernel_rfl) (by kernel_rfl) (fun _ _ _ h => h) (Or.inl ⟨by rfl, ?_⟩) hH ?_
            · intro w9 hw9
              go_simp
              intro hbad
              exact absurd hbad (by have := HBS.out; omega)
            try simp only [List.getElem_toArray, List.getElem_cons_succ, List.getElem_cons_zero, Act.put, List.setIfInBounds_toArray, List.set_cons_zero, List.set_cons_succ]
            rw [HEX0.out]
            refine wpAnyH_ready (rs := [2]) (by kernel_rfl) (by simp) ?_
            refine AllReadyH.cons rfl (fun K hK => ?_) AllReadyH.nil
            go_simp
            refine rSum_any q (tb o) _ (by omega) _ ?_
            intro w2 hg2
            rw [HSUM.out]
            go_wp2_with fail
            refine hK.out _ _ (hH.trans hg2) (fun hH2 => ?_)
            clear hK K hH
            have hH := hH2
            clear hH2
            try simp only [List.getElem_toArray, List.getElem_cons_succ, List.getElem_cons_zero, Act.put, List.setIfInBounds_toArray, List.set_cons_zero, List.set_cons_succ]
            clear hg2
            refine wpAnyH_ready (rs := [3]) (by kernel_rfl) (by simp) ?_
            refine AllReadyH.cons rfl (fun K hK => ?_) AllReadyH.nil
            go_simp
            refine itoa_any sm (by omega) (by omega) _ (HGL.out.grow hH) _ ?_
            intro w3 hg3
            go_wp2_with fail
            refine hK.out _ _ (hH.trans hg3) (fun hH2 => ?_)
            clear hK K hH
            have hH := hH2
            clear hH2
            try simp only [List.getElem_toArray, List.getElem_cons_succ, List.getElem_cons_zero, Act.put, List.setIfInBounds_toArray, List.set_cons_zero, List.set_cons_succ]
            clear hg3
            by_cases hh : rest.take i = Lib.itoa sm
            rotate_left
            ·
              have hne := tx_ne (x := (⟨(Lib.itoa sm).toArray⟩ : ByteArray)) (y := tb (rest.take i)) (fun e => hh (by have := congrArg (fun t : ByteArray => t.data.toList) e; simpa [tb] using this.symm))
              refine wpAnyH_take (i := 7) (v := .bool true) rfl (by kernel_rfl) (by kernel_rfl) (by kernel_rfl) (fun _ _ _ h => h) (Or.inl ⟨by rfl, ?_⟩) hH ?_
              · intro w9 hw9
                go_simp
                rw [Lib.toList_data, tb_data]
                exact fun e => hh e.symm
              try simp only [List.getElem_toArray, List.getElem_cons_succ, List.getElem_cons_zero, Act.put, List.setIfInBounds_toArray, List.set_cons_zero, List.set_cons_succ]
              refine wpAnyH_done (by kernel_rfl) ?_ _
              have HF := Lib.hid (HNO.out (by unfold Bk.stepL; rw [HCT.out]; dsimp only; rw [HCD.out]; dsimp only; rw [HSM.out, if_neg (fun h => hh h.2)]) _ hH)
              clear hH
              go_wp2_with fail
              exact HF.out
            have heq : (⟨(Lib.itoa sm).toArray⟩ : ByteArray) = tb (rest.take i) := by rw [hh]; rfl
            rw [heq]
            have HHH := Lib.hid hh
            clear heq hh
            refine wpAnyH_take (i := 7) (v := .bool false) rfl (by kernel_rfl) (by kernel_rfl) (by kernel_rfl) (fun _ _ _ h => h) (Or.inl ⟨by rfl, ?_⟩) hH ?_
            · intro w9 hw9
              go_simp
            try simp only [List.getElem_toArray, List.getElem_cons_succ, List.getElem_cons_zero, Act.put, List.setIfInBounds_toArray, List.set_cons_zero, List.set_cons_succ]
            refine wpAnyH_done (by kernel_rfl) ?_ _
            have HG2 := Lib.hid hH
            clear hH
            go_wp2_with fail
            refine rSum_any q (tb o) _ (by omega) _ ?_
            intro w5 hg5
            rw [HSUM.out]
            have HG5 := Lib.hid (HG2.out.trans hg5)
            have hz5 := (HGR.out.trans (HG2.out.trans hg5)).sz
            clear hg5
            go_wp2_with (at_builtin; refine wpList_app _ rfl (.tmp 69) (.tmp 71) 23 rfl w.heap.size 9 Tryz.underlying23 info_str rfl (by decide) (by decide) encTx encTx_len encTx_one (.slice va l.length vc) (l.map tb) rfl (by rw [show l.length = (l.map tb).length by rw [List.length_map]]; exact ((Grow.refl w5).alloc _).owns (HG5.out.owns (by simpa using HO.out))) _ (tb o) 1 rfl (news_one w5 (encTx (tb o)) 9) (by rw [List.length_map]; omega) (by simp; omega) ?_; intro v9 w9 hown9 hgr9)
            have hH9 : Grow w w9 := grown_below (((Grow.refl w5).alloc (.cells (encTx (tb o)).toArray 9)).owns (HG5.out.owns HO.out)) hgr9 (Nat.le_refl _) (by simp; omega) (show Grow w _ from (HGR.out.trans HG5.out).alloc _)
            obtain ⟨a9, c9, rfl⟩ : ∃ a c, v9 = .slice a (l.length + 1) c := by
              rcases hown9.2 with ⟨hv, h0⟩ | ⟨g, cap, cur, hv, _⟩
              · simp at h0
              · exact ⟨some ⟨g, 0, none⟩, cap, by rw [hv]; simp⟩
            have HW9 := Lib.hid hown9
            have HH9 := Lib.hid hH9
            clear hown9 hgr9 hH9
            rw [HEXR.out]
            go_roundw
            case rel =>
              have hst : Bk.stepL q rest = some (o, rest.drop (j + 1)) := by
                unfold Bk.stepL; rw [HCT.out]; dsimp only; rw [HCD.out]; dsimp only; rw [HSM.out, if_pos ⟨HOK.out, HHH.out⟩]
              refine ⟨l ++ [o], rest.drop (j + 1), sm, a9, c9, rfl, by simp, rfl, s0, s1, by simp; omega, by rw [List.length_drop]; omega, HH9.out, by simpa using HW9.out, ?_, ?_⟩
              · rw [HE1.out, HN.out, Bk.readL, hst, show 80 - (l ++ [o]).length = n by rw [List.length_append, List.length_singleton]; have := HN.out; omega]; dsimp only; rw [HSM.out]; simp
              · rw [HE2.out, HN.out, Bk.readL, hst, show 80 - (l ++ [o]).length = n by rw [List.length_append, List.length_singleton]; have := HN.out; omega]; dsimp only; rw [HSM.out]
            case measure => simp [lenS]; omega
      · obtain rfl : j = rest.length := by omega
        have hjz : ¬ (rest.length : Int) < ((tb rest).size : Int) := by have := HBS.out; omega
        have hjn : ((rest.length : Int) == ((tb rest).size : Int)) = true := by rw [beq_iff_eq]; have := HBS.out; omega
        have HF := Lib.hid (HNO.out (by unfold Bk.stepL; rw [cut_no HNJ.out]) wr (Grow.refl _))
        go_wp2_with fail
        go_loopw [6] (fun s6 wx => ∃ i : Nat, i ≤ rest.length ∧ s6 = .int .i64 i ∧ wx = wr) (fun s6 _ => rest.length - (intOf s6).toNat)
        case atStart => exact ⟨0, Nat.zero_le _, rfl, by trivial⟩
        case round =>
          obtain ⟨i, hi, rfl, rfl⟩ := hrel
          by_cases hij : i < rest.length
          rotate_left
          · have hijz : ¬ (i : Int) < (rest.length : Int) := by omega
            go_wp2_with fail
            exact HF.out
          have hijz : (i : Int) < (rest.length : Int) := by omega
          have his : i < (tb rest).size := by rw [HBS.out]; omega
          obtain ⟨d, hd⟩ : ∃ d, (tb rest)[i] = d := ⟨_, rfl⟩
          by_cases h32 : d = 32
          · subst h32
            go_wp2_with fail
            exact HF.out
          · have hdb := byte_ne (n := 32) (by decide) h32
            have hdz : ¬ ((d.toNat : Nat) : Int) = 32 := by have := bne_iff_ne.1 hdb; omega
            go_wp2_with fail
            go_roundw
            case rel => exact ⟨i + 1, by omega, by go_num, by trivial⟩
            case measure => simp [intOf]; omega
end Go.Proofs.YtihdpbfhkddpcaaGreatDoor

namespace Go.Proofs.YtihdpbfhkddpcaaGreatDoor
open Go.RowKit

/-! ### Plainly -/
def difL : List (List UInt8) → List (List UInt8) → Option Nat
  | x :: xs, y :: ys => if x = y then (difL xs ys).map (· + 1) else some 0
  | _, _ => none
theorem difL_some : ∀ {l m : List (List UInt8)} {i : Nat} {x y : List UInt8}, l[i]? = some x → m[i]? = some y → x ≠ y → l.take i = m.take i → difL l m = some i
  | [], _, _, _, _, h, _, _, _ => by simp at h
  | _ :: _, [], _, _, _, _, h, _, _ => by simp at h
  | a :: l, b :: m, 0, x, y, h1, h2, h3, _ => by
    simp at h1 h2; subst h1 h2
    unfold difL; rw [if_neg h3]
  | a :: l, b :: m, i + 1, x, y, h1, h2, h3, h4 => by
    rw [List.take_succ_cons, List.take_succ_cons, List.cons.injEq] at h4
    unfold difL
    rw [if_pos h4.1, difL_some (by simpa using h1) (by simpa using h2) h3 h4.2]; rfl
theorem difL_none : ∀ {l m : List (List UInt8)}, l.take (min l.length m.length) = m.take (min l.length m.length) → difL l m = none
  | [], m, _ => by unfold difL; first | rfl | (split <;> rfl)
  | _ :: _, [], _ => by unfold difL; rfl
  | a :: l, b :: m, h => by
    rw [List.length_cons, List.length_cons, Nat.add_min_add_right, List.take_succ_cons, List.take_succ_cons, List.cons.injEq] at h
    unfold difL
    rw [if_pos h.1, difL_none h.2]; rfl
/-- What Merge answers: the text, the number, the error. -/
def mrgB (a b : ByteArray) : ByteArray × Int × Int :=
  let p := Bk.readL 80 0 a.data.toList
  let q := Bk.readL 80 0 b.data.toList
  if p.2 ≠ [] ∨ q.2 ≠ [] then (⟨#[]⟩, 0, 10)
  else match difL p.1 q.1 with
    | some i => (⟨#[]⟩, (i : Nat), 7)
    | none => if p.1.length < q.1.length then (b, (q.1.length : Nat), 0) else (a, (p.1.length : Nat), 0)
theorem read_len80 (n : Nat) : ∀ (s : Int) (b : List UInt8), (Bk.readL n s b).1.length ≤ n := by
  induction n with
  | zero => intro s b; simp [Bk.readL]
  | succ n ih =>
    intro s b
    unfold Bk.readL
    split
    · simp
    · next o rest _ => simp; exact ih _ _
theorem tb_nil : (tb []).toList = [] := by rw [Lib.toList_data, tb_data]
theorem tb_nel {x : List UInt8} (h : x ≠ []) : (tb x).toList ≠ [] := by rw [Lib.toList_data, tb_data]; exact h
theorem map_tb_at {l : List (List UInt8)} {i : Nat} (h : i < l.length) : (l.map tb)[i]? = some (tb l[i]) := by rw [List.getElem?_map, List.getElem?_eq_getElem h]; rfl
set_option maxRecDepth 100000 in
set_option maxHeartbeats 8000000 in
theorem Merge_any (a b : ByteArray) (ha : a.size ≤ 1000000000) (hb : b.size ≤ 1000000000) (w : World) (hg : Glob w) (R : Ending → World → Prop)
    (hR : ∀ w', Grow w w' → R (.returned (.tuple #[.string (mrgB a b).1, .int .i64 (mrgB a b).2.1, .int .i64 (mrgB a b).2.2])) w') :
    Calls Tryz.prog 26 #[.string a, .string b] w R := by
  obtain ⟨P, hP⟩ : ∃ P, Bk.readL 80 0 a.data.toList = P := ⟨_, rfl⟩
  obtain ⟨Q, hQ⟩ : ∃ Q, Bk.readL 80 0 b.data.toList = Q := ⟨_, rfl⟩
  have hp80 : P.1.length ≤ 80 := by rw [← hP]; exact read_len80 _ _ _
  have hq80 : Q.1.length ≤ 80 := by rw [← hQ]; exact read_len80 _ _ _
  have hm : mrgB a b = (if P.2 ≠ [] ∨ Q.2 ≠ [] then (⟨#[]⟩, 0, 10) else match difL P.1 Q.1 with
    | some i => (⟨#[]⟩, (i : Nat), 7)
    | none => if P.1.length < Q.1.length then (b, (Q.1.length : Nat), 0) else (a, (P.1.length : Nat), 0) : ByteArray × Int × Int) := by unfold mrgB; rw [hP, hQ]
  rw [hm] at hR
  obtain ⟨p, r⟩ := P
  obtain ⟨q, s⟩ := Q
  dsimp only at hR hp80 hq80
  have HR := Lib.hid hR
  have HG := Lib.hid hg
  have HP := Lib.hid hP
  have HQ := Lib.hid hQ
  clear hR hg hP hQ hm
  go_enter Tryz.func26, Tryz.ntmps26
  go_wp2_with fail
  refine Read_any a ha _ HG.out _ ?_
  intro w1 pv hg1 hpo
  rw [HP.out] at hpo ⊢
  dsimp only at hpo ⊢
  obtain ⟨pa, pc, rfl, p1, p2, jk1⟩ := slc_of_owns encTx_len hpo
  have HPT := Lib.hid (slc_of_owns encTx_len hpo)
  have HG1 := Lib.hid hg1
  rw [List.length_map] at p1 HPT ⊢
  clear jk1 hpo hg1
  go_wp2_with fail
  refine Read_any b hb _ (HG.out.grow HG1.out) _ ?_
  intro w2 qv hg2 hqo
  rw [HQ.out] at hqo ⊢
  dsimp only at hqo ⊢
  obtain ⟨qa, qc, rfl, q1, q2, jk2⟩ := slc_of_owns encTx_len hqo
  have HQT := Lib.hid (slc_of_owns encTx_len hqo)
  have HPT2 := Lib.hid (HPT.out.grow hg2)
  have HG2 := Lib.hid (HG1.out.trans hg2)
  rw [List.length_map] at q1 HQT ⊢
  clear jk2 hqo hg2 HPT
  by_cases hr : r = []
  rotate_left
  · have hf := HR.out w2 HG2.out
    rw [if_pos (.inl hr)] at hf
    have HF := Lib.hid hf
    have hrb := tb_nel hr
    have hrc : ((tb r).toList == []) = false := beq_eq_false_iff_ne.2 hrb
    clear hf
    go_wp2_with fail
    all_goals first | exact HF.out | exact bodyPost_ret (by simp [results, Tryz.results26, go_sem]) rfl HF.out
  by_cases hs : s = []
  rotate_left
  · have hf := HR.out w2 HG2.out
    rw [if_pos (.inr hs)] at hf
    have HF := Lib.hid hf
    have hsb := tb_nel hs
    have hsc : ((tb s).toList == []) = false := beq_eq_false_iff_ne.2 hsb
    subst hr
    have hrb := tb_nil
    clear hf
    go_wp2_with fail
    all_goals first | exact HF.out | exact bodyPost_ret (by simp [results, Tryz.results26, go_sem]) rfl HF.out
  subst hr hs
  rw [if_neg (by simp)] at HR
  have hrb := tb_nil
  go_wp2_with fail
  go_loopw [33] (fun s3 wr => ∃ k : Nat, k ≤ min p.length q.length ∧ s3 = .int .i64 k ∧ Grow w2 wr ∧ p.take k = q.take k) (fun s3 _ => min p.length q.length - (intOf s3).toNat)
  case atStart => exact ⟨0, Nat.zero_le _, rfl, Grow.refl _, by simp⟩
  case round =>
    obtain ⟨k, hk, rfl, hg, htk⟩ := hrel
    have HGR := Lib.hid hg
    have HTK := Lib.hid htk
    clear hg htk
    by_cases hlt : k < min p.length q.length
    · have hkp : k < p.length := by omega
      have hkq : k < q.length := by omega
      have hkpz : (k : Int) < (p.length : Int) := by omega
      have hkqz : (k : Int) < (q.length : Int) := by omega
      have hkm : (k : Int) < min (p.length : Int) (q.length : Int) := by omega
      obtain ⟨pb, po, rfl, pl, y0⟩ := texts_at (HPT2.out.grow HGR.out) (map_tb_at hkp)
      have hqat := texts_at (HQT.out.grow HGR.out) (map_tb_at hkq)
      obtain ⟨qb, qo, rfl, ql, y1⟩ := hqat
      obtain ⟨x, hx⟩ : ∃ x, p[k] = x := ⟨_, rfl⟩
      obtain ⟨y, hy⟩ : ∃ y, q[k] = y := ⟨_, rfl⟩
      have hpx : p[k]? = some x := by rw [List.getElem?_eq_getElem hkp, hx]
      have hqy : q[k]? = some y := by rw [List.getElem?_eq_getElem hkq, hy]
      have HPX := Lib.hid hpx
      have HQY := Lib.hid hqy
      rw [hx] at y0
      rw [hy] at y1
      clear hpx hqy hx hy
      by_cases hxy : x = y
      · subst hxy
        go_wp2_with (go_quiet (fail))
        go_roundw
        case rel =>
          exact ⟨k + 1, by omega, by go_num, HGR.out.drewN _, by rw [List.take_add_one, List.take_add_one, HPX.out, HQY.out, HTK.out]⟩
        case measure => simp [intOf]; omega
      · have t1 := tx_ne (x := tb x) (y := tb y) (fun e => hxy (tb_inj e))
        have hd := difL_some HPX.out HQY.out hxy HTK.out
        have hf := fun n => HR.out _ (HG2.out.trans (HGR.out.drewN n))
        rw [hd] at hf
        have HF := Lib.hid hf
        clear hf hd
        go_wp2_with (go_quiet (fail))
        first | exact HF.out _ | exact bodyPost_ret (by simp [results, Tryz.results26, go_sem]) rfl (HF.out _)
    · obtain rfl : k = min p.length q.length := by omega
      have hd := difL_none HTK.out
      have hf := HR.out wr (HG2.out.trans HGR.out)
      rw [hd] at hf
      dsimp only at hf
      clear hd
      by_cases hpq : p.length < q.length
      · rw [if_pos hpq] at hf
        have HF := Lib.hid hf
        have hz : decide ((q.length : Int) > (p.length : Int)) = true := by rw [decide_eq_true_eq]; omega
        have e1 : ((min p.length q.length : Nat) : Int) = (p.length : Int) := by omega
        have e2 : min (p.length : Int) (q.length : Int) = (p.length : Int) := by omega
        clear hf hlt hk
        rw [e1]
        go_wp2_with fail
        all_goals first | exact HF.out | exact bodyPost_ret (by simp [results, Tryz.results26, go_sem]) rfl HF.out
      · rw [if_neg hpq] at hf
        have HF := Lib.hid hf
        have hz : decide ((q.length : Int) > (p.length : Int)) = false := by rw [decide_eq_false_iff_not]; omega
        have e1 : ((min p.length q.length : Nat) : Int) = (q.length : Int) := by omega
        have e2 : min (p.length : Int) (q.length : Int) = (q.length : Int) := by omega
        clear hf hlt hk
        rw [e1]
        go_wp2_with fail
        all_goals first | exact HF.out | exact bodyPost_ret (by simp [results, Tryz.results26, go_sem]) rfl HF.out

set_option maxRecDepth 100000 in
set_option maxHeartbeats 8000000 in
theorem rMerge_any (a b : ByteArray) (ha : a.size ≤ 1000000000) (hb : b.size ≤ 1000000000) (w : World) (hg : Glob w) (R : Ending → World → Prop)
    (hR : ∀ w', Grow w w' → R (.returned (.tuple #[.string (mrgB a b).1, .int .i64 (mrgB a b).2.1, .int .i64 (mrgB a b).2.2])) w') :
    Calls Tryz.prog 27 #[.string a, .string b] w R := by
  obtain ⟨P, hP⟩ : ∃ P, Bk.readL 80 0 a.data.toList = P := ⟨_, rfl⟩
  obtain ⟨Q, hQ⟩ : ∃ Q, Bk.readL 80 0 b.data.toList = Q := ⟨_, rfl⟩
  have hp80 : P.1.length ≤ 80 := by rw [← hP]; exact read_len80 _ _ _
  have hq80 : Q.1.length ≤ 80 := by rw [← hQ]; exact read_len80 _ _ _
  have hm : mrgB a b = (if P.2 ≠ [] ∨ Q.2 ≠ [] then (⟨#[]⟩, 0, 10) else match difL P.1 Q.1 with
    | some i => (⟨#[]⟩, (i : Nat), 7)
    | none => if P.1.length < Q.1.length then (b, (Q.1.length : Nat), 0) else (a, (P.1.length : Nat), 0) : ByteArray × Int × Int) := by unfold mrgB; rw [hP, hQ]
  rw [hm] at hR
  obtain ⟨p, r⟩ := P
  obtain ⟨q, s⟩ := Q
  dsimp only at hR hp80 hq80
  have HR := Lib.hid hR
  have HG := Lib.hid hg
  have HP := Lib.hid hP
  have HQ := Lib.hid hQ
  clear hR hg hP hQ hm
  go_enter Tryz.func27, Tryz.ntmps27
  go_wp2_with fail
  refine rRead_any a ha _ HG.out _ ?_
  intro w1 pv hg1 hpo
  rw [HP.out] at hpo ⊢
  dsimp only at hpo ⊢
  obtain ⟨pa, pc, rfl, p1, p2, jk1⟩ := slc_of_owns encTx_len hpo
  have HPT := Lib.hid (slc_of_owns encTx_len hpo)
  have HG1 := Lib.hid hg1
  rw [List.length_map] at p1 HPT ⊢
  clear jk1 hpo hg1
  go_wp2_with fail
  refine rRead_any b hb _ (HG.out.grow HG1.out) _ ?_
  intro w2 qv hg2 hqo
  rw [HQ.out] at hqo ⊢
  dsimp only at hqo ⊢
  obtain ⟨qa, qc, rfl, q1, q2, jk2⟩ := slc_of_owns encTx_len hqo
  have HQT := Lib.hid (slc_of_owns encTx_len hqo)
  have HPT2 := Lib.hid (HPT.out.grow hg2)
  have HG2 := Lib.hid (HG1.out.trans hg2)
  rw [List.length_map] at q1 HQT ⊢
  clear jk2 hqo hg2 HPT
  by_cases hr : r = []
  rotate_left
  · have hf := HR.out w2 HG2.out
    rw [if_pos (.inl hr)] at hf
    have HF := Lib.hid hf
    have hrb := tb_nel hr
    have hrc : ((tb r).toList == []) = false := beq_eq_false_iff_ne.2 hrb
    clear hf
    go_wp2_with fail
    all_goals first | exact HF.out | exact bodyPost_ret (by simp [results, Tryz.results27, go_sem]) rfl HF.out
  by_cases hs : s = []
  rotate_left
  · have hf := HR.out w2 HG2.out
    rw [if_pos (.inr hs)] at hf
    have HF := Lib.hid hf
    have hsb := tb_nel hs
    have hsc : ((tb s).toList == []) = false := beq_eq_false_iff_ne.2 hsb
    subst hr
    have hrb := tb_nil
    clear hf
    go_wp2_with fail
    all_goals first | exact HF.out | exact bodyPost_ret (by simp [results, Tryz.results27, go_sem]) rfl HF.out
  subst hr hs
  rw [if_neg (by simp)] at HR
  have hrb := tb_nil
  go_wp2_with fail
  go_loopw [11] (fun s3 wr => ∃ k : Nat, k ≤ min p.length q.length ∧ s3 = .int .i64 k ∧ Grow w2 wr ∧ p.take k = q.take k) (fun s3 _ => min p.length q.length - (intOf s3).toNat)
  case atStart => exact ⟨0, Nat.zero_le _, rfl, Grow.refl _, by simp⟩
  case round =>
    obtain ⟨k, hk, rfl, hg, htk⟩ := hrel
    have HGR := Lib.hid hg
    have HTK := Lib.hid htk
    clear hg htk
    by_cases hlt : k < min p.length q.length
    · have hkp : k < p.length := by omega
      have hkq : k < q.length := by omega
      have hkpz : (k : Int) < (p.length : Int) := by omega
      have hkqz : (k : Int) < (q.length : Int) := by omega
      have hkm : (k : Int) < min (p.length : Int) (q.length : Int) := by omega
      obtain ⟨pb, po, rfl, pl, y0⟩ := texts_at (HPT2.out.grow HGR.out) (map_tb_at hkp)
      have hqat := texts_at (HQT.out.grow HGR.out) (map_tb_at hkq)
      obtain ⟨qb, qo, rfl, ql, y1⟩ := hqat
      obtain ⟨x, hx⟩ : ∃ x, p[k] = x := ⟨_, rfl⟩
      obtain ⟨y, hy⟩ : ∃ y, q[k] = y := ⟨_, rfl⟩
      have hpx : p[k]? = some x := by rw [List.getElem?_eq_getElem hkp, hx]
      have hqy : q[k]? = some y := by rw [List.getElem?_eq_getElem hkq, hy]
      have HPX := Lib.hid hpx
      have HQY := Lib.hid hqy
      rw [hx] at y0
      rw [hy] at y1
      clear hpx hqy hx hy
      by_cases hxy : x = y
      · subst hxy
        go_wp2_with (go_quiet (fail))
        go_roundw
        case rel =>
          exact ⟨k + 1, by omega, by go_num, HGR.out.drewN _, by rw [List.take_add_one, List.take_add_one, HPX.out, HQY.out, HTK.out]⟩
        case measure => simp [intOf]; omega
      · have t1 := tx_ne (x := tb x) (y := tb y) (fun e => hxy (tb_inj e))
        have hd := difL_some HPX.out HQY.out hxy HTK.out
        have hf := fun n => HR.out _ (HG2.out.trans (HGR.out.drewN n))
        rw [hd] at hf
        have HF := Lib.hid hf
        clear hf hd
        go_wp2_with (go_quiet (fail))
        first | exact HF.out _ | exact bodyPost_ret (by simp [results, Tryz.results27, go_sem]) rfl (HF.out _)
    · obtain rfl : k = min p.length q.length := by omega
      have hd := difL_none HTK.out
      have hf := HR.out wr (HG2.out.trans HGR.out)
      rw [hd] at hf
      dsimp only at hf
      clear hd
      by_cases hpq : p.length < q.length
      · rw [if_pos hpq] at hf
        have HF := Lib.hid hf
        have hz : decide ((q.length : Int) > (p.length : Int)) = true := by rw [decide_eq_true_eq]; omega
        have e1 : ((min p.length q.length : Nat) : Int) = (p.length : Int) := by omega
        have e2 : min (p.length : Int) (q.length : Int) = (p.length : Int) := by omega
        clear hf hlt hk
        rw [e1]
        go_wp2_with fail
        all_goals first | exact HF.out | exact bodyPost_ret (by simp [results, Tryz.results27, go_sem]) rfl HF.out
      · rw [if_neg hpq] at hf
        have HF := Lib.hid hf
        have hz : decide ((q.length : Int) > (p.length : Int)) = false := by rw [decide_eq_false_iff_not]; omega
        have e1 : ((min p.length q.length : Nat) : Int) = (q.length : Int) := by omega
        have e2 : min (p.length : Int) (q.length : Int) = (q.length : Int) := by omega
        clear hf hlt hk
        rw [e1]
        go_wp2_with fail
        all_goals first | exact HF.out | exact bodyPost_ret (by simp [results, Tryz.results27, go_sem]) rfl HF.out

end Go.Proofs.YtihdpbfhkddpcaaGreatDoor
