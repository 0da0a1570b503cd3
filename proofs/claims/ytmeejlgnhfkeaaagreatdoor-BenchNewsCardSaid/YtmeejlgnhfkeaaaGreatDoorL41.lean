/-



-/
import Derived.Test.YtmeejlgnhfkeaaaGreatDoorL40
import Derived.RegionTactic
import Derived.Deep.RegionHeld3
import Derived.Test.YtmeejlgnhfkeaaaGreatDoorL39
import Derived.Test.YtmeejlgnhfkeaaaGreatDoorL26
import Derived.BigQuiet
namespace Go.Proofs.YtmeejlgnhfkeaaaGreatDoor
open Go.RowKit
set_option maxRecDepth 100000 in
set_option maxHeartbeats 4000000 in
theorem rText_any (l : List ByteArray) (v : Value) (w : World) (hg : Glob w) (hl : TextsAt w v l) (hsz : ∀ t ∈ l, t.size ≤ 1000000) (hn : l.length ≤ 100000) (R : Ending → World → Prop)
  (hR : ∀ w', Grow w w' → R (.returned (.string (tb (bkS l)))) w') :
  Calls Tryz.prog 20 #[v] w R := by
 have HR := Lib.hid hR
 have HG := Lib.hid hg
 have HL := Lib.hid hl
 have HSZ := Lib.hid hsz
 obtain ⟨va, vc, rfl, v1, v2, jk⟩ := hl
 clear hR hg hsz jk
 go_enter Tryz.func20, Tryz.ntmps20
 go_wp2_with fail
 go_loopw [3, 4, 5] (fun s3 s4 s5 wr => ∃ k : Nat, k ≤ l.length ∧ s5 = .int .i64 k ∧ s4 = .int .i64 (bkQ (l.take k)) ∧ s3 = .string (tb (bkS (l.take k))) ∧ Grow w wr) (fun _ _ s5 _ => l.length - (intOf s5).toNat)
 case atStart => exact ⟨0, Nat.zero_le _, rfl, rfl, rfl, Grow.refl w⟩
 case round =>
  obtain ⟨k, hk, rfl, rfl, rfl, hg⟩ := hrel
  have HGR := Lib.hid hg
  have hbl := book_len l HSZ.out k hk
  clear hg
  by_cases hlt : k < l.length
  ·have hltz : (k : Int) < (l.length : Int) := by omega
   obtain ⟨t, ht⟩ : ∃ t, l[k]? = some t := ⟨_, List.getElem?_eq_getElem hlt⟩
   obtain ⟨b, o, rfl, hb, y0⟩ := texts_at (HL.out.grow HGR.out) ht
   obtain ⟨q, hq⟩ : ∃ q, bkQ (l.take k) = q := ⟨_, rfl⟩
   obtain ⟨q0, q1⟩ := bkQ_bd (l.take k)
   obtain ⟨e1, e2⟩ := bk_snoc ht
   have hts := HSZ.out t (List.mem_of_getElem? ht)
   have htl : (dl t).length = t.size := (tx_len t).symm
   obtain ⟨s0, s1⟩ := Bk.sumL_bd (dl t) (hq ▸ q0) (hq ▸ q1)
   rw [hq] at q0 q1 e1 e2 ⊢
   obtain ⟨out, hout⟩ : ∃ z, bkS (l.take k) = z := ⟨_, rfl⟩
   rw [hout] at e2 hbl ⊢
   obtain ⟨sm, hsm⟩ : ∃ z, Bk.sumL q (dl t) = z := ⟨_, rfl⟩
   rw [hsm] at e1 e2 s0 s1
   have HE1 := Lib.hid e1
   have HE2 := Lib.hid e2
   have HSM := Lib.hid (show Bk.sumL q t.data.toList = sm from hsm)
   clear ht e1 e2 hq hout hsm
   go_wp2_with fail
   refine rSum_any q t _ (by omega) _ ?_
   intro w1 hg1
   rw [Bk.sumS_of q0 q1, HSM.out]
   have HG1 := Lib.hid (HGR.out.trans hg1)
   have y1 := Grow.cell hg1 y0
   have hil := Lib.itoa_length_le sm (by omega) (by omega)
   have htbo := tb_size out
   clear hg1
   go_wp2_with fail
   refine wp_region_held_drew (S := fun X => Grow w1 X) (by kernel_rfl) ((Grow.refl w1).drew) (fun hH => ?_)
   refine wpAnyH_take (i := 0) (v := .string (tb out)) rfl (by kernel_rfl) (by kernel_rfl) (by kernel_rfl) (fun _ _ _ h => h) (Or.inl ⟨by rfl, ?_⟩) hH ?_
   ·intro w9 hw9
    go_simp
   try simp only [List.getElem_toArray, List.getElem_cons_zero, Act.put, List.setIfInBounds_toArray, List.set_cons_zero, List.set_cons_succ]
   refine wpAnyH_take (i := 1) (v := .int .i64 sm) rfl (by kernel_rfl) (by kernel_rfl) (by kernel_rfl) (fun _ _ _ h => h) (Or.inl ⟨by rfl, ?_⟩) hH ?_
   ·intro w9 hw9
    go_simp
   try simp only [nrm, Act.put]
   refine wpAnyH_take (i := 4) (v := .slice (some ⟨b, o, none⟩) l.length vc) rfl (by kernel_rfl) (by kernel_rfl) (by kernel_rfl) (fun _ _ _ h => h) (Or.inl ⟨by rfl, ?_⟩) hH ?_
   ·intro w9 hw9
    go_simp
   try simp only [nrm, Act.put]
   refine wpAnyH_take (i := 5) (v := .int .i64 k) rfl (by kernel_rfl) (by kernel_rfl) (by kernel_rfl) (fun _ _ _ h => h) (Or.inl ⟨by rfl, ?_⟩) hH ?_
   ·intro w9 hw9
    go_simp
   try simp only [nrm, Act.put]
   refine wpAnyH_take (i := 6) (v := .pointer (some ⟨b, o + k, none⟩)) rfl (by kernel_rfl) (by kernel_rfl) (by kernel_rfl) (fun _ _ _ h => h) (Or.inl ⟨by rfl, ?_⟩) hH ?_
   ·intro w9 hw9
    go_simp
   try simp only [nrm, Act.put]
   refine wpAnyH_take (i := 7) (v := .string t) rfl (by kernel_rfl) (by kernel_rfl) (by kernel_rfl) (fun _ _ _ h => h) (Or.inl ⟨by rfl, ?_⟩) hH ?_
   ·intro w9 hw9
    have y9 := Grow.cell hw9 y1
    go_simp
   try simp only [nrm, Act.put]
   refine wpAnyH_ready (rs := [2]) (by kernel_rfl) (by simp) ?_
   refine AllReadyH.cons rfl (fun K hK => ?_) AllReadyH.nil
   go_simp
   refine itoa_any sm (by omega) (by omega) _ (HG.out.grow (HG1.out.trans hH)) _ ?_
   intro w2 hg2
   go_wp2_with fail
   refine hK.out _ _ (hH.trans hg2) (fun hH2 => ?_)
   clear hK K hH
   have hH := hH2
   clear hH2
   try simp only [nrm, Act.put]
   clear hg2
   refine wpAnyH_take (i := 3) (v := .string ((⟨(Lib.itoa sm).toArray⟩ : ByteArray) ++ ⟨#[32]⟩)) rfl (by kernel_rfl) (by kernel_rfl) (by kernel_rfl) (fun _ _ _ h => h) (Or.inl ⟨by rfl, ?_⟩) hH ?_
   ·intro w9 hw9
    go_simp
    omega
   try simp only [nrm, Act.put]
   refine wpAnyH_take (i := 8) (v := .string ((⟨(Lib.itoa sm).toArray⟩ : ByteArray) ++ ⟨#[32]⟩ ++ t)) rfl (by kernel_rfl) (by kernel_rfl) (by kernel_rfl) (fun _ _ _ h => h) (Or.inl ⟨by rfl, ?_⟩) hH ?_
   ·intro w9 hw9
    go_simp
    omega
   try simp only [nrm, Act.put]
   refine wpAnyH_take (i := 9) (v := .string ((⟨(Lib.itoa sm).toArray⟩ : ByteArray) ++ ⟨#[32]⟩ ++ t ++ ⟨#[10]⟩)) rfl (by kernel_rfl) (by kernel_rfl) (by kernel_rfl) (fun _ _ _ h => h) (Or.inl ⟨by rfl, ?_⟩) hH ?_
   ·intro w9 hw9
    go_simp
    omega
   try simp only [nrm, Act.put]
   refine wpAnyH_take (i := 10) (v := .string (tb out ++ ((⟨(Lib.itoa sm).toArray⟩ : ByteArray) ++ ⟨#[32]⟩ ++ t ++ ⟨#[10]⟩))) rfl (by kernel_rfl) (by kernel_rfl) (by kernel_rfl) (fun _ _ _ h => h) (Or.inl ⟨by rfl, ?_⟩) hH ?_
   ·intro w9 hw9
    go_simp
    omega
   try simp only [nrm, Act.put]
   refine wpAnyH_take (i := 11) (v := .string (tb out ++ ((⟨(Lib.itoa sm).toArray⟩ : ByteArray) ++ ⟨#[32]⟩ ++ t ++ ⟨#[10]⟩))) rfl (by kernel_rfl) (by kernel_rfl) (by kernel_rfl) (fun _ _ _ h => h) (Or.inl ⟨by rfl, ?_⟩) hH ?_
   ·intro w9 hw9
    go_simp
   try simp only [nrm, Act.put]
   refine wpAnyH_done (by kernel_rfl) ?_ _
   have HG2 := Lib.hid (HG1.out.trans hH)
   clear hH
   rw [line_tb, tb_app]
   go_wp2_with fail
   go_roundw
   case rel => exact ⟨k + 1, by omega, by go_num, by rw [HE1.out], by rw [HE2.out]; rfl, HG2.out⟩
   case measure => simp [intOf]; omega
  ·have hk2 : k = l.length := by omega
   subst hk2
   have hltz : ¬ (l.length : Int) < (l.length : Int) := by omega
   have hf := HR.out wr HGR.out
   rw [List.take_length]
   have HF := Lib.hid hf
   clear hf
   go_wp2_with fail
   exact HF.out
end Go.Proofs.YtmeejlgnhfkeaaaGreatDoor

namespace Go.Proofs.YtmeejlgnhfkeaaaGreatDoor
open Go.RowKit
theorem tb_extract (l : List UInt8) (i j : Nat) : (tb l).extract i j = tb ((l.take j).drop i) := by
 apply tx_eq
 rw [tb_data]
 simp [tb, ByteArray.data_extract, List.drop_take]
end Go.Proofs.YtmeejlgnhfkeaaaGreatDoor

namespace Go.Proofs.YtmeejlgnhfkeaaaGreatDoor
open Go.RowKit
theorem read_len80 (n : Nat) : ∀ (s : Int) (b : List UInt8), (Bk.readL n s b).1.length ≤ n := by
 induction n with
 | zero => intro s b; simp [Bk.readL]
 | succ n ih =>
  intro s b
  unfold Bk.readL
  split
  ·simp
  ·next o rest _ => simp; exact ih _ _
theorem tb_nil : (tb []).toList = [] := by rw [Lib.toList_data, tb_data]
theorem tb_nel {x : List UInt8} (h : x ≠ []) : (tb x).toList ≠ [] := by rw [Lib.toList_data, tb_data]; exact h
end Go.Proofs.YtmeejlgnhfkeaaaGreatDoor
