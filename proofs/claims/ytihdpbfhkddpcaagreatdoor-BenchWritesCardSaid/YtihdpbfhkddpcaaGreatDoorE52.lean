/- The law BenchWrites: the book of orders, and that it is read as these, and any beginning of it as a beginning. -/
import Derived.Test.YtihdpbfhkddpcaaGreatDoorE46
import Derived.Test.YtihdpbfhkddpcaaGreatDoorE47
import Derived.Test.YtihdpbfhkddpcaaGreatDoorE51
namespace Go.Proofs.YtihdpbfhkddpcaaGreatDoor
open Go.RowKit

theorem SlcAt.take3 {α : Type} {k : Nat} {enc : α → List Value} {w : World} {a : Option Addr} {n c : Nat} {xs : List α} (h : SlcAt k enc w (.slice a n c) xs) {m : Nat} (hm : m ≤ xs.length) : SlcAt k enc w (.slice a m m) (xs.take m) := by
  obtain ⟨a', c', e, h2, h3, h4⟩ := h
  cases e
  have hl : (xs.take m).length = m := by rw [List.length_take]; omega
  refine ⟨a, m, by rw [hl], by rw [hl]; exact Nat.le_refl _, by omega, ?_⟩
  rcases h4 with ⟨h4, h5⟩ | ⟨b, o, e, hb, hc⟩
  · refine .inl ⟨by rw [h4]; simp, fun e => ?_⟩
    have := h5 e
    have h6 : xs.length = 0 := by rw [h4]; rfl
    omega
  · refine .inr ⟨b, o, e, hb, fun j x hx i u hu => ?_⟩
    rw [List.getElem?_take] at hx
    split at hx
    · exact hc j x hx i u hu
    · cases hx
theorem map_tb_dl (l : List ByteArray) : (l.map dl).map tb = l := by
  rw [List.map_map]
  have : (tb ∘ dl) = id := by funext t; exact tb_of t
  rw [this, List.map_id]
theorem book_read {l : List ByteArray} (hok : okL l = true) (hl : l.length ≤ 80) : Bk.readL 80 0 (tb (bkS l)).data.toList = (l.map dl, []) := by
  rw [tb_data]
  refine Bk.readL_book (l.map dl) 80 0 ?_ (by rw [List.length_map]; exact hl)
  intro t ht
  obtain ⟨u, hu, rfl⟩ := List.mem_map.1 ht
  exact List.all_eq_true.1 hok u hu
theorem book_some {l : List ByteArray} (hok : okL l = true) (hl : l.length ≤ 80) {m : Nat} (hm : m ≤ (bkS l).length) : ∃ k, k ≤ l.length ∧ (Bk.readL 80 0 (tb ((bkS l).take m)).data.toList).1 = (l.take k).map dl ∧ ((Bk.readL 80 0 (tb ((bkS l).take m)).data.toList).2 = [] ∨ k < l.length) := by
  rw [tb_data]
  obtain ⟨k, h1, h2, h3, _, _⟩ := Bk.readL_take (l.map dl) 80 0 m (fun t ht => by
    obtain ⟨u, hu, rfl⟩ := List.mem_map.1 ht
    exact List.all_eq_true.1 hok u hu) (by rw [List.length_map]; exact hl) hm
  rw [List.length_map] at h1 h3
  exact ⟨k, h1, by rw [List.map_take]; exact h2, h3⟩
theorem keep_bd (n : Int) (L : Nat) (hL : L ≤ 1000000000) : ∃ m : Nat, wrap64 ((IntKind.u64.wrap n).tmod ((L : Int) + 1)) = (m : Int) ∧ m ≤ L := by
  have hu : 0 ≤ IntKind.u64.wrap n := by
    unfold IntKind.wrap
    simp [IntKind.signed, IntKind.bits]
    omega
  have h1 := Int.tmod_nonneg ((L : Int) + 1) hu
  have h2 := Int.tmod_lt_of_pos (IntKind.u64.wrap n) (show (0 : Int) < (L : Int) + 1 by omega)
  refine ⟨((IntKind.u64.wrap n).tmod ((L : Int) + 1)).toNat, ?_, by omega⟩
  rw [IntWalk.wrap64_in _ (by omega)]
  omega
set_option maxRecDepth 100000 in
set_option maxHeartbeats 8000000 in
theorem benchWrites_any (l : List ByteArray) (n : Int) (w : World) (v : Value) (hg : Glob w) (hl : TextsAt w v l) (R : Ending → World → Prop) (hR : ∀ w', Grow w w' → R (.returned (.bool true)) w') :
    Calls Tryz.prog 5 #[v, .int .i64 n] w R := by
  have HR := Lib.hid hR
  have HG := Lib.hid hg
  have HL := Lib.hid hl
  obtain ⟨va, vc, rfl, v1, v2, jk⟩ := hl
  clear hR hg jk
  go_enter Tryz.func5, Tryz.ntmps5
  go_wp2_with fail
  refine Long9_any l _ _ HL.out _ ?_
  intro w1 hg1
  have HG1 := Lib.hid hg1
  clear hg1
  cases hlg : lngT l with
  | true =>
    go_wp2_with fail
    refine sane_any _ (HG.out.grow HG1.out) _ ?_
    intro w2 hg2
    have HF := Lib.hid (HR.out w2 (HG1.out.trans hg2))
    clear hg2
    go_wp2_with fail
    exact HF.out
  | false =>
    obtain ⟨hsz, hlen⟩ := lngT_no hlg
    have hsz' : ∀ t ∈ l, t.size ≤ 1000000 := fun t ht => by have := hsz t ht; omega
    have HSZ := Lib.hid hsz'
    clear hlg hsz hsz'
    go_wp2_with fail
    refine Write_any l _ _ (HG.out.grow HG1.out) (HL.out.grow HG1.out) HSZ.out _ ?_
    intro w2 hg2
    have HG2 := Lib.hid (HG1.out.trans hg2)
    obtain ⟨A, hA⟩ : ∃ A, wrS l = A := ⟨_, rfl⟩
    obtain ⟨e, he⟩ : ∃ e, wrE l = e := ⟨_, rfl⟩
    rw [hA, he]
    have HA := Lib.hid hA
    have HE := Lib.hid he
    clear hg2 hA he
    go_wp2_with fail
    refine rWrite_any l _ _ (HG.out.grow HG2.out) (HL.out.grow HG2.out) HSZ.out _ ?_
    intro w3 hg3
    have HG3 := Lib.hid (HG2.out.trans hg3)
    rw [HA.out, HE.out]
    clear hg3
    by_cases h0 : e = 0
    rotate_left
    · have h0z : (e != 0) = true := by simpa using h0
      go_wp2_with fail
      refine sane_any _ (HG.out.grow HG3.out) _ ?_
      intro w4 hg4
      have HF := Lib.hid (HR.out w4 (HG3.out.trans hg4))
      clear hg4
      go_wp2_with fail
      exact HF.out
    subst h0
    have h80 : ¬ 80 < l.length := fun h => by have h1 := HE.out; unfold wrE at h1; rw [if_pos h] at h1; cases h1
    have hok : okL l = true := by
      have h1 := HE.out
      unfold wrE at h1
      rw [if_neg h80] at h1
      cases hk : okL l with
      | true => rfl
      | false => rw [hk] at h1; cases h1
    have hAS : A = bkS l := by rw [← HA.out]; unfold wrS; rw [if_neg h80, hok, if_pos rfl]
    subst hAS
    have hbl : (bkS l).length ≤ 300006900 := by
      have h1 := book_len l HSZ.out l.length (Nat.le_refl _)
      rw [List.take_length] at h1
      omega
    have HOK := Lib.hid hok
    have htbs := tb_size (bkS l)
    obtain ⟨A, hA⟩ : ∃ A, bkS l = A := ⟨_, rfl⟩
    have HAS := Lib.hid hA
    rw [hA] at hbl htbs ⊢
    clear hA hok HA HE
    go_wp2_with fail
    refine Read_any (tb A) (by omega) _ (HG.out.grow HG3.out) _ ?_
    intro w4 v4 hg4 ho4
    rw [← HAS.out, book_read HOK.out (by omega)] at ho4 ⊢
    dsimp only at ho4 ⊢
    rw [map_tb_dl] at ho4
    rw [HAS.out]
    have HT4 := Lib.hid (slc_of_owns encTx_len ho4)
    have HG4 := Lib.hid (HG3.out.trans hg4)
    have htn := tb_nil
    clear hg4 ho4
    go_wp2_with fail
    refine rSameTexts_any l l v4 _ _ HT4.out (HL.out.grow HG4.out) _ ?_
    intro w5 hg5
    rw [decide_eq_true rfl]
    have HG5 := Lib.hid (HG4.out.trans hg5)
    clear hg5
    obtain ⟨m, hm, hml⟩ := keep_bd n A.length (by omega)
    have hmz : ¬ (m : Int) < 0 := by omega
    have hmA : m ≤ (tb A).size := by omega
    have hex := tb_extract A 0 m
    rw [List.drop_zero] at hex
    have HEX := Lib.hid hex
    clear hex
    go_wp2_with fail
    rw [HEX.out]
    obtain ⟨k, hk, hk1, hk2⟩ := book_some (l := l) HOK.out (by omega) (m := m) (by rw [HAS.out]; exact hml)
    rw [HAS.out] at hk1 hk2
    refine Read_any (tb (A.take m)) (by rw [tb_size, List.length_take]; omega) _ (HG.out.grow HG5.out) _ ?_
    intro w6 v6 hg6 ho6
    obtain ⟨P, hP⟩ : ∃ P, Bk.readL 80 0 (tb (A.take m)).data.toList = P := ⟨_, rfl⟩
    rw [hP] at hk1 hk2 ho6 ⊢
    clear hP
    obtain ⟨p, r⟩ := P
    dsimp only at hk1 hk2 ho6 ⊢
    subst hk1
    rw [map_tb_dl] at ho6
    have hkl : (l.take k).length = k := by rw [List.length_take]; omega
    have HT6 := Lib.hid (slc_of_owns encTx_len ho6)
    obtain ⟨ka, kc, rfl, k1, k2, jk6⟩ := slc_of_owns encTx_len ho6
    rw [hkl] at HT6 k1 ⊢
    have HG6 := Lib.hid (HG5.out.trans hg6)
    have HT3 := Lib.hid ((HL.out.grow HG6.out).take3 hk)
    have hkz : (k : Int) ≤ (l.length : Int) := by omega
    have hvk : k ≤ vc := by omega
    clear ho6 hg6 jk6 hkl hm hml
    obtain ⟨mv, hmv⟩ : ∃ q, wrap64 ((IntKind.u64.wrap n).tmod ((A.length : Int) + 1)) = q := ⟨_, rfl⟩
    rw [hmv]
    clear hmv
    have hva : (∃ ad, va = some ad) ∨ (va = none ∧ l = [] ∧ vc = 0) := by
      obtain ⟨a', c', e, _, _, h4⟩ := HL.out
      cases e
      rcases h4 with ⟨h4, h5⟩ | ⟨b, o, e, _, _⟩
      · cases va with
        | none => exact .inr ⟨rfl, h4, h5 rfl⟩
        | some ad => exact .inl ⟨ad, rfl⟩
      · exact .inl ⟨_, e⟩
    rcases hva with ⟨ad, rfl⟩ | ⟨rfl, rfl, rfl⟩
    · go_wp2_with fail
      refine rSameTexts_any (l.take k) (l.take k) _ _ _ HT6.out HT3.out _ ?_
      intro w7 hg7
      rw [decide_eq_true rfl]
      have HG7 := Lib.hid (HG6.out.trans hg7)
      clear hg7
      by_cases hr : r = []
      · subst hr
        go_wp2_with fail
        refine sane_any _ (HG.out.grow HG7.out) _ ?_
        intro w8 hg8
        have HF := Lib.hid (HR.out w8 (HG7.out.trans hg8))
        clear hg8
        go_wp2_with fail
        exact HF.out
      · have hrb := tb_nel hr
        have hrc : ((tb r).toList == []) = false := beq_eq_false_iff_ne.2 hrb
        have hkl : (k : Int) < (l.length : Int) := by have := hk2.resolve_left hr; omega
        go_wp2_with fail
        refine sane_any _ (HG.out.grow HG7.out) _ ?_
        intro w8 hg8
        have HF := Lib.hid (HR.out w8 (HG7.out.trans hg8))
        clear hg8
        go_wp2_with fail
        exact HF.out
    · obtain rfl : k = 0 := by simpa using hk
      obtain rfl : r = [] := hk2.resolve_right (by simp)
      go_wp2_with fail
      refine rSameTexts_any [] [] _ _ _ HT6.out (SlcAt.nil _ _ _) _ ?_
      intro w7 hg7
      rw [decide_eq_true rfl]
      have HG7 := Lib.hid (HG6.out.trans hg7)
      clear hg7
      go_wp2_with fail
      refine sane_any _ (HG.out.grow HG7.out) _ ?_
      intro w8 hg8
      have HF := Lib.hid (HR.out w8 (HG7.out.trans hg8))
      clear hg8
      go_wp2_with fail
      exact HF.out
end Go.Proofs.YtihdpbfhkddpcaaGreatDoor
