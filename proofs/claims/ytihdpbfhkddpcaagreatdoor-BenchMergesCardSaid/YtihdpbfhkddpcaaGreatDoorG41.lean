/- The walks of the document's test of a text, and of its comparison of lists of texts. -/
import Derived.Test.YtihdpbfhkddpcaaGreatDoorG40
import Derived.Test.YtihdpbfhkddpcaaGreatDoorG22
import Derived.BigQuiet
namespace Go.Proofs.YtihdpbfhkddpcaaGreatDoor
open Go.RowKit

theorem byte10 {c : UInt8} (h : c.toNat = 10) : c = 10 := UInt8.toNat_inj.1 h
set_option maxHeartbeats 4000000 in
theorem rRight_any (t : ByteArray) (w : World) (ht : t.size ≤ 9223372036854775807) (R : Ending → World → Prop)
    (hR : ∀ w', Grow w w' → R (.returned (.bool (Bk.okT t.data.toList))) w') :
    Calls Tryz.prog 43 #[.string t] w R := by
  have HR := Lib.hid hR
  have HSZ := Lib.hid (tx_len t)
  clear hR
  go_enter Tryz.func43, Tryz.ntmps43
  go_wp2_with fail
  go_loopw [3] (fun s3 wr => ∃ k : Nat, k ≤ t.size ∧ s3 = .int .i64 k ∧ Grow w wr ∧ ∀ c ∈ t.data.toList.take k, c ≠ 10) (fun s3 _ => t.size - (intOf s3).toNat)
  case atStart => exact ⟨0, Nat.zero_le _, rfl, Grow.refl _, by simp⟩
  case round =>
    obtain ⟨k, hk, rfl, hg, hno⟩ := hrel
    have HG := Lib.hid hg
    have HNO := Lib.hid hno
    clear hg hno
    by_cases hlt : k < t.size
    · have hlt2 : (k : Int) < (t.size : Int) := by omega
      obtain ⟨c, hc⟩ : ∃ c, t[k] = c := ⟨_, rfl⟩
      have hget : t.data.toList[k]? = some c := by
        rw [Array.getElem?_toList, Array.getElem?_eq_getElem hlt, ← hc]; rfl
      have HGET := Lib.hid hget
      by_cases h10 : c = 10
      · subst h10
        have hr := HR.out wr HG.out
        rw [show Bk.okT t.data.toList = false by
          rw [← Bool.not_eq_true, Bk.okT_iff]
          rintro ⟨_, _, h⟩
          exact h (List.mem_of_getElem? HGET.out)] at hr
        have HF := Lib.hid hr
        clear hr hget
        go_wp2_with fail
        exact HF.out
      · have hcn : ((c.toNat : Nat) : Int) ≠ 10 := fun h => h10 (byte10 (by omega))
        have hcb : (((c.toNat : Nat) : Int) == 10) = false := beq_eq_false_iff_ne.2 hcn
        clear hget
        go_wp2_with fail
        go_roundw
        case rel =>
          refine ⟨k + 1, by omega, by go_num, HG.out, fun d hd => ?_⟩
          rw [List.take_add_one, HGET.out] at hd
          rcases List.mem_append.1 hd with hd | hd
          · exact HNO.out d hd
          · simp at hd; subst hd; exact h10
        case measure => simp [intOf]; omega
    · have hk2 : k = t.size := by omega
      subst hk2
      have hno : (10 : UInt8) ∉ t.data.toList := fun h => by
        have := HNO.out
        rw [HSZ.out, List.take_length] at this
        exact this 10 h rfl
      have hr := HR.out wr HG.out
      rw [show Bk.okT t.data.toList = (decide (1 ≤ t.size) && decide (t.size ≤ 30)) by
        unfold Bk.okT
        rw [← HSZ.out, show t.data.toList.contains 10 = false by rw [← Bool.not_eq_true, List.contains_iff_mem]; exact hno]
        simp] at hr
      have HF := Lib.hid hr
      clear hr hno
      by_cases h1 : 1 ≤ t.size
      · have h1z : (1 : Int) ≤ (t.size : Int) := by omega
        by_cases h2 : t.size ≤ 30
        · have h2z : (t.size : Int) ≤ 30 := by omega
          have hf := HF.out
          rw [decide_eq_true h1, decide_eq_true h2] at hf
          have HF2 := Lib.hid hf
          clear hf
          go_wp2_with fail
          exact HF2.out
        · have h2z : ¬ (t.size : Int) ≤ 30 := by omega
          have hf := HF.out
          rw [decide_eq_true h1, decide_eq_false h2] at hf
          have HF2 := Lib.hid hf
          clear hf
          go_wp2_with fail
          exact HF2.out
      · have h1z : ¬ (1 : Int) ≤ (t.size : Int) := by omega
        have hf := HF.out
        rw [decide_eq_false h1] at hf
        have HF2 := Lib.hid hf
        clear hf
        go_wp2_with fail
        exact HF2.out

set_option maxHeartbeats 4000000 in
theorem rSameTexts_any (xs ys : List ByteArray) (v u : Value) (w : World) (hx : TextsAt w v xs) (hy : TextsAt w u ys) (R : Ending → World → Prop)
    (hR : ∀ w', Grow w w' → R (.returned (.bool (decide (xs = ys)))) w') :
    Calls Tryz.prog 21 #[v, u] w R := by
  have HX := Lib.hid hx
  have HY := Lib.hid hy
  have HR := Lib.hid hR
  obtain ⟨va, vc, rfl, v1, v2, jk⟩ := hx
  obtain ⟨ua, uc, rfl, u1, u2, jk2⟩ := hy
  clear hR jk jk2
  by_cases hl : xs.length = ys.length
  rotate_left
  · have hlz : ((xs.length : Int) != (ys.length : Int)) = true := by simpa using fun h => hl (by omega)
    have hr := HR.out w (Grow.refl _)
    rw [decide_eq_false (fun e => hl (by rw [e]))] at hr
    have HF := Lib.hid hr
    clear hr hl
    go_enter Tryz.func21, Tryz.ntmps21
    go_wp2_with fail
    exact HF.out
  have HL := Lib.hid hl
  rw [← hl]
  clear hl
  go_enter Tryz.func21, Tryz.ntmps21
  go_wp2_with fail
  go_loopw [5] (fun s3 wr => ∃ k : Nat, k ≤ xs.length ∧ s3 = .int .i64 k ∧ Grow w wr ∧ xs.take k = ys.take k) (fun s3 _ => xs.length - (intOf s3).toNat)
  case atStart => exact ⟨0, Nat.zero_le _, rfl, Grow.refl _, by simp⟩
  case round =>
    obtain ⟨k, hk, rfl, hg, hno⟩ := hrel
    have HG := Lib.hid hg
    have HNO := Lib.hid hno
    clear hg hno
    by_cases hlt : k < xs.length
    · have hlt2 : (k : Int) < (xs.length : Int) := by omega
      obtain ⟨x, hx⟩ : ∃ x, xs[k]? = some x := ⟨_, List.getElem?_eq_getElem hlt⟩
      obtain ⟨y, hy⟩ : ∃ y, ys[k]? = some y := ⟨_, List.getElem?_eq_getElem (by have := HL.out; omega)⟩
      obtain ⟨b, o, rfl, hb, e0⟩ := texts_at (HX.out.grow HG.out) hx
      have hy2 := texts_at (HY.out.grow HG.out) hy
      obtain ⟨b2, o2, rfl, hb2, f0⟩ := hy2
      have HXE := Lib.hid hx
      have HYE := Lib.hid hy
      clear hx hy
      by_cases hxy : x = y
      · subst hxy
        go_wp2_with (go_quiet (fail))
        go_roundw
        case rel =>
          have ht : xs.take (k + 1) = ys.take (k + 1) := by rw [List.take_add_one, List.take_add_one, HXE.out, HYE.out, HNO.out]
          exact ⟨k + 1, by omega, by go_num, HG.out.drewN _, ht⟩
        case measure => simp [intOf]; omega
      · have t1 := tx_ne hxy
        have hr := fun n => HR.out _ (HG.out.drewN n)
        rw [decide_eq_false (fun e => hxy (by have h1 := HXE.out; rw [e, HYE.out] at h1; exact (Option.some.inj h1).symm))] at hr
        have HF := Lib.hid hr
        clear hr
        go_wp2_with (go_quiet (fail))
        exact HF.out _
    · have hk2 : k = xs.length := by omega
      subst hk2
      have hr := HR.out wr HG.out
      rw [decide_eq_true (by have h1 := HNO.out; rw [List.take_length, HL.out, List.take_length] at h1; exact h1)] at hr
      have HF := Lib.hid hr
      clear hr
      go_wp2_with fail
      exact HF.out
end Go.Proofs.YtihdpbfhkddpcaaGreatDoor
