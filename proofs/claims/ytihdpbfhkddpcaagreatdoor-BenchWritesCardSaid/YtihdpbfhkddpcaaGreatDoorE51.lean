/- The walk of the test whether orders are too long for a statement. -/
import Derived.Test.YtihdpbfhkddpcaaGreatDoorE45
import Derived.BigQuiet
namespace Go.Proofs.YtihdpbfhkddpcaaGreatDoor
open Go.RowKit

def lngT (l : List ByteArray) : Bool := l.any (fun t => decide (400 < t.size)) || decide (300 < l.length)
theorem lngT_no {l : List ByteArray} (h : lngT l = false) : (∀ t ∈ l, t.size ≤ 400) ∧ l.length ≤ 300 := by
  unfold lngT at h
  rw [Bool.or_eq_false_iff, decide_eq_false_iff_not] at h
  refine ⟨fun t ht => ?_, by omega⟩
  have := List.any_eq_false.1 h.1 t ht
  simp at this; exact this
theorem lngT_hit {l : List ByteArray} {k : Nat} {t : ByteArray} (ht : l[k]? = some t) (h : 400 < t.size) : lngT l = true := by
  unfold lngT
  rw [Bool.or_eq_true]
  exact .inl (List.any_eq_true.2 ⟨t, List.mem_of_getElem? ht, by simpa using h⟩)
theorem lngT_end {l : List ByteArray} (h : ∀ t ∈ l, t.size ≤ 400) : lngT l = decide (300 < l.length) := by
  unfold lngT
  rw [show l.any (fun t => decide (400 < t.size)) = false by rw [List.any_eq_false]; intro t ht; have := h t ht; simp; exact this, Bool.false_or]
set_option maxHeartbeats 4000000 in
theorem Long9_any (l : List ByteArray) (v : Value) (w : World) (hl : TextsAt w v l) (R : Ending → World → Prop) (hR : ∀ w', Grow w w' → R (.returned (.bool (lngT l))) w') :
    Calls Tryz.prog 9 #[v] w R := by
  have HR := Lib.hid hR
  have HL := Lib.hid hl
  obtain ⟨va, vc, rfl, v1, v2, jk⟩ := hl
  clear hR jk
  go_enter Tryz.func9, Tryz.ntmps9
  go_wp2_with fail
  go_loopw [3] (fun s3 wr => ∃ k : Nat, k ≤ l.length ∧ s3 = .int .i64 k ∧ Grow w wr ∧ ∀ t ∈ l.take k, t.size ≤ 400) (fun s3 _ => l.length - (intOf s3).toNat)
  case atStart => exact ⟨0, Nat.zero_le _, rfl, Grow.refl w, by simp⟩
  case round =>
    obtain ⟨k, hk, rfl, hg, hall⟩ := hrel
    have HGR := Lib.hid hg
    have HALL := Lib.hid hall
    clear hg hall
    by_cases hlt : k < l.length
    · have hltz : (k : Int) < (l.length : Int) := by omega
      obtain ⟨t, ht⟩ : ∃ t, l[k]? = some t := ⟨_, List.getElem?_eq_getElem hlt⟩
      obtain ⟨b, o, rfl, hb, y0⟩ := texts_at (HL.out.grow HGR.out) ht
      have HT := Lib.hid ht
      clear ht
      by_cases h4 : 400 < t.size
      · have h4z : decide ((t.size : Int) > 400) = true := by rw [decide_eq_true_eq]; omega
        have hf := HR.out wr HGR.out
        rw [lngT_hit HT.out h4] at hf
        have HF := Lib.hid hf
        clear hf
        go_wp2_with (go_quiet (fail))
        exact HF.out
      · have h4z : decide ((t.size : Int) > 400) = false := by rw [decide_eq_false_iff_not]; omega
        go_wp2_with (go_quiet (fail))
        go_roundw
        case rel =>
          refine ⟨k + 1, by omega, by go_num, HGR.out, fun u hu => ?_⟩
          rw [List.take_add_one, HT.out] at hu
          rcases List.mem_append.1 hu with hu | hu
          · exact HALL.out u hu
          · simp at hu; subst hu; omega
        case measure => simp [intOf]; omega
    · obtain rfl : k = l.length := by omega
      have hltz : ¬ (l.length : Int) < (l.length : Int) := by omega
      have hf := HR.out wr HGR.out
      rw [lngT_end (by have := HALL.out; rwa [List.take_length] at this)] at hf
      have hd : decide ((l.length : Int) > 300) = decide (300 < l.length) := by rw [decide_eq_decide]; omega
      obtain ⟨q, hq⟩ : ∃ q, decide (300 < l.length) = q := ⟨_, rfl⟩
      rw [hq] at hf hd
      have HF := Lib.hid hf
      clear hf hq
      go_wp2_with fail
      exact HF.out
end Go.Proofs.YtihdpbfhkddpcaaGreatDoor
