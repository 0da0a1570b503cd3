/- Worlds in which some blocks are hidden: what a call changes in place lies in them; what is read in such a world holds in the world itself, and stays while the hidden blocks change. No program is named. -/
import Derived.Test.YtihdpbfhkddpcaaGreatDoorG18
import Derived.Test.YtihdpbfhkddpcaaGreatDoorG00
import Derived.Test.YtihdpbfhkddpcaaGreatDoorG22
namespace Go.Proofs.YtihdpbfhkddpcaaGreatDoor
open Go.RowKit

/-- The world with the blocks of H hidden. -/
def hideW (H : Nat → Bool) (w : World) : World := { w with heap := w.heap.mapIdx fun i o => if H i then .cells #[] 0 (0, 0) else o }
theorem hide_size (H : Nat → Bool) (w : World) : (hideW H w).heap.size = w.heap.size := by simp [hideW]
theorem hide_heap (H : Nat → Bool) (w : World) (k : Nat) : (hideW H w).heap[k]? = (w.heap[k]?).map fun o => if H k then .cells #[] 0 (0, 0) else o := by
  simp [hideW, Array.getElem?_mapIdx]
theorem hide_off {H : Nat → Bool} {w : World} {k : Nat} (h : H k = false) : (hideW H w).heap[k]? = w.heap[k]? := by
  rw [hide_heap, h]; cases w.heap[k]? <;> rfl
theorem Grow.hide {w w' : World} (g : Grow w w') {H H' : Nat → Bool} (hH : ∀ k, k < w.heap.size → H' k = H k) : Grow (hideW H w) (hideW H' w') := by
  refine ⟨g.os, g.tape, g.output, by rw [hide_size, hide_size]; exact g.sz, fun k hk => ?_⟩
  rw [hide_size] at hk
  rw [hide_heap, hide_heap, g.heap hk, hH k hk]
theorem Grow.hid {w w' : World} (g : Grow w w') (H : Nat → Bool) : Grow (hideW H w) (hideW H w') := g.hide fun _ _ => rfl
theorem hide_cell {H : Nat → Bool} {w : World} {a : Addr} {v : Value} (h : (hideW H w).cell? a = some v) : w.cell? a = some v ∧ H a.block = false := by
  cases hh : H a.block with
  | false => exact ⟨by rw [← World.cell?_of_block (w := w) (w' := hideW H w) (hide_off hh)]; exact h, rfl⟩
  | true =>
    exfalso
    unfold World.cell? at h
    rw [hide_heap, hh] at h
    cases hb : w.heap[a.block]? with
    | none => rw [hb] at h; simp at h
    | some o => rw [hb] at h; simp at h
theorem hide_cell_off {H : Nat → Bool} {w : World} {a : Addr} (h : H a.block = false) : (hideW H w).cell? a = w.cell? a := World.cell?_of_block (w := w) (w' := hideW H w) (hide_off h)
theorem SlcAt.unhide {α : Type} {k : Nat} {enc : α → List Value} {H : Nat → Bool} {w : World} {v : Value} {xs : List α} (h : SlcAt k enc (hideW H w) v xs) : SlcAt k enc w v xs := by
  obtain ⟨a, c, h1, h2, h3, h4⟩ := h
  refine ⟨a, c, h1, h2, h3, h4.imp id ?_⟩
  rintro ⟨b, o, e, hb, hc⟩
  exact ⟨b, o, e, by rwa [hide_size] at hb, fun j x hx i u hu => (hide_cell (hc j x hx i u hu)).1⟩
theorem TestsAt.unhide {H : Nat → Bool} {w : World} {v : Value} {ts : List Tst} (h : TestsAt (hideW H w) v ts) : TestsAt w v ts := ⟨h.at_.unhide, fun t ht => (h.ins t ht).unhide⟩
/-- A list that lies in no hidden block. -/
theorem SlcAt.hide {α : Type} {k : Nat} {enc : α → List Value} {H : Nat → Bool} {w : World} {v : Value} {xs : List α} (h : SlcAt k enc w v xs) (hb : ∀ b o n c, v = .slice (some ⟨b, o, none⟩) n c → H b = false ∨ xs = []) : SlcAt k enc (hideW H w) v xs := by
  obtain ⟨a, c, h1, h2, h3, h4⟩ := h
  refine ⟨a, c, h1, h2, h3, ?_⟩
  rcases h4 with h4 | ⟨b, o, e, hlt, hc⟩
  · exact .inl h4
  · subst e
    rcases hb b o _ _ h1 with h5 | h5
    · exact .inr ⟨b, o, rfl, by rw [hide_size]; exact hlt, fun j x hx i u hu => by rw [hide_cell_off h5]; exact hc j x hx i u hu⟩
    · exact .inl ⟨h5, fun e => by cases e⟩
theorem SlcAt.hide_new {α : Type} {k : Nat} {enc : α → List Value} {H : Nat → Bool} {w : World} {v : Value} {xs : List α} (h : SlcAt k enc w v xs) {base : Nat} (hn : NewS base v) (hH : ∀ b, base ≤ b → H b = false) : SlcAt k enc (hideW H w) v xs :=
  h.hide fun b _ n c e => .inl (hH b (hn _ n c e))
/-- No hidden block holds four numbers in a row: so no list of lines or edits lies in one. -/
def NoQ (H : Nat → Bool) (w : World) : Prop := ∀ b o, H b = true → ∃ i : Nat, i < 4 ∧ ∀ n : Int, w.cell? ⟨b, o + i, none⟩ ≠ some (.int .i64 n)
theorem NoQ.grow {H : Nat → Bool} {w w' : World} (h : NoQ H w) (g : Grow w w') (hH : ∀ b, H b = true → b < w.heap.size) : NoQ H w' := by
  intro b o hb
  obtain ⟨i, hi, hn⟩ := h b o hb
  exact ⟨i, hi, fun n => by rw [Below.cell (p := ⟨b, o + i, none⟩) g (hH b hb)]; exact hn n⟩
theorem SlcAt.hide_q {α : Type} {k : Nat} {enc : α → List Value} {H : Nat → Bool} {w : World} {v : Value} {xs : List α} (h : SlcAt k enc w v xs) (hq : NoQ H w) (he : ∀ x, ∀ i : Nat, i < 4 → ∃ n : Int, (enc x)[i]? = some (.int .i64 n)) : SlcAt k enc (hideW H w) v xs := by
  obtain ⟨a, c, h1, h2, h3, h4⟩ := h
  refine ⟨a, c, h1, h2, h3, ?_⟩
  rcases h4 with h4 | ⟨b, o, e, hlt, hc⟩
  · exact .inl h4
  · subst e
    cases xs with
    | nil => exact .inl ⟨rfl, fun e => by cases e⟩
    | cons x r =>
      cases hh : H b with
      | false => exact .inr ⟨b, o, rfl, by rw [hide_size]; exact hlt, fun j x hx i u hu => by rw [hide_cell_off (by exact hh)]; exact hc j x hx i u hu⟩
      | true =>
        exfalso
        obtain ⟨i, hi, hn⟩ := hq b o hh
        obtain ⟨n, hn2⟩ := he x i hi
        have := hc 0 x rfl i _ hn2
        rw [Nat.zero_mul, Nat.add_zero] at this
        exact hn n this
theorem lines_hide {H : Nat → Bool} {w : World} {v : Value} {p : List Ln} (h : LinesAt w v p) (hq : NoQ H w) : LinesAt (hideW H w) v p :=
  h.hide_q hq fun x i hi => by
    rcases i with _ | _ | _ | _ | i
    · exact ⟨_, rfl⟩
    · exact ⟨_, rfl⟩
    · exact ⟨_, rfl⟩
    · exact ⟨_, rfl⟩
    · omega
theorem edits_hide {H : Nat → Bool} {w : World} {v : Value} {p : List Ed} (h : EditsAt w v p) (hq : NoQ H w) : EditsAt (hideW H w) v p :=
  h.hide_q hq fun x i hi => by
    rcases i with _ | _ | _ | _ | i
    · exact ⟨_, rfl⟩
    · exact ⟨_, rfl⟩
    · exact ⟨_, rfl⟩
    · exact ⟨_, rfl⟩
    · omega
/-- A store into a hidden block is not seen. -/
theorem hide_setCell {H : Nat → Bool} {w : World} {a : Addr} (h : H a.block = true) (v : Value) : hideW H (w.setCell a v) = hideW H w := by
  have : (hideW H (w.setCell a v)).heap = (hideW H w).heap := by
    apply Array.ext_getElem?
    intro k
    rw [hide_heap, hide_heap]
    by_cases hk : k = a.block
    · subst hk
      rw [h]
      have hs : (w.setCell a v).heap.size = w.heap.size := by simp [World.setCell]
      cases h1 : (w.setCell a v).heap[a.block]? with
      | none =>
        have : w.heap.size ≤ a.block := by rw [← hs]; exact Array.getElem?_eq_none_iff.1 h1
        rw [Array.getElem?_eq_none this]
      | some o1 =>
        have : a.block < w.heap.size := by rw [← hs]; exact lt_of_block h1
        rw [Array.getElem?_eq_getElem this]; rfl
    · rw [Below.heap_setCell _ _ _ _ hk]
  unfold hideW at this ⊢
  rw [show (w.setCell a v).tape = w.tape from rfl]
  congr 1
/-! ### Lists of lists -/
structure LlAt {α : Type} (k : Nat) (enc : α → List Value) (w : World) (v : Value) (L : List (Lo α)) : Prop where
  at_ : SlcAt 1 encLo w v L
  ins : ∀ t ∈ L, SlcAt k enc w t.v t.x
theorem LlAt.grow {α : Type} {k : Nat} {enc : α → List Value} {w w' : World} {v : Value} {L : List (Lo α)} (h : LlAt k enc w v L) (g : Grow w w') : LlAt k enc w' v L := ⟨h.at_.grow g, fun t ht => (h.ins t ht).grow g⟩
theorem LlAt.unhide {α : Type} {k : Nat} {enc : α → List Value} {H : Nat → Bool} {w : World} {v : Value} {L : List (Lo α)} (h : LlAt k enc (hideW H w) v L) : LlAt k enc w v L := ⟨h.at_.unhide, fun t ht => (h.ins t ht).unhide⟩
theorem LlAt.nil {α : Type} (k : Nat) (enc : α → List Value) (w : World) : LlAt k enc w (.slice none 0 0) [] := ⟨SlcAt.nil _ _ _, by simp⟩

end Go.Proofs.YtihdpbfhkddpcaaGreatDoor
