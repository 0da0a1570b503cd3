/- What the shelf's contracts on sorting leave behind, in the words of XBase. No program is named. -/
import Derived.Test.YtfbfkkaepgcggaaGreatQ00
import Derived.Shelf.Sort.Plain
import Derived.Shelf.Slices.CompactI
namespace Go.Proofs.YtfbfkkaepgcggaaGreat
open Go.RowKit
open Go.Sort (Holds putRow grow heap_grow_old holds_putRow holds_grow holds_ahead)

theorem below_putRow {α : Type} [Inhabited α] (enc : α → Value) (w : World) (n blk off : Nat) (d : Array α) {B : Nat} (hB : B ≤ blk) : Below B w (putRow enc (Sort.ahead w n) blk off d) := by
  refine ⟨rfl, rfl, rfl, by simp, fun k hk => ?_⟩
  show (w.heap.modify blk _)[k]? = _
  rw [Array.getElem?_modify, if_neg (by omega)]
theorem below_growS {w w' : World} (os : Array Obj) {B : Nat} (h : Below B w w') (hB : B ≤ w'.heap.size) : Below B w (grow w' os) := by
  refine Below.trans h ⟨rfl, rfl, rfl, by simp [grow], fun k hk => heap_grow_old _ _ (by omega)⟩
theorem holds_int {w : World} {blk off : Nat} {xs : List Int} (h : ∀ j x, xs[j]? = some x → w.cell? ⟨blk, off + j, none⟩ = some (.int .i64 x)) (hf : ∀ j, j < xs.length → w.frozen? ⟨blk, off + j, none⟩ = false) : Holds (Value.int .i64) w blk off xs.toArray := by
  intro j hj
  have hj' : j < xs.length := by simpa using hj
  refine ⟨?_, hf j hj'⟩
  rw [h j xs[j] (List.getElem?_eq_getElem hj')]
  rw [getElem!_pos _ j hj]
  simp
theorem ints_of_holds {w : World} {blk off c : Nat} {xs : List Int} (h : Holds (Value.int .i64) w blk off xs.toArray) (hb : blk < w.heap.size) (hc : xs.length ≤ c) (hm : c ≤ 9223372036854775807) : IntsAt w (.slice (some ⟨blk, off, none⟩) xs.length c) xs := by
  refine ⟨_, c, rfl, hc, hm, .inr ⟨blk, off, rfl, hb, ?_⟩⟩
  intro j x hj i u hu
  have hi : i = 0 := by
    have := (List.getElem?_eq_some_iff.1 hu).1
    simp [encI] at this; exact this
  subst hi
  simp [encI] at hu
  subst hu
  have hj' : j < xs.length := (List.getElem?_eq_some_iff.1 hj).1
  have := (h j (by simpa using hj')).1
  rw [getElem!_pos _ j (by simpa using hj')] at this
  have hx : xs[j] = x := by rw [List.getElem?_eq_getElem hj'] at hj; exact Option.some.inj hj
  simpa [hx] using this

end Go.Proofs.YtfbfkkaepgcggaaGreat
