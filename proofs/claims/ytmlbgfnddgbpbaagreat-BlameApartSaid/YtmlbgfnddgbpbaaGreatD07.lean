/- What the shelf's contracts on sorting leave behind, in the words of XBase. No program is named. -/
import Derived.Test.YtmlbgfnddgbpbaaGreatD00
import Derived.Shelf.Sort.Plain
import Derived.Shelf.Slices.CompactI
namespace Go.Proofs.YtmlbgfnddgbpbaaGreat
open Go.RowKit
open Go.Sort (Holds putRow grow heap_grow_old holds_putRow holds_grow holds_ahead)

theorem below_putRow {α : Type} [Inhabited α] (enc : α → Value) (w : World) (n blk off : Nat) (d : Array α) {B : Nat} (hB : B ≤ blk) : Below B w (putRow enc (Sort.ahead w n) blk off d) := by
  refine ⟨rfl, rfl, rfl, by simp, fun k hk => ?_⟩
  show (w.heap.modify blk _)[k]? = _
  rw [Array.getElem?_modify, if_neg (by omega)]
theorem below_growS {w w' : World} (os : Array Obj) {B : Nat} (h : Below B w w') (hB : B ≤ w'.heap.size) : Below B w (grow w' os) := by
  refine Below.trans h ⟨rfl, rfl, rfl, by simp [grow], fun k hk => heap_grow_old _ _ (by omega)⟩
theorem holds_int {w : World} {blk off : Nat} {xs : List Int} (h : ∀ j x, xs[j]? = some x → w.cell? ⟨blk, off + j, none⟩ = some (.int .i64 x)) (hf : ∀ j, j < xs.length → w.frozen? ⟨blk, off + j, none⟩ = false) : Holds (Value.int .i64) w blk off xs.toArray := by
  intro j hj
  have hj' : j < xs.length := by simpa using hj
  refine ⟨?_, hf j hj'⟩
  rw [h j xs[j] (List.getElem?_eq_getElem hj')]
  rw [getElem!_pos _ j hj]
  simp
theorem ints_of_holds {w : World} {blk off c : Nat} {xs : List Int} (h : Holds (Value.int .i64) w blk off xs.toArray) (hb : blk < w.heap.size) (hc : xs.length ≤ c) (hm : c ≤ 9223372036854775807) : IntsAt w (.slice (some ⟨blk, off, none⟩) xs.length c) xs := by
  refine ⟨_, c, rfl, hc, hm, .inr ⟨blk, off, rfl, hb, ?_⟩⟩
  intro j x hj i u hu
  have hi : i = 0 := by
    have := (List.getElem?_eq_some_iff.1 hu).1
    simp [encI] at this; exact this
  subst hi
  simp [encI] at hu
  subst hu
  have hj' : j < xs.length := (List.getElem?_eq_some_iff.1 hj).1
  have := (h j (by simpa using hj')).1
  rw [getElem!_pos _ j (by simpa using hj')] at this
  have hx : xs[j] = x := by rw [List.getElem?_eq_getElem hj'] at hj; exact Option.some.inj hj
  simpa [hx] using this

theorem holds_new (w : World) (cs : List Int) (n : Nat) (t : TypeId) : Holds (Value.int .i64) (w.alloc (.cells (cs.map (Value.int .i64)).toArray t)) w.heap.size 0 (cs.take n).toArray := by
  refine holds_int ?_ (fun j _ => World.frozen?_alloc_new _ _ _ _)
  intro j x hj
  rw [Nat.zero_add, World.cell?_alloc_new]
  rw [List.getElem?_take] at hj
  split at hj
  · simpa using hj
  · cases hj

theorem holds_prefix {w : World} {blk off : Nat} {xs ys : List Int} (h : Holds (Value.int .i64) w blk off (xs ++ ys).toArray) : Holds (Value.int .i64) w blk off xs.toArray := by
  intro j hj
  have hj' : j < xs.length := by simpa using hj
  have := h j (by simp; omega)
  rw [getElem!_pos _ j (by simp; omega)] at this
  rw [getElem!_pos _ j hj]
  simpa [List.getElem_append_left hj'] using this
theorem compact_le (zs : List Int) : (Lib.compact zs).length ≤ zs.length := by
  unfold Lib.compact Lib.compactUpTo
  rw [List.length_map]
  exact Nat.le_trans (List.length_filter_le _ _) (by simp)

theorem compact_two (a b : Int) : Lib.compact [a, b] = if a = b then [a] else [a, b] := by
  by_cases h : a = b
  · subst h; simp [Lib.compact, Lib.compactUpTo, Lib.keeps, List.range_succ]
  · have h' : ¬ b = a := fun e => h e.symm
    simp [Lib.compact, Lib.compactUpTo, Lib.keeps, List.range_succ, h, h']
theorem compact_one (a : Int) : Lib.compact [a] = [a] := by simp [Lib.compact, Lib.compactUpTo, Lib.keeps, List.range_succ]
theorem sort_two (a b : Int) : Lib.compact ([a, b].mergeSort fun x y => decide (x ≤ y)) = two a b := by
  by_cases h : a ≤ b
  · have : [a, b].mergeSort (fun x y => decide (x ≤ y)) = [a, b] := by simp [List.mergeSort, List.MergeSort.Internal.splitInTwo, h]
    rw [this, compact_two]
    unfold two
    by_cases e : a = b
    · simp [e]
    · simp [e, show a < b by omega]
  · have : [a, b].mergeSort (fun x y => decide (x ≤ y)) = [b, a] := by simp [List.mergeSort, List.MergeSort.Internal.splitInTwo, h]
    rw [this, compact_two]
    unfold two
    simp [show ¬ b = a by omega, show ¬ a = b by omega, show ¬ a < b by omega]
end Go.Proofs.YtmlbgfnddgbpbaaGreat
