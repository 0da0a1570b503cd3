
import Derived.Test.YtmeejlgnhfkeaaaGreatDoorR00
import Derived.Shelf.SlSortCmp.WholeK
import Derived.Shelf.Slices.CompactI
namespace Go.Proofs.YtmeejlgnhfkeaaaGreatDoor
open Go.RowKit
open Go.Sort (Holds putRow grow heap_grow_old holds_putRow holds_grow holds_ahead)
theorem zei {α:Type} [Inhabited α] (enc:α→Value) (w:World) (n blk off:Nat) (d:Array α) {B:Nat} (hB:B≤blk):Below B w (putRow enc (Sort.ahead w n) blk off d):=by
 refine ⟨rfl,rfl,rfl,by simp,fun k hk=>?_⟩
 show (w.heap.modify blk _)[k]?=_
 rw [Array.getElem?_modify,if_neg (by omega)]
theorem zgq {w w':World} (os:Array Obj) {B:Nat} (h:Below B w w') (hB:B≤w'.heap.size):Below B w (grow w' os):=by
 refine Below.trans h ⟨rfl,rfl,rfl,by simp [grow],fun k hk=>heap_grow_old _ _ (by omega)⟩
end Go.Proofs.YtmeejlgnhfkeaaaGreatDoor
