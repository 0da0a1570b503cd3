/- The walks of package code: what a line reads. -/
import Derived.Test.YtfbfkkaepgcggaaGreatQ23
import Derived.Test.YtfbfkkaepgcggaaGreatQ06
import Derived.Test.YtfbfkkaepgcggaaGreatQ00
import Derived.Test.YtfbfkkaepgcggaaGreatQ25
import Derived.Deep.RegionHeld3
import Derived.Deep.RegionWith
namespace Go.Proofs.YtfbfkkaepgcggaaGreat
open Go.RowKit
open Go.Sort (Holds putRow grow heap_grow_old holds_putRow holds_grow holds_ahead)

theorem sortI_any (blk off cap : Nat) (zs : List Int) (w : World) (hH : Holds (Value.int .i64) w blk off zs.toArray) (hblk : blk < w.heap.size) (hsz : zs.length < 1000000000000) (B : Nat) (hB : B ≤ blk) (R : Ending → World → Prop)
    (hR : ∀ w', Below B w w' → Holds (Value.int .i64) w' blk off (zs.mergeSort fun x y => decide (x ≤ y)).toArray → blk < w'.heap.size → R (.returned (.tuple #[])) w') :
    Calls Tryz.prog 78 #[.slice (some ⟨blk, off, none⟩) zs.length cap] w R := by
  refine (Tryz.slices_Sort_int blk off cap zs w hH hblk (by omega)).mono ?_
  rintro e w' ⟨rfl, n, os, rfl⟩
  have h1 := below_putRow (Value.int .i64) w n blk off (zs.mergeSort fun x y => decide (x ≤ y)).toArray hB
  have hz : (putRow (Value.int .i64) (Sort.ahead w n) blk off (zs.mergeSort fun x y => decide (x ≤ y)).toArray).heap.size = w.heap.size := by simp
  have h2 := holds_putRow (Value.int .i64) (Sort.ahead w n) blk off zs.toArray (zs.mergeSort fun x y => decide (x ≤ y)).toArray (holds_ahead _ _ n _ _ _ hH) (by simp)
  refine hR _ (below_growS os h1 (by omega)) (holds_grow _ _ os _ _ _ (by omega) h2) ?_
  simp [grow]; omega

end Go.Proofs.YtfbfkkaepgcggaaGreat
