/- The walk of the document's Read. -/
import Derived.Test.YtgjppekjkofdiaaGreatDoorG40
import Derived.RegionTactic
import Derived.Deep.RegionHeld3
import Derived.Test.YtgjppekjkofdiaaGreatDoorG36
import Derived.Lib.IndexMore
import Derived.Test.YtgjppekjkofdiaaGreatDoorG26
namespace Go.Proofs.YtgjppekjkofdiaaGreatDoor
open Go.RowKit

/-! ### Where a byte stands -/
theorem tb_extract (l : List UInt8) (i j : Nat) : (tb l).extract i j = tb ((l.take j).drop i) := by
  apply tx_eq
  rw [tb_data]
  simp [tb, ByteArray.data_extract, List.drop_take]
end Go.Proofs.YtgjppekjkofdiaaGreatDoor
