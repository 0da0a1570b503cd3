
import Derived.Test.YtgjppekjkofdiaaGreatDoorProg
import Derived.Conc.RwLib
import Derived.Conc.MuData
import Derived.KernelRfl
namespace Go.Proofs
abbrev Tryz.muLink : Go.Conc.Locks.MuLink := { lock := 42, unlock := 43, ilock := 71, iunlock := 72, lockSlow := 112, unlockSlow := 115, disable := 108, enable := 110, acquire := 111, relMerge := 113, cas32 := 109, add32 := 114, tMutex := 88, tIMutex := 86, tPMutex := 133, tPIMutex := 176, tPI32 := 178, tUP := 180, tNoCopy := 83, tU32 := 84 }
theorem Tryz.muLib : Go.Conc.Locks.MuLib Tryz.prog Tryz.muLink :=
  ⟨Tryz.func42, Tryz.func43, Tryz.func71, Tryz.func72, Tryz.func108, Tryz.func110, Tryz.func111, Tryz.func113, Tryz.func109, Tryz.func114, Tryz.underlying86, Tryz.runUnderlying86, Tryz.sizeOf86, Tryz.isAgg86, Tryz.zeroValue86, Tryz.underlying88, Tryz.runUnderlying88, Tryz.sizeOf88, Tryz.isAgg88, Tryz.zeroValue88, Tryz.underlying133, Tryz.runUnderlying133, Tryz.sizeOf133, Tryz.isAgg133, Tryz.zeroValue133, Tryz.underlying176, Tryz.runUnderlying176, Tryz.sizeOf176, Tryz.isAgg176, Tryz.zeroValue176, Tryz.underlying178, Tryz.runUnderlying178, Tryz.sizeOf178, Tryz.isAgg178, Tryz.zeroValue178, Tryz.underlying180, Tryz.runUnderlying180, Tryz.sizeOf180, Tryz.isAgg180, Tryz.zeroValue180, Tryz.underlying83, Tryz.runUnderlying83, Tryz.sizeOf83, Tryz.isAgg83, Tryz.zeroValue83, Tryz.underlying21, Tryz.runUnderlying21, Tryz.sizeOf21, Tryz.isAgg21, Tryz.zeroValue21, (by kernel_rfl)⟩
end Go.Proofs
