/- The numbers under which this dump holds sync.Mutex's functions and types, and that it holds them (printed by locks.py, as the kit's worked text StatsLocks has it; checked by the kernel). -/
import Derived.Test.YtihdpbfhkddpcaaGreatDoorProg
import Derived.Conc.RwLib
import Derived.Conc.MuData
import Derived.KernelRfl
namespace Go.Proofs
abbrev Tryz.muLink : Go.Conc.Locks.MuLink := { lock := 31, unlock := 32, ilock := 54, iunlock := 55, lockSlow := 83, unlockSlow := 86, disable := 79, enable := 81, acquire := 82, relMerge := 84, cas32 := 80, add32 := 85, tMutex := 68, tIMutex := 66, tPMutex := 102, tPIMutex := 134, tPI32 := 136, tUP := 138, tNoCopy := 63, tU32 := 64 }
theorem Tryz.muLib : Go.Conc.Locks.MuLib Tryz.prog Tryz.muLink :=
  ⟨Tryz.func31, Tryz.func32, Tryz.func54, Tryz.func55, Tryz.func79, Tryz.func81, Tryz.func82, Tryz.func84, Tryz.func80, Tryz.func85, Tryz.underlying66, Tryz.runUnderlying66, Tryz.sizeOf66, Tryz.isAgg66, Tryz.zeroValue66, Tryz.underlying68, Tryz.runUnderlying68, Tryz.sizeOf68, Tryz.isAgg68, Tryz.zeroValue68, Tryz.underlying102, Tryz.runUnderlying102, Tryz.sizeOf102, Tryz.isAgg102, Tryz.zeroValue102, Tryz.underlying134, Tryz.runUnderlying134, Tryz.sizeOf134, Tryz.isAgg134, Tryz.zeroValue134, Tryz.underlying136, Tryz.runUnderlying136, Tryz.sizeOf136, Tryz.isAgg136, Tryz.zeroValue136, Tryz.underlying138, Tryz.runUnderlying138, Tryz.sizeOf138, Tryz.isAgg138, Tryz.zeroValue138, Tryz.underlying63, Tryz.runUnderlying63, Tryz.sizeOf63, Tryz.isAgg63, Tryz.zeroValue63, Tryz.underlying21, Tryz.runUnderlying21, Tryz.sizeOf21, Tryz.isAgg21, Tryz.zeroValue21, (by kernel_rfl)⟩
end Go.Proofs
