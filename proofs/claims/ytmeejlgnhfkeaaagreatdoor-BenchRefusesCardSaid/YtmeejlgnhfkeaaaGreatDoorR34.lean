
import Derived.Test.YtmeejlgnhfkeaaaGreatDoorProg
import Derived.Conc.RwLib
import Derived.Conc.MuData
import Derived.KernelRfl
namespace Go.Proofs
abbrev Tryz.muLink:Go.Conc.Locks.MuLink:={ lock:=34,unlock:=35,ilock:=66,iunlock:=67,lockSlow:=107,unlockSlow:=110,disable:=103,enable:=105,acquire:=106,relMerge:=108,cas32:=104,add32:=109,tMutex:=84,tIMutex:=82,tPMutex:=116,tPIMutex:=156,tPI32:=158,tUP:=160,tNoCopy:=79,tU32:=80 }
theorem Tryz.muLib:Go.Conc.Locks.MuLib Tryz.prog Tryz.muLink:=
 ⟨Tryz.func34,Tryz.func35,Tryz.func66,Tryz.func67,Tryz.func103,Tryz.func105,Tryz.func106,Tryz.func108,Tryz.func104,Tryz.func109,Tryz.underlying82,Tryz.runUnderlying82,Tryz.sizeOf82,Tryz.isAgg82,Tryz.zeroValue82,Tryz.underlying84,Tryz.runUnderlying84,Tryz.sizeOf84,Tryz.isAgg84,Tryz.zeroValue84,Tryz.underlying116,Tryz.runUnderlying116,Tryz.sizeOf116,Tryz.isAgg116,Tryz.zeroValue116,Tryz.underlying156,Tryz.runUnderlying156,Tryz.sizeOf156,Tryz.isAgg156,Tryz.zeroValue156,Tryz.underlying158,Tryz.runUnderlying158,Tryz.sizeOf158,Tryz.isAgg158,Tryz.zeroValue158,Tryz.underlying160,Tryz.runUnderlying160,Tryz.sizeOf160,Tryz.isAgg160,Tryz.zeroValue160,Tryz.underlying79,Tryz.runUnderlying79,Tryz.sizeOf79,Tryz.isAgg79,Tryz.zeroValue79,Tryz.underlying21,Tryz.runUnderlying21,Tryz.sizeOf21,Tryz.isAgg21,Tryz.zeroValue21,(by kernel_rfl)⟩
end Go.Proofs
