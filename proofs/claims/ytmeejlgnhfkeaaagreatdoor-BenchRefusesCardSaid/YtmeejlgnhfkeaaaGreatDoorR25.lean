/- Parts. -/
import Derived.Test.YtmeejlgnhfkeaaaGreatDoorR23
import Derived.Test.YtmeejlgnhfkeaaaGreatDoorRows
import Derived.LaidEql
import Derived.Stop.Asserts
import Derived.RowKitTokens
import Derived.Test.YtmeejlgnhfkeaaaGreatDoorR13
namespace Go.Proofs.YtmeejlgnhfkeaaaGreatDoor
open Go.RowKit Go.Extern.Stop Go.Stop Go.Extern
set_option maxHeartbeats 4000000
def errV (e:Int):Value:=if e=0 then .nilIface else .iface 118 (.agg #[.int .i64 e])
def ErrT (w:World):Prop:=w.cell? ⟨0,0,none⟩=some (.iface 208 (.agg #[.pointer (some ⟨9,91,none⟩)]))
theorem ErrT.grow {w w':World} (h:ErrT w) (g:Grow w w'):ErrT w':=g.cell h
theorem as_nil (t:Value) (w:World) :
  Calls Tryz.prog 68 #[.nilIface,t] w fun e w'=>e=.returned (.bool false)∧w'=w:=by
 go_enter Tryz.func68,Tryz.ntmps68
 go_wp2
 go_ret
 exact ⟨rfl,rfl⟩
theorem asValueOfP (t:Addr) (w:World):(ReflectliteValue.unpack (.iface 120 (.pointer (some t)))).run Tryz.prog w
  = .ok (.agg #[.pointer (some ⟨9,120,none⟩),.pointer (some ⟨w.heap.size,0,none⟩),.int .u64 150]) (w.alloc (.cells #[.pointer (some t)] 120)):=by kernel_rfl
theorem asTypeP (a : Addr) (w : World) : (ReflectliteValue.methodAny (ReflectliteValue.valueError "reflectlite.Value.Type" 0) (fun t _ _ _ => ReflectliteType.toType t) #[.agg #[.pointer (some ⟨9, 120, none⟩), .pointer (some a), .int .u64 150]]).run Tryz.prog w
  = .ok (.iface 208 (.agg #[.pointer (some ⟨9,120,none⟩)])) w:=by kernel_rfl
theorem asMKind (h : Value) (w : World) : (Go.method 498 208 (.agg #[h]) "Kind").run Tryz.prog w = .ok (343, h) w := by kernel_rfl
theorem asKindP (w:World):((ReflectliteType.abiMethod fun t=>(fun a:Nat=>Value.int IntKind.u8 (a:Int)) <$> Rtype.kind t) #[.pointer (some ⟨9,120,none⟩)]).run Tryz.prog w=.ok (.int .u8 22) w:=by kernel_rfl
theorem asKindR (w:World):((ReflectliteType.abiMethod fun t=>(fun a:Nat=>Value.int IntKind.u8 (a:Int)) <$> Rtype.kind t) #[.pointer (some ⟨9,118,none⟩)]).run Tryz.prog w=.ok (.int .u8 25) w:=by kernel_rfl
theorem rlm (z:Sem Value) (f:TypeId→Addr→Nat→Nat→Sem Value) (v:Value) :
  ReflectliteValue.method z f #[v]=(do match ← ReflectliteValue.parts v with | none=>z | some (t,a,fl)=>f t a fl (fl % 32)):=rfl
theorem asPartsP (a:Addr) (w:World):(ReflectliteValue.parts (.agg #[.pointer (some ⟨9,120,none⟩),.pointer (some a),.int .u64 150])).run Tryz.prog w=.ok (some (120,a,150)) w:=by kernel_rfl
theorem asIsNilP (a p:Addr) (W:World) (ha:W.cell? a=some (.pointer (some p))) :
  (ReflectliteValue.method (ReflectliteValue.valueError "reflectlite.Value.IsNil" 0) ReflectliteValue.isNil #[.agg #[.pointer (some ⟨9, 120, none⟩), .pointer (some a), .int .u64 150]]).run Tryz.prog W = .ok (.bool false) W := by
 rw [rlm];simp only [Sem.run_bind,asPartsP,Result.andThen];simp [ReflectliteValue.isNil,loadVar,isAgg,underlying,Tryz.underlying120,ha,Result.andThen]
theorem asMElem (h : Value) (w : World) : (Go.method 498 208 (.agg #[h]) "Elem").run Tryz.prog w = .ok (355, .agg #[h]) w := by kernel_rfl
theorem asMImpl (h : Value) (w : World) : (Go.method 498 208 (.agg #[h]) "Implements").run Tryz.prog w = .ok (356, .agg #[h]) w := by kernel_rfl
theorem asMAssign (h : Value) (w : World) : (Go.method 498 208 (.agg #[h]) "AssignableTo").run Tryz.prog w = .ok (353, .agg #[h]) w := by kernel_rfl
theorem asElemP (w:World):(ReflectliteType.method ReflectliteType.elem #[.agg #[.pointer (some ⟨9,120,none⟩)]]).run Tryz.prog w=.ok (.iface 208 (.agg #[.pointer (some ⟨9,118,none⟩)])) w:=by kernel_rfl
theorem asImplR (w : World) : (ReflectliteType.relation "Implements" ReflectliteType.implements_ #[.agg #[.pointer (some ⟨9, 118, none⟩)], .iface 208 (.agg #[.pointer (some ⟨9, 91, none⟩)])]).run Tryz.prog w = .ok (.bool true) w := by kernel_rfl
theorem asTypeOfR (v:Value) (w:World):(ReflectliteType.typeOf #[.iface 118 v]).run Tryz.prog w=.ok (.iface 208 (.agg #[.pointer (some ⟨9,118,none⟩)])) w:=by kernel_rfl
theorem asAssignR (w : World) : (ReflectliteType.relation "AssignableTo" ReflectliteType.assignableTo #[.agg #[.pointer (some ⟨9, 118, none⟩)], .iface 208 (.agg #[.pointer (some ⟨9, 118, none⟩)])]).run Tryz.prog w = .ok (.bool true) w := by kernel_rfl
theorem asValueOfR (n:Int) (w:World):(ReflectliteValue.unpack (.iface 118 (.agg #[.int .i64 n]))).run Tryz.prog w
  = .ok (.agg #[.pointer (some ⟨9,118,none⟩),.pointer (some ⟨w.heap.size,0,none⟩),.int .u64 153]) (w.alloc (.cells #[.int .i64 n] 118)):=by kernel_rfl
theorem asElemOfP (w:World):(Rtype.elem? 120).run Tryz.prog w=.ok (some 118) w:=by kernel_rfl
theorem asMkR (p:Addr) (w:World):(ReflectliteValue.mk 118 p ReflectliteValue.flagAddr).run Tryz.prog w=.ok (.agg #[.pointer (some ⟨9,118,none⟩),.pointer (some p),.int .u64 409]) w:=by kernel_rfl
theorem asElemVP (a p:Addr) (W:World) (ha:W.cell? a=some (.pointer (some p))) :
  (ReflectliteValue.method (ReflectliteValue.valueError "reflectlite.Value.Elem" 0) ReflectliteValue.elem #[.agg #[.pointer (some ⟨9, 120, none⟩), .pointer (some a), .int .u64 150]]).run Tryz.prog W
   = .ok (.agg #[.pointer (some ⟨9,118,none⟩),.pointer (some p),.int .u64 409]) W:=by
 rw [rlm];simp only [Sem.run_bind,asPartsP,Result.andThen];simp [ReflectliteValue.elem,loadVar,isAgg,underlying,Tryz.underlying120,ha,Result.andThen,asElemOfP,asMkR]
theorem rls (v x:Value):ReflectliteValue.set #[v,x]=(do
  let (some (dst,a,fl),some (src,b,_)):=(← ReflectliteValue.parts v,← ReflectliteValue.parts x)
   | unsupported (.noEntry "extern/(internal/reflectlite.Value).Set.zeroValue")
  if fl / ReflectliteValue.flagAddr % 2 == 0 then unsupported (.noEntry "extern/(internal/reflectlite.Value).Set.unaddressable")
  let val ← loadVar src b
  if ← Rtype.directlyAssignable dst src then storeVar dst a val
  else if ← Rtype.implements dst src then
   if (← Rtype.kind src) == 20 then
    match val with
    | .nilIface => unsupported (.noEntry "extern/reflectlite: a nil value of one interface type handed on as a value of another")
    | _=>storeVar dst a val
   else storeVar dst a (.iface src val)
  else panicString ("reflectlite.Set: value of type " ++ (← Rtype.spelt src) ++ " is not assignable to type " ++ (← Rtype.spelt dst))
  pure (.tuple #[])):=rfl
theorem asPartsRa (a:Addr) (w:World):(ReflectliteValue.parts (.agg #[.pointer (some ⟨9,118,none⟩),.pointer (some a),.int .u64 409])).run Tryz.prog w=.ok (some (118,a,409)) w:=by kernel_rfl
theorem asPartsR (a:Addr) (w:World):(ReflectliteValue.parts (.agg #[.pointer (some ⟨9,118,none⟩),.pointer (some a),.int .u64 153])).run Tryz.prog w=.ok (some (118,a,153)) w:=by kernel_rfl
theorem asDirectR (w:World):(Rtype.directlyAssignable 118 118).run Tryz.prog w=.ok true w:=by kernel_rfl
theorem asSizeR (w:World):(sizeOf 118).run Tryz.prog w=.ok 1 w:=by kernel_rfl
theorem asAggR (w:World):(isAgg 118).run Tryz.prog w=.ok true w:=by kernel_rfl
theorem asSetR (ta b:Addr) (n:Int) (old:Value) (W:World) (hb:W.cell? b=some (.int .i64 n)) (ht:W.cell? ta=some old) (hf:W.frozen? ta=false) :
  (ReflectliteValue.set #[.agg #[.pointer (some ⟨9,118,none⟩),.pointer (some ta),.int .u64 409],.agg #[.pointer (some ⟨9,118,none⟩),.pointer (some b),.int .u64 153]]).run Tryz.prog W
   = .ok (.tuple #[]) (W.setCell ta (.int .i64 n)):=by
 rw [rls];have hl:(loadCells b 1).run Tryz.prog W=.ok #[.int .i64 n] W:=by
  have:=run_loadCells_list (P:=Tryz.prog) (w:=W) b [.int .i64 n] (fun j v hj=>by
   rcases j with _ | j
   ·simp at hj;subst hj;simpa [Addr.add] using hb
   ·simp at hj)
  simpa using this
 have hv:(loadVar 118 b).run Tryz.prog W=.ok (.agg #[.int .i64 n]) W:=by
  unfold loadVar;simp only [Sem.run_bind,asAggR,Result.andThen,if_true,asSizeR,hl]
  rfl
 simp only [Sem.run_bind,asPartsRa,asPartsR,Result.andThen];simp [ReflectliteValue.flagAddr,hv,Result.andThen,asDirectR,storeVar,Value.cells,storeCells,Addr.add];rw [run_store Tryz.prog W ta _ _ (by rfl)]
 simp [ht,hf]
theorem as_hit (n:Int) (t:Addr) (old:Value) (w:World) (hg:ErrT w) (ht0:w.cell? t=some old) (hf0:w.frozen? t=false) :
  Calls Tryz.prog 68 #[.iface 118 (.agg #[.int .i64 n]),.iface 120 (.pointer (some t))] w fun ev w'=>ev=.returned (.bool true)∧w'=((((w.alloc (.cells #[.pointer (some t)] 120)).alloc (.cells #[.pointer (some ⟨9,120,none⟩),.pointer (some ⟨w.heap.size,0,none⟩),.int .u64 150] 165)).alloc (.cells #[.pointer (some ⟨9,120,none⟩),.pointer (some ⟨w.heap.size,0,none⟩),.int .u64 150] 165)).alloc (.cells #[.int .i64 n] 118)).setCell t (.int .i64 n):=by
 unfold ErrT at hg;have h6:=@run_callFunc_extern Tryz.prog 111 _ (fun args=>ReflectliteValue.unpack (args.getD 0 (.tuple #[]))) Tryz.func111 (by kernel_rfl) (by kernel_rfl) (by kernel_rfl) (by kernel_rfl)
 have h7 := @run_callFunc_extern Tryz.prog 112 _ (ReflectliteValue.methodAny (ReflectliteValue.valueError "reflectlite.Value.Type" 0) (fun t _ _ _ => ReflectliteType.toType t)) Tryz.func112 (by kernel_rfl) (by kernel_rfl) (by kernel_rfl) (by kernel_rfl)
 have h8 := @run_callFunc_extern Tryz.prog 113 _ (ReflectliteValue.method (ReflectliteValue.valueError "reflectlite.Value.IsNil" 0) ReflectliteValue.isNil) Tryz.func113 (by kernel_rfl) (by kernel_rfl) (by kernel_rfl) (by kernel_rfl)
 have h27:=@run_callFunc_extern Tryz.prog 343 _ (ReflectliteType.abiMethod fun t=>do pure (.int .u8 (← Rtype.kind t))) Tryz.func343 (by kernel_rfl) (by kernel_rfl) (by kernel_rfl) (by kernel_rfl)
 have h37:=@run_callFunc_extern Tryz.prog 355 _ (ReflectliteType.method ReflectliteType.elem) Tryz.func355 (by kernel_rfl) (by kernel_rfl) (by kernel_rfl) (by kernel_rfl)
 have h38 := @run_callFunc_extern Tryz.prog 356 _ (ReflectliteType.relation "Implements" ReflectliteType.implements_) Tryz.func356 (by kernel_rfl) (by kernel_rfl) (by kernel_rfl) (by kernel_rfl)
 have h10:=@run_callFunc_extern Tryz.prog 156 _ ReflectliteType.typeOf Tryz.func156 (by kernel_rfl) (by kernel_rfl) (by kernel_rfl) (by kernel_rfl)
 have h35 := @run_callFunc_extern Tryz.prog 353 _ (ReflectliteType.relation "AssignableTo" ReflectliteType.assignableTo) Tryz.func353 (by kernel_rfl) (by kernel_rfl) (by kernel_rfl) (by kernel_rfl)
 have h11 := @run_callFunc_extern Tryz.prog 157 _ (ReflectliteValue.method (ReflectliteValue.valueError "reflectlite.Value.Elem" 0) ReflectliteValue.elem) Tryz.func157 (by kernel_rfl) (by kernel_rfl) (by kernel_rfl) (by kernel_rfl)
 have h12:=@run_callFunc_extern Tryz.prog 158 _ ReflectliteValue.set Tryz.func158 (by kernel_rfl) (by kernel_rfl) (by kernel_rfl) (by kernel_rfl)
 have tO:=asTypeOfR;have mA:=asMAssign;have a25:=asAssignR;have v25:=asValueOfR;have f6:=asValueOfP;have f7:=asTypeP;have mK:=asMKind;have mE:=asMElem;have mI:=asMImpl;have k27:=asKindP;have k25:=asKindR;have e27:=asElemP;have i25:=asImplR;have n8:=asIsNilP ⟨w.heap.size,0,none⟩ t ((w.alloc (.cells #[.pointer (some t)] 120)).alloc (.cells #[.pointer (some ⟨9,120,none⟩),.pointer (some ⟨w.heap.size,0,none⟩),.int .u64 150] 165)) (by simp)
 have hlt:0<w.heap.size:=by
  rcases Nat.eq_zero_or_pos w.heap.size with h0 | h
  ·simp [World.cell?,h0] at hg
  ·exact h
 have hg2:((w.alloc (.cells #[.pointer (some t)] 120)).alloc (.cells #[.pointer (some ⟨9,120,none⟩),.pointer (some ⟨w.heap.size,0,none⟩),.int .u64 150] 165)).cell? ⟨0,0,none⟩=some (.iface 208 (.agg #[.pointer (some ⟨9,91,none⟩)])):=by
  rw [World.cell?_alloc_lt _ _ ⟨0,0,none⟩ (by simp),World.cell?_alloc_lt _ _ ⟨0,0,none⟩ hlt];exact hg
 have htl:t.block<w.heap.size:=by
  rcases Nat.lt_or_ge t.block w.heap.size with h | h
  ·exact h
  ·simp [World.cell?,Array.getElem?_eq_none h] at ht0
 have el:=asElemVP ⟨w.heap.size,0,none⟩ t (((w.alloc (.cells #[.pointer (some t)] 120)).alloc (.cells #[.pointer (some ⟨9,120,none⟩),.pointer (some ⟨w.heap.size,0,none⟩),.int .u64 150] 165)).alloc (.cells #[.pointer (some ⟨9,120,none⟩),.pointer (some ⟨w.heap.size,0,none⟩),.int .u64 150] 165)) (by rw [World.cell?_alloc_lt _ _ ⟨w.heap.size,0,none⟩ (by simp;omega)];simp)
 have st:=asSetR t ⟨w.heap.size+1+1+1,0,none⟩ n old ((((w.alloc (.cells #[.pointer (some t)] 120)).alloc (.cells #[.pointer (some ⟨9,120,none⟩),.pointer (some ⟨w.heap.size,0,none⟩),.int .u64 150] 165)).alloc (.cells #[.pointer (some ⟨9,120,none⟩),.pointer (some ⟨w.heap.size,0,none⟩),.int .u64 150] 165)).alloc (.cells #[.int .i64 n] 118))
  (by rw [World.cell?_alloc_at _ _ _ _ (by simp)];rfl)
  (by rw [World.cell?_alloc_lt _ _ t (by simp;omega),World.cell?_alloc_lt _ _ t (by simp;omega),World.cell?_alloc_lt _ _ t (by simp;omega),World.cell?_alloc_lt _ _ t htl];exact ht0)
  (by rw [World.frozen?_alloc_old _ _ t (by simp;omega),World.frozen?_alloc_old _ _ t (by simp;omega),World.frozen?_alloc_old _ _ t (by simp;omega),World.frozen?_alloc_old _ _ t (Nat.ne_of_lt htl)];exact hf0)
 go_enter Tryz.func68,Tryz.ntmps68
 go_wp2
 refine wp_loop_rounds 1 ?_;rw [rounds_succ]
 go_wp2
 go_ret
 exact ⟨rfl,rfl⟩
theorem zuy (e:Int) (w:World) (hg:ErrT w) (R:Ending→World→Prop) (hR:∀ w',Grow w w'→R (.returned (.int .i64 e)) w') :
  Calls Tryz.prog 36 #[errV e] w R:=by
 have HR:=jH hR;clear hR;unfold errV;by_cases h0:e=0
 ·subst h0;rw [if_pos rfl]
  go_enter Tryz.func36,Tryz.ntmps36
  go_wp2_with (go_at_call 68;refine (as_nil _ _).mono ?_;rintro e w' ⟨rfl,rfl⟩);exact HR.out _ ((Grow.refl w).alloc _)
 ·rw [if_neg h0];have hgA:ErrT (w.alloc (.cells #[.int .i64 0] 118)):=hg.grow ((Grow.refl w).alloc _);have htA:(w.alloc (.cells #[.int .i64 0] 118)).cell? ⟨w.heap.size,0,none⟩=some (.int .i64 0):=by simp
  have hfA:(w.alloc (.cells #[.int .i64 0] 118)).frozen? ⟨w.heap.size,0,none⟩=false:=by simp
  have HG:=jH hgA;clear hgA hg
  go_enter Tryz.func36,Tryz.ntmps36
  go_wp2_with (go_at_call 68;refine (as_hit e _ (.int .i64 0) _ HG.out htA hfA).mono ?_;rintro e w' ⟨rfl,rfl⟩);refine HR.out _ ?_;exact (((((Grow.refl w).alloc _).alloc _).alloc _).alloc _).alloc _
end Go.Proofs.YtmeejlgnhfkeaaaGreatDoor

namespace Go.Proofs.YtmeejlgnhfkeaaaGreatDoor
open Go.RowKit
structure Glob (w:World):Prop where
 er:ErrT w
 ml:∃ m,w.cell? ⟨1,0,none⟩=some (.int .i64 m)
 sx:∃ te pe,w.cell? ⟨3,0,none⟩=some (.iface te pe)
 rg:∃ te pe,w.cell? ⟨4,0,none⟩=some (.iface te pe)
 tb : Lib.TabIs Tryz.prog w "internal/strconv.uint64pow10" .u64 Lib.pow10Tab
theorem g_tab : Tryz.prog.globalNamed "internal/strconv.uint64pow10" = some 2 := by kernel_rfl
theorem Glob.same {w w':World} (h:Glob w) (hs:∀ k o,k≤4→w.heap[k]?=some o→w'.heap[k]?=some o):Glob w':=by
 have hc:∀ k v,k≤4→w.cell? ⟨k,0,none⟩=some v→w'.cell? ⟨k,0,none⟩=some v:=by
  intro k v hk hv;have hlt:=World.block_lt_of_cell? _ _ hv;obtain ⟨o,ho⟩:∃ o,w.heap[k]?=some o:=⟨_,Array.getElem?_eq_getElem hlt⟩;rw [World.cell?_of_block (w:=w) (w':=w') (a:=⟨k,0,none⟩) ((hs k o hk ho).trans ho.symm)];exact hv
 refine ⟨hc _ _ (by decide) h.er,?_,?_,?_,?_⟩
 ·obtain ⟨m,hm⟩:=h.ml;exact ⟨m,hc _ _ (by decide) hm⟩
 ·obtain ⟨a,b,hm⟩:=h.sx;exact ⟨a,b,hc _ _ (by decide) hm⟩
 ·obtain ⟨a,b,hm⟩:=h.rg;exact ⟨a,b,hc _ _ (by decide) hm⟩
 ·have ht:=h.tb;unfold Lib.TabIs World.var? at ht ⊢;rw [g_tab] at ht ⊢;simp only [Option.bind_some] at ht ⊢;cases hb:w.heap[2]? with
  | none=>rw [hb] at ht;cases ht
  | some o=>rw [hb] at ht;rw [hs _ _ (by decide) hb];exact ht
theorem Glob.grow {w w':World} (h:Glob w) (g:Grow w w'):Glob w':=h.same fun _ _ _ ho=>g.blk ho
theorem Glob.size {w:World} (h:Glob w):4<w.heap.size:=by
 have ht:=h.tb;unfold Lib.TabIs World.var? at ht;rw [g_tab] at ht;simp only [Option.bind_some] at ht;have h5:2<w.heap.size:=by
  cases hb:w.heap[2]? with
  | none=>rw [hb] at ht;cases ht
  | some o=>exact (Array.getElem?_eq_some_iff.1 hb).1
 obtain ⟨_,_,hm⟩:=h.rg;have h4:=World.block_lt_of_cell? _ _ hm;dsimp only at h4;omega
theorem zmy {w w':World} {k:Nat} {os:Array Obj} (h:w'=Go.Sort.grow (w.drewN k) os):Grow w w':=by
 subst h;refine ⟨rfl,rfl,rfl,by simp [Go.Sort.grow,World.drewN],fun i hi=>?_⟩
 exact Go.Sort.heap_grow_old _ _ (by simpa [World.drewN] using hi)
theorem zqn {w w':World} (g:Grow w w') {a:Addr} (ha:w.heap.size≤a.block) (n:Nat):Grow w (w'.freeze a n):=by
 unfold World.freeze;by_cases hn:n=0
 ·rw [if_pos hn];exact g
 ·rw [if_neg hn];refine ⟨g.os,g.tape,g.output,by simpa using g.sz,fun k hk=>?_⟩
  show (w'.heap.modify a.block _)[k]?=_
  rw [Array.getElem?_modify,if_neg (by omega)]
  exact g.heap hk
theorem zho (n:Int) (h0 : -9223372036854775808≤n) (h1:n≤9223372036854775807) (w:World) (hg:Glob w) (R:Ending→World→Prop) (hR:∀ w',Grow w w'→R (.returned (.string ⟨(Lib.itoa n).toArray⟩)) w') :
  Calls Tryz.prog 50 #[.int .i64 n] w R:=by
 refine (Tryz.strconv_Itoa n h0 h1 w hg.tb).mono ?_;rintro e w' ⟨rfl,k,os,hw⟩;exact hR w' (zmy hw)
theorem zqr (s sep:ByteArray) (hs:s.size<4294967281) (w:World) (hg:Glob w) (R:Ending→World→Prop) (hR:∀ w',Grow w w'→R (.returned (.tuple #[.string ⟨(Lib.cut s.data.toList sep.data.toList).1.toArray⟩,.string ⟨(Lib.cut s.data.toList sep.data.toList).2.1.toArray⟩,.bool (Lib.cut s.data.toList sep.data.toList).2.2])) w') :
  Calls Tryz.prog 56 #[.string s,.string sep] w R:=by
 obtain ⟨m,hm⟩:=hg.ml;refine (Tryz.strings_Cut s sep m w hs hm).mono ?_;rintro e w' ⟨rfl,n,rfl⟩;exact hR _ ((Grow.refl w).drewN n)
theorem atoi_any (s:ByteArray) (hs:s.size≤281474976710656) (w:World) (hg:Glob w) (R:Ending→World→Prop)
  (hok:∀ w' v,Grow w w'→Lib.atoiAll s.data.toList=.ok v→-9223372036854775808≤v→v≤9223372036854775807→R (.returned (.tuple #[.int .i64 v,.nilIface])) w')
  (hno:∀ w' n te pe,Grow w w'→(∀ v,Lib.atoiAll s.data.toList≠.ok v)→R (.returned (.tuple #[.int .i64 n,.iface te pe])) w') :
  Calls Tryz.prog 117 #[.string s] w R:=by
 rcases h:Lib.atoiAll s.data.toList with v | _ | _
 ·obtain ⟨b0,b1⟩:=Lib.atoiAll_bounds h;refine (Tryz.strconv_Atoi_ok s (by omega) v h w).mono ?_
  rintro e w' ⟨rfl,hw⟩;refine hok w' v ?_ h b0 b1;rcases hw with rfl | ⟨t,rfl⟩
  ·exact Grow.refl _
  ·unfold Lib.bytesWorld;exact zqn ((Grow.refl w).drew.alloc _) (Nat.le_refl _) _
 ·obtain ⟨te,pe,hv⟩:=hg.sx;refine (Any.strconv_Atoi_syntax Tryz.laysC172 s hs h _ w hv (.inr ⟨te,pe,rfl⟩)).mono ?_;rintro e w' ⟨N,rfl,_,_,hb⟩;exact hno w' _ _ _ hb (by rw [h];intro v e;cases e)
 ·obtain ⟨te,pe,hv⟩:=hg.rg;refine (Tryz.strconv_Atoi_range s hs h _ w hv (.inr ⟨te,pe,rfl⟩)).mono ?_;rintro e w' ⟨N,rfl,_,_,hb⟩;exact hno w' _ _ _ hb (by rw [h];intro v e;cases e)
end Go.Proofs.YtmeejlgnhfkeaaaGreatDoor
