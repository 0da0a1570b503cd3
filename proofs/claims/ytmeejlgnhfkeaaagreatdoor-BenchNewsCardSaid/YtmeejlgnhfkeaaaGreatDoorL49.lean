
import Derived.Test.YtmeejlgnhfkeaaaGreatDoorL24
import Derived.Test.YtmeejlgnhfkeaaaGreatDoorRows
import Derived.Test.YtmeejlgnhfkeaaaGreatDoorTie
import Derived.ProofKit
import Derived.HandedShaped
import Derived.LaidMore
import Derived.LaidHandle
import Derived.LaidLaws
import Derived.Lay
import Derived.Lib.LaidTab
import Derived.Stop.LaidErr
import Derived.OpenShut
import Derived.SevenTiedAt
import Derived.Stop.Joined
namespace Go.Proofs.YtmeejlgnhfkeaaaGreatDoor
open Go.ChangeShapes Go.WideShapes Go.ChangeAt Go.RowKit
theorem handed_laid {H : Type} {enc : TypeId × Value → H} {a : Assume} {C : Checked} {os : Os} {f : FuncId} {fn : Func} {s : ChangeSpec} {conds : List PathCond} {apart fresh handsOn again : Bool} {X : World → Array Value → Prop}
  (hX : ∀ (w w' : World) (args : Array Value), w.heap = w'.heap → X w args → X w' args)
  (own : ownKnob C.prog.godebug = none) (started : os.Started) (noInit : C.prog.inits.idxOf? f = none) (hfn : C.prog.funcs[f]? = some fn)
  (witness : ∃ (w : World) (tape : Tape) (i : Input), w.os = os ∧ (w.forCall tape i).Shaped C.prog ∧ i.vars = [] ∧ Input.okWide C.prog (w.forCall tape i) .any w.heap.size f i ∧
   ((s.pre enc C.prog fn conds apart (w.forCall tape i).memory i.args ∧ X (w.forCall tape i).memory i.args) ∧ sizedMet enc C.prog fn (OpenSpec.ofChange s) apart (w.forCall tape i).memory i.args) ∧ a.holds C.prog (lone (Frame.enter C.prog f i.args .normal) [] (w.forCall tape i)))
  (contract : ∀ (W : World) (base : Nat) (args : Array Value) (ds gs : List (DataW H)) (before : List MemPlace),
   (∀ (j : Nat) t v, fn.params[j]? = some t → args[j]? = some v → Value.okWide C.prog W .any base t v) →
   DataW.Whole enc C.prog fn.params.toList s.vars apart W args.toList ds gs before →
   conds.all (PathCond.test C.prog ⟨fn.params.toList, ds, s.plain.varTypes C.prog, gs⟩) = true →
   (DataW.weightsEach C.prog (fn.params.toList ++ s.plain.varTypes C.prog) (ds ++ gs)).all (· ≤ reachBytes) = true → W.ShapedOpen C.prog → X W args →
   Calls C.prog f args W fun e W' => ∃ v, e = .returned v ∧ s.post enc C.prog fn apart fresh handsOn again W args v W') :
  ReturnsInHanded a C os f .any (fun w args => (s.pre enc C.prog fn conds apart w args ∧ X w args) ∧ sizedMet enc C.prog fn (OpenSpec.ofChange s) apart w args) (s.post enc C.prog fn apart fresh handsOn again) := by
 refine returnsInHanded_of_calls own started noInit witness ?_
 intro w tape i _ hsh _ hok hpre hholds
 obtain ⟨_, _, _, fn', hfn', _, _, _, _, hval⟩ := hok
 have e : fn' = fn := Option.some.inj (hfn'.symm.trans hfn)
 subst e
 obtain ⟨⟨⟨ds, gs, before, hw, hc⟩, hx⟩, hz⟩ := hpre
 have hw' := DataW.Whole.of_heap (w' := w.forCall tape i) (by rfl) hw
 refine (contract (w.forCall tape i) w.heap.size i.args ds gs before hval hw' hc (hz.weights hw) hsh (hX _ _ _ (by rfl) hx)).mono fun e W' ⟨v, he, hp⟩ => ?_
 subst he
 exact ChangeSpec.post_blind hp
theorem Tryz.own9 : ownKnob Tryz.prog.godebug = none := by kernel_rfl
theorem Tryz.laidOut9 : laidOutB Tryz.prog = true := by kernel_rfl
def lk : List (String × DataW Unit) := [("math/bits.deBruijn32tab", Rows.laid_math_bits_deBruijn32tab), ("math/bits.deBruijn64tab", Rows.laid_math_bits_deBruijn64tab), ("internal/strconv.uint64pow10", Rows.laid_internal_strconv_uint64pow10), ("unicode/utf8.acceptRanges", Rows.laid_unicode_utf8_acceptRanges), ("errors.errorType", Rows.laid_errors_errorType), ("strconv.ErrRange", Rows.laid_strconv_ErrRange), ("strconv.ErrSyntax", Rows.laid_strconv_ErrSyntax), ("unicode/utf8.first", Rows.laid_unicode_utf8_first)]
def lkP : List (String × DataW Unit) := [("math/bits.deBruijn32tab", Rows.laid_math_bits_deBruijn32tab), ("math/bits.deBruijn64tab", Rows.laid_math_bits_deBruijn64tab), ("internal/strconv.uint64pow10", Rows.laid_internal_strconv_uint64pow10), ("unicode/utf8.acceptRanges", Rows.laid_unicode_utf8_acceptRanges), ("strconv.ErrRange", Rows.laid_strconv_ErrRange), ("strconv.ErrSyntax", Rows.laid_strconv_ErrSyntax), ("unicode/utf8.first", Rows.laid_unicode_utf8_first)]
theorem lk_filter : lk.filter (fun x => x.2.handleName?.isNone) = lkP := by rfl
theorem g_et : Tryz.prog.globalNamed "errors.errorType" = some 0 := by kernel_rfl
theorem g_rt : (Tryz.prog.cutTypes.find? (·.1 == "internal/reflectlite.rtype")).map (·.2) = some 208 := by kernel_rfl
theorem g_row : ((List.range Tryz.prog.types.size).filter fun t => Tryz.prog.rowNamed t [101, 114, 114, 111, 114]) = [91] := by kernel_rfl
theorem g_star : "*" ++ "errors.errorString" = "*errors.errorString" := by decide
theorem g_es (u : TypeId) (h : Tryz.prog.typeName? 3 u = some "*errors.errorString") : u = 304 :=
 typeName_ptr_named (nm := "errors.errorString") (by rw [g_star]; kernel_rfl) (by kernel_rfl) (by decide) u (by rw [g_star]; exact h)
theorem g_c1 : Tryz.prog.cellsOf 306 = 1 := by kernel_rfl
theorem g_c2 : Tryz.prog.cellsOf 9 = 1 := by kernel_rfl
theorem glob_of {W : World} (h : laidMetH Tryz.prog lk W) (hsh : W.ShapedOpen Tryz.prog) : Glob W := by
 have h' : laidMet Tryz.prog lkP W ∧ handlesMet Tryz.prog [("errors.errorType", Rows.laid_errors_errorType)] W := h
 obtain ⟨hp, hh⟩ := h'
 have ht := hp.tail.tail
 have hr := ht.tail.tail
 have hs := hr.tail
 refine ⟨?_, ?_, ?_, ?_, ?_⟩
 ·obtain ⟨name, u, ty, e1, e2, e3, e4, e5⟩ := hh _ (List.mem_singleton.2 rfl)
  have en : name = [101, 114, 114, 111, 114] := (Option.some.inj e1).symm
  subst en
  obtain rfl := Option.some.inj (g_rt.symm.trans e2)
  have hm : ty ∈ (List.range Tryz.prog.types.size).filter fun t => Tryz.prog.rowNamed t [101, 114, 114, 111, 114] := List.mem_filter.2 ⟨List.mem_range.2 e3, e4⟩
  rw [g_row] at hm
  obtain rfl := List.mem_singleton.1 hm
  have hth : typeHandle Tryz.prog 91 = .pointer (some ⟨9, 91, none⟩) := by kernel_rfl
  rw [hth] at e5
  unfold ErrT
  simpa using World.var?_cell g_et e5 0
 ·exact cell_of_shapedOpen_int (P := Tryz.prog) (g := 1) (t := 3) (zero := #[.int .i64 0]) hsh (of_decide_eq_true (by kernel_rfl)) (by kernel_rfl) rfl (by kernel_rfl) (by kernel_rfl) Tryz.underlying3
 ·obtain ⟨a, _, hv, _, _, _⟩ := laid_sentinel (g := 3) hs (by kernel_rfl) (by kernel_rfl) Tryz.underlying91 g_es Tryz.underlying304 Tryz.underlying306 rfl rfl Tryz.underlying9 g_c1 g_c2
  exact ⟨_, _, by simpa using World.var?_cell (g := 3) (by kernel_rfl) hv 0⟩
 ·obtain ⟨a, _, hv, _, _, _⟩ := laid_sentinel (g := 4) hr (by kernel_rfl) (by kernel_rfl) Tryz.underlying91 g_es Tryz.underlying304 Tryz.underlying306 rfl rfl Tryz.underlying9 g_c1 g_c2
  exact ⟨_, _, by simpa using World.var?_cell (g := 4) (by kernel_rfl) hv 0⟩
 ·exact Lib.tabIs_of_head (k := .u64) (zs := Lib.pow10Tab) (g := 2) (t := 271) (e := 240) (n := 20) (by kernel_rfl) (by kernel_rfl) Tryz.underlying271 Tryz.underlying240 (by kernel_rfl) (by kernel_rfl) ht
noncomputable def w9base (os : Os) : World :=
 let w0 := World.holding Tryz.prog os ⟨#[], #[], []⟩
 { w0 with heap := w0.heap.modify 0 fun
   | .cells _ t frozen => .cells #[.iface 208 (.agg #[.pointer (some ⟨9, 91, none⟩)])] t frozen
   | o => o }
noncomputable def w9 (os : Os) : World := (w9base os).layVars Tryz.prog lkP
theorem w9_os (os : Os) : (w9 os).os = os := by unfold w9; rw [World.layVars_os]; rfl
theorem lkP_all : (lkP.filter fun x => (lkP.map (·.1)).contains x.1) = lkP := List.filter_eq_self.2 fun x hx => List.contains_iff_mem.2 (List.mem_map.2 ⟨x, hx, rfl⟩)
theorem lkP_none : (lkP.filter fun x => !(lkP.map (·.1)).contains x.1) = [] := List.filter_eq_nil_iff.2 fun x hx => by rw [List.contains_iff_mem.2 (List.mem_map.2 ⟨x, hx, rfl⟩)]; simp
theorem w9_plain (os : Os) (args : Array Value) : laidMet Tryz.prog lkP ((w9 os).forCall (fun _ _ => 0) ⟨#[], args, []⟩).memory := by
 have h : laidMet Tryz.prog lkP (w9 os) := laidMet_layVars (w0 := w9base os) (lkP.map (·.1)) [] (by rw [lkP_all]; rfl) (by rw [lkP_all]; kernel_rfl) (by rw [lkP_all]; kernel_rfl) (by rw [lkP_none]; exact LaidIn.none)
 exact h.of_heap (by simp [World.memory, World.forCall, Input.heap])
theorem w9_met (os : Os) (args : Array Value) : laidMetH Tryz.prog lk ((w9 os).forCall (fun _ _ => 0) ⟨#[], args, []⟩).memory :=
 laidMetH_of_parts3 (fuel := 8) (by rw [lk_filter]; exact w9_plain os args) (by kernel_rfl) (by kernel_rfl)
end Go.Proofs.YtmeejlgnhfkeaaaGreatDoor
