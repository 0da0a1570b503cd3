/-
The statement BenchMerges: what two books are together, and the first order at which they differ, is what the document says, for all texts. No condition but the laid variables, which the card ties.
-/
import Derived.Test.YtihdpbfhkddpcaaGreatDoorG52
import Derived.Test.YtihdpbfhkddpcaaGreatDoorG50
import Derived.Test.YtihdpbfhkddpcaaGreatDoorG51
import Derived.Test.YtihdpbfhkddpcaaGreatDoorCards
import Derived.Lib.SmallJoins
namespace Go.Proofs.YtihdpbfhkddpcaaGreatDoor
open Go.ChangeShapes Go.WideShapes Go.ChangeAt Go.RowKit

set_option maxRecDepth 100000 in
set_option maxHeartbeats 4000000 in
theorem benchMerges_lifted (os : Os) (started : os.Started) (H : Type) (enc : TypeId × Value → H) :
    ReturnsInHanded {} Tryz.checked os 6 .any (fun w args => (Rows.benchMergesSpec.pre enc Tryz.prog Tryz.f6 [] false w args ∧ laidMetH Tryz.prog Rows.benchMergesRow.laid w) ∧ sizedMet enc Tryz.prog Tryz.f6 (OpenSpec.ofChange Rows.benchMergesSpec) false w args)
      (Rows.benchMergesSpec.post enc Tryz.prog Tryz.f6 false true false false) := by
  have hlk : Rows.benchMergesRow.laid = lk := rfl
  rw [hlk]
  refine handed_laid (C := Tryz.checked) (X := fun w _ => laidMetH Tryz.prog lk w) (fun _ _ _ hh h => h.of_heap hh) Tryz.own9 started (by kernel_rfl) Tryz.func6
    (ChangeSpec.witness_shaped (enc := enc) (C := Tryz.checked) (os := os) (X := fun w _ => laidMetH Tryz.prog lk w) false (w9 os) #[.string ByteArray.empty, .string ByteArray.empty] 8 (w9_os os) (World.shaped_of_ZipB (by kernel_rfl) (by kernel_rfl)) (by kernel_rfl) (by kernel_rfl) (by kernel_rfl) (w9_met os _)) ?_
  intro W base args ds gs before hval0 hW hcnd _ hsh hL
  have hval : ∀ (j : Nat) t v, Tryz.f6.params[j]? = some t → args[j]? = some v → Value.okWide Tryz.prog W .any base t v := hval0
  have hW' := hW
  obtain ⟨p, q, hA0, hV, rfl, hfz, hnd⟩ := hW
  have hA : DataW.TrodAll enc Tryz.prog W 0 (fun _ => true) true Tryz.f6.params.toList args.toList ds p := hA0
  rw [Tryz.params6] at hA hval
  obtain ⟨v0, v1, d0, d1, p0, p1, rfl, rfl, rfl, h0, h1⟩ := trodAll_two hA
  obtain ⟨rfl, rfl⟩ := trodVars_none hV
  have hk0 := h0
  have hk1 := h1
  obtain ⟨x0, rfl, hx0⟩ := arg_text (hval 0 9 v0 rfl rfl) h0
  obtain ⟨x1, rfl, hx1⟩ := arg_text (hval 1 9 v1 rfl rfl) h1
  have hG := glob_of hL hsh
  clear hA0 hval0
  refine Calls.mono (benchMerges_any x0 x1 W hG (fun e W' => e = .returned (.bool true) ∧ Grow W W') (fun W' hg => ⟨rfl, hg⟩)) fun e W' ⟨he, hB⟩ => ?_
  subst he
  have hlt0 : ∀ x ∈ p0, x.block < W.heap.size := fun x hx => hW'.lt x (List.mem_append_left _ (List.mem_append_left _ (hx)))
  have ht0 := Below.trod Tryz.laidOut9 (by kernel_rfl) (of_decide_eq_true (by kernel_rfl)) hk0 hB hlt0
  have hlt1 : ∀ x ∈ p1, x.block < W.heap.size := fun x hx => hW'.lt x (List.mem_append_left _ (List.mem_append_right _ hx))
  have ht1 := Below.trod Tryz.laidOut9 (by kernel_rfl) (of_decide_eq_true (by kernel_rfl)) hk1 hB hlt1
  exact ⟨_, rfl, _, _, _, [], _, [], hW', trodAll_mk1 (shut_bool Tryz.underlying4 true), trodAll_mk2 ht0 ht1, rfl, hB.frame _, fun h => by cases h⟩

/-! ### The row's closed facts, one by one (the kernel has no room for all of them in one declaration) -/
theorem bandI {a b : Bool} (ha : a = true) (hb : b = true) : (a && b) = true := by rw [ha, hb]; rfl
set_option maxRecDepth 100000 in
theorem benchMerges_f0 : (Rows.benchMergesRow.wf (OpenSpec.ofChange Rows.benchMergesSpec)) = true := by kernel_rfl
set_option maxRecDepth 100000 in
theorem benchMerges_f1 : (laidOutB Tryz.prog) = true := by kernel_rfl
set_option maxRecDepth 100000 in
theorem benchMerges_f2 : (mapsRowed Tryz.prog) = true := by kernel_rfl
set_option maxRecDepth 100000 in
theorem benchMerges_f3 : (Tryz.f6.params.all (Tryz.prog.readableRec ·)) = true := by kernel_rfl
set_option maxRecDepth 100000 in
theorem benchMerges_f4 : (namedTie Tryz.prog Rows.benchMergesRow.named Rows.benchMergesSpec.vars) = true := by kernel_rfl
set_option maxRecDepth 100000 in
theorem benchMerges_f5 : ((Rows.benchMergesRow.stops == [])) = true := by kernel_rfl
set_option maxRecDepth 100000 in
theorem benchMerges_f6 : ((Tryz.prog.stops == [])) = true := by kernel_rfl
set_option maxRecDepth 100000 in
theorem benchMerges_f7 : ((Rows.benchMergesRow.knobs == [])) = true := by kernel_rfl
set_option maxRecDepth 100000 in
theorem benchMerges_f8 : ((Tryz.prog.stopKnobs == [])) = true := by kernel_rfl
set_option maxRecDepth 100000 in
theorem benchMerges_f9 : ((Rows.benchMergesRow.inPlace == Tryz.prog.inPlace 6)) = true := by kernel_rfl
set_option maxRecDepth 100000 in
theorem benchMerges_f10 : ((Rows.benchMergesRow.unfollowed == Tryz.prog.unfollowed 6)) = true := by kernel_rfl
set_option maxRecDepth 100000 in
theorem benchMerges_f11 : ((Rows.benchMergesRow.recurses == Tryz.prog.recurses 6)) = true := by kernel_rfl
set_option maxRecDepth 100000 in
theorem benchMerges_f12 : ((Rows.benchMergesRow.named == Tryz.prog.varsNamed 6)) = true := by kernel_rfl
set_option maxRecDepth 100000 in
theorem benchMerges_f13 : ((Rows.benchMergesRow.maps == (Tryz.f6.params.toList ++ Rows.benchMergesSpec.plain.varTypes Tryz.prog).any (Tryz.prog.mapsRec ·))) = true := by kernel_rfl
set_option maxRecDepth 100000 in
theorem benchMerges_f14 : ((Rows.benchMergesRow.ifaces == (Tryz.f6.params.toList ++ Rows.benchMergesSpec.plain.varTypes Tryz.prog).any (Tryz.prog.ifacesRec ·))) = true := by kernel_rfl
set_option maxRecDepth 100000 in
theorem benchMerges_f15 : ((Rows.benchMergesRow.mapsOut == Tryz.prog.mapsAmong Tryz.f6.resultTypes.toList)) = true := by kernel_rfl
set_option maxRecDepth 100000 in
theorem benchMerges_f16 : ((Rows.benchMergesRow.loops == (Tryz.f6.params.toList ++ Rows.benchMergesSpec.plain.varTypes Tryz.prog).any (Tryz.prog.loopsFrom ·))) = true := by kernel_rfl
set_option maxRecDepth 100000 in
theorem benchMerges_f17 : ((Rows.benchMergesRow.wideKeys == (Tryz.f6.params.toList ++ Rows.benchMergesSpec.plain.varTypes Tryz.prog ++ Tryz.f6.resultTypes.toList).any (Tryz.prog.wideKeysFrom ·))) = true := by kernel_rfl
set_option maxRecDepth 100000 in
theorem benchMerges_f18 : (Rows.benchMergesSpec.vars.all (Tryz.prog.varReadable ·)) = true := by kernel_rfl
set_option maxRecDepth 100000 in
theorem benchMerges_f19 : (Tryz.f6.resultTypes.all (fun t => Tryz.prog.readableRec t && decide (t < Tryz.prog.types.size))) = true := by kernel_rfl
set_option maxRecDepth 100000 in
theorem benchMerges_f20 : ((Rows.benchMergesRow.ifacesOut == Tryz.f6.resultTypes.toList.any (Tryz.prog.ifacesRec ·))) = true := by kernel_rfl
set_option maxRecDepth 100000 in
theorem benchMerges_f21 : ((Rows.benchMergesRow.loopsOut == Tryz.f6.resultTypes.toList.any (Tryz.prog.loopsFrom ·))) = true := by kernel_rfl
set_option maxRecDepth 100000 in
theorem benchMerges_f22 : ((Rows.benchMergesRow.plainKeys == Tryz.prog.plainKeys)) = true := by kernel_rfl
set_option maxRecDepth 100000 in
theorem benchMerges_f23 : (Rows.benchMergesRow.shortTexts.isNone) = true := by kernel_rfl
set_option maxRecDepth 100000 in
theorem benchMerges_f24 : (Tryz.prog.stopsHeard) = true := by kernel_rfl
set_option maxRecDepth 100000 in
theorem benchMerges_f25 : (Tryz.prog.mayEnter) = true := by kernel_rfl
set_option maxRecDepth 100000 in
theorem benchMerges_f26 : ((Rows.benchMergesRow.lifted == Tryz.prog.liftsFinal)) = true := by kernel_rfl
set_option maxRecDepth 100000 in
theorem benchMerges_f27 : ((Tryz.prog.make == some Rows.benchMergesRow.make)) = true := by kernel_rfl
set_option maxRecDepth 100000 in
theorem benchMerges_f28 : ((Rows.benchMergesRow.kinds == (if Rows.benchMergesRow.domain.isEmpty then [] else Tryz.f6.params.toList.map fun t => match Tryz.prog.underlying t with | some (.int k) => some k | _ => none))) = true := by kernel_rfl
set_option maxRecDepth 100000 in
theorem benchMerges_f29 : ((Rows.benchMergesRow.pinned == Rows.benchMergesRow.pinnedBy)) = true := by kernel_rfl
set_option maxRecDepth 100000 in
theorem benchMerges_f30 : ((Rows.benchMergesRow.veiled == (Tryz.f6.params.toList ++ Rows.benchMergesSpec.plain.varTypes Tryz.prog ++ Tryz.f6.resultTypes.toList).any (Tryz.prog.veiledRec ·))) = true := by kernel_rfl
set_option maxRecDepth 100000 in
theorem benchMerges_f31 : (Rows.benchMergesRow.veiledFits Tryz.prog Tryz.f6.params.toList (Tryz.f6.params.toList ++ Rows.benchMergesSpec.plain.varTypes Tryz.prog ++ Tryz.f6.resultTypes.toList)) = true := by kernel_rfl
set_option maxRecDepth 100000 in
theorem benchMerges_facts : joinedFacts Tryz.prog 6 Tryz.f6 Rows.benchMergesSpec Rows.benchMergesRow = true := by
  unfold joinedFacts
  exact bandI (bandI (bandI (bandI (bandI (bandI (bandI (bandI (bandI (bandI (bandI (bandI (bandI (bandI (bandI (bandI (bandI (bandI (bandI (bandI (bandI (bandI (bandI (bandI (bandI (bandI (bandI (bandI (bandI (bandI (bandI (benchMerges_f0) benchMerges_f1) benchMerges_f2) benchMerges_f3) benchMerges_f4) benchMerges_f5) benchMerges_f6) benchMerges_f7) benchMerges_f8) benchMerges_f9) benchMerges_f10) benchMerges_f11) benchMerges_f12) benchMerges_f13) benchMerges_f14) benchMerges_f15) benchMerges_f16) benchMerges_f17) benchMerges_f18) benchMerges_f19) benchMerges_f20) benchMerges_f21) benchMerges_f22) benchMerges_f23) benchMerges_f24) benchMerges_f25) benchMerges_f26) benchMerges_f27) benchMerges_f28) benchMerges_f29) benchMerges_f30) benchMerges_f31

theorem benchMerges_named : Tryz.prog.funcNamed "tinker/tinkerlaw09.BenchMerges" = some 6 := by kernel_rfl
set_option maxRecDepth 100000 in
theorem benchMerges_row : Rows.BenchMergesSaid :=
  OpenClaim.holds_of_wide 6 Tryz.f6 rfl rfl rfl rfl rfl rfl rfl ⟨rfl, rfl, rfl, rfl, rfl⟩ rfl rfl rfl rfl rfl benchMerges_named Tryz.func6 benchMerges_facts
    (of_decide_eq_true (by kernel_rfl)) (by unfold Func.isWrapper; first | (rw [if_pos (by decide +kernel)]; kernel_rfl) | (rw [if_neg (by decide +kernel)]; exact ⟨rfl, rfl⟩))
    (fun os started H enc _ => benchMerges_lifted os started H enc)

set_option maxRecDepth 100000 in
theorem benchMerges_wf : Rows.benchMergesRow.wfByText (OpenSpec.ofChange Rows.benchMergesSpec) = true := by kernel_rfl
theorem benchMerges_main : Tryz.pinned.checked.prog.mainIs = some (Rows.benchMergesCard.stood.harness.1, Rows.benchMergesCard.stood.harness.2.toList) := by kernel_rfl
theorem benchMerges_goes : false = Rows.benchMergesRow.goesBy Tryz.pinned.checked.prog := by kernel_rfl
theorem benchMerges_looks : true = Tryz.pinned.checked.prog.looks [] := by kernel_rfl
set_option maxRecDepth 100000 in
theorem benchMerges_holds : Rows.BenchMergesCardSaid :=
  Claim7.holds_tied_plain_at .later [] [.data, .data, .data, .data, .handle, .sentinel, .sentinel, .pinned] true Rows.benchMergesCard.stood.harness true benchMerges_row (fun _ h => by cases h) benchMerges_wf (fun _ h => by cases h) benchMerges_row_tie rfl ⟨rfl, rfl⟩ benchMerges_main rfl
    (fun f fn hf hfn => by
      obtain rfl : f = 6 := Option.some.inj (benchMerges_named.symm.trans hf) |>.symm
      obtain rfl : fn = Tryz.f6 := (Option.some.inj (Tryz.func6.symm.trans hfn)).symm
      exact ⟨benchMerges_looks, fun j t ht => by
        rw [Tryz.params6] at ht
        have hm : t ∈ [9, 9] := by simpa using Array.mem_of_getElem? ht
        have hall : ([9, 9].all fun u => !Tryz.prog.wantsStandIn u) = true := by kernel_rfl
        exact (show Tryz.prog.wantsStandIn t = false by simpa using List.all_eq_true.1 hall t hm)⟩)
    benchMerges_goes

end Go.Proofs.YtihdpbfhkddpcaaGreatDoor
