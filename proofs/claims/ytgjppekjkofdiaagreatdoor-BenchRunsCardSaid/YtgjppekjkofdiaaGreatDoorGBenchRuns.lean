/-
The statement BenchRuns: Run does the orders one by one in a new bench, for all programs and orders. No condition but the laid variables, which the card ties.
-/
import Derived.Test.YtgjppekjkofdiaaGreatDoorG52
import Derived.Test.YtgjppekjkofdiaaGreatDoorG45
import Derived.Test.YtgjppekjkofdiaaGreatDoorG46
import Derived.Test.YtgjppekjkofdiaaGreatDoorG47
import Derived.Test.YtgjppekjkofdiaaGreatDoorCards
import Derived.Lib.SmallJoins
namespace Go.Proofs.YtgjppekjkofdiaaGreatDoor
open Go.ChangeShapes Go.WideShapes Go.ChangeAt Go.RowKit

set_option maxRecDepth 100000 in
set_option maxHeartbeats 4000000 in
theorem benchRuns_lifted (os : Os) (started : os.Started) (H : Type) (enc : TypeId × Value → H) :
    ReturnsInHanded {} Tryz.checked os 5 .any (fun w args => (Rows.benchRunsSpec.pre enc Tryz.prog Tryz.f5 [] false w args ∧ laidMetH Tryz.prog Rows.benchRunsRow.laid w) ∧ sizedMet enc Tryz.prog Tryz.f5 (OpenSpec.ofChange Rows.benchRunsSpec) false w args)
      (Rows.benchRunsSpec.post enc Tryz.prog Tryz.f5 false true false false) := by
  have hlk : Rows.benchRunsRow.laid = lk := rfl
  rw [hlk]
  refine handed_laid (C := Tryz.checked) (X := fun w _ => laidMetH Tryz.prog lk w) (fun _ _ _ hh h => h.of_heap hh) Tryz.own9 started (by kernel_rfl) Tryz.func5
    (ChangeSpec.witness_shaped (enc := enc) (C := Tryz.checked) (os := os) (X := fun w _ => laidMetH Tryz.prog lk w) false (w9 os) #[.slice none 0 0, .slice none 0 0] 8 (w9_os os) (World.shaped_of_ZipB (by kernel_rfl) (by kernel_rfl)) (by kernel_rfl) (by kernel_rfl) (by kernel_rfl) (w9_met os _)) ?_
  intro W base args ds gs before hval0 hW hcnd _ hsh hL
  have hval : ∀ (j : Nat) t v, Tryz.f5.params[j]? = some t → args[j]? = some v → Value.okWide Tryz.prog W .any base t v := hval0
  have hW' := hW
  obtain ⟨p, q, hA0, hV, rfl, hfz, hnd⟩ := hW
  have hA : DataW.TrodAll enc Tryz.prog W 0 (fun _ => true) true Tryz.f5.params.toList args.toList ds p := hA0
  rw [Tryz.params5] at hA hval
  obtain ⟨v0, v1, d0, d1, p0, p1, rfl, rfl, rfl, h0, h1⟩ := trodAll_two hA
  obtain ⟨rfl, rfl⟩ := trodVars_none hV
  have hk0 := h0
  have hk1 := h1
  obtain ⟨x0, hx0⟩ := arg_lines (hval 0 22 v0 rfl rfl) h0
  obtain ⟨x1, hx1⟩ := arg_texts (hval 1 23 v1 rfl rfl) h1
  have hG := glob_of hL hsh
  clear hA0 hval0
  refine Calls.mono (benchRuns_any x0 x1 W v0 v1 hG hx0 hx1 (fun e W' => e = .returned (.bool true) ∧ Grow W W') (fun W' hg => ⟨rfl, hg⟩)) fun e W' ⟨he, hB⟩ => ?_
  subst he
  have hlt0 : ∀ x ∈ p0, x.block < W.heap.size := fun x hx => hW'.lt x (List.mem_append_left _ (List.mem_append_left _ (hx)))
  have ht0 := Below.trod Tryz.laidOut9 (by kernel_rfl) (of_decide_eq_true (by kernel_rfl)) hk0 hB hlt0
  have hlt1 : ∀ x ∈ p1, x.block < W.heap.size := fun x hx => hW'.lt x (List.mem_append_left _ (List.mem_append_right _ hx))
  have ht1 := Below.trod Tryz.laidOut9 (by kernel_rfl) (of_decide_eq_true (by kernel_rfl)) hk1 hB hlt1
  exact ⟨_, rfl, _, _, _, [], _, [], hW', trodAll_mk1 (shut_bool Tryz.underlying4 true), trodAll_mk2 ht0 ht1, rfl, hB.frame _, fun h => by cases h⟩

/-! ### The row's closed facts, one by one (the kernel has no room for all of them in one declaration) -/
theorem bandI {a b : Bool} (ha : a = true) (hb : b = true) : (a && b) = true := by rw [ha, hb]; rfl
set_option maxRecDepth 100000 in
theorem benchRuns_f0 : (Rows.benchRunsRow.wf (OpenSpec.ofChange Rows.benchRunsSpec)) = true := by kernel_rfl
set_option maxRecDepth 100000 in
theorem benchRuns_f1 : (laidOutB Tryz.prog) = true := by kernel_rfl
set_option maxRecDepth 100000 in
theorem benchRuns_f2 : (mapsRowed Tryz.prog) = true := by kernel_rfl
set_option maxRecDepth 100000 in
theorem benchRuns_f3 : (Tryz.f5.params.all (Tryz.prog.readableRec ·)) = true := by kernel_rfl
set_option maxRecDepth 100000 in
theorem benchRuns_f4 : (namedTie Tryz.prog Rows.benchRunsRow.named Rows.benchRunsSpec.vars) = true := by kernel_rfl
set_option maxRecDepth 100000 in
theorem benchRuns_f5 : ((Rows.benchRunsRow.stops == [])) = true := by kernel_rfl
set_option maxRecDepth 100000 in
theorem benchRuns_f6 : ((Tryz.prog.stops == [])) = true := by kernel_rfl
set_option maxRecDepth 100000 in
theorem benchRuns_f7 : ((Rows.benchRunsRow.knobs == [])) = true := by kernel_rfl
set_option maxRecDepth 100000 in
theorem benchRuns_f8 : ((Tryz.prog.stopKnobs == [])) = true := by kernel_rfl
set_option maxRecDepth 100000 in
theorem benchRuns_f9 : ((Rows.benchRunsRow.inPlace == Tryz.prog.inPlace 5)) = true := by kernel_rfl
set_option maxRecDepth 100000 in
theorem benchRuns_f10 : ((Rows.benchRunsRow.unfollowed == Tryz.prog.unfollowed 5)) = true := by kernel_rfl
set_option maxRecDepth 100000 in
theorem benchRuns_f11 : ((Rows.benchRunsRow.recurses == Tryz.prog.recurses 5)) = true := by kernel_rfl
set_option maxRecDepth 100000 in
theorem benchRuns_f12 : ((Rows.benchRunsRow.named == Tryz.prog.varsNamed 5)) = true := by kernel_rfl
set_option maxRecDepth 100000 in
theorem benchRuns_f13 : ((Rows.benchRunsRow.maps == (Tryz.f5.params.toList ++ Rows.benchRunsSpec.plain.varTypes Tryz.prog).any (Tryz.prog.mapsRec ·))) = true := by kernel_rfl
set_option maxRecDepth 100000 in
theorem benchRuns_f14 : ((Rows.benchRunsRow.ifaces == (Tryz.f5.params.toList ++ Rows.benchRunsSpec.plain.varTypes Tryz.prog).any (Tryz.prog.ifacesRec ·))) = true := by kernel_rfl
set_option maxRecDepth 100000 in
theorem benchRuns_f15 : ((Rows.benchRunsRow.mapsOut == Tryz.prog.mapsAmong Tryz.f5.resultTypes.toList)) = true := by kernel_rfl
set_option maxRecDepth 100000 in
theorem benchRuns_f16 : ((Rows.benchRunsRow.loops == (Tryz.f5.params.toList ++ Rows.benchRunsSpec.plain.varTypes Tryz.prog).any (Tryz.prog.loopsFrom ·))) = true := by kernel_rfl
set_option maxRecDepth 100000 in
theorem benchRuns_f17 : ((Rows.benchRunsRow.wideKeys == (Tryz.f5.params.toList ++ Rows.benchRunsSpec.plain.varTypes Tryz.prog ++ Tryz.f5.resultTypes.toList).any (Tryz.prog.wideKeysFrom ·))) = true := by kernel_rfl
set_option maxRecDepth 100000 in
theorem benchRuns_f18 : (Rows.benchRunsSpec.vars.all (Tryz.prog.varReadable ·)) = true := by kernel_rfl
set_option maxRecDepth 100000 in
theorem benchRuns_f19 : (Tryz.f5.resultTypes.all (fun t => Tryz.prog.readableRec t && decide (t < Tryz.prog.types.size))) = true := by kernel_rfl
set_option maxRecDepth 100000 in
theorem benchRuns_f20 : ((Rows.benchRunsRow.ifacesOut == Tryz.f5.resultTypes.toList.any (Tryz.prog.ifacesRec ·))) = true := by kernel_rfl
set_option maxRecDepth 100000 in
theorem benchRuns_f21 : ((Rows.benchRunsRow.loopsOut == Tryz.f5.resultTypes.toList.any (Tryz.prog.loopsFrom ·))) = true := by kernel_rfl
set_option maxRecDepth 100000 in
theorem benchRuns_f22 : ((Rows.benchRunsRow.plainKeys == Tryz.prog.plainKeys)) = true := by kernel_rfl
set_option maxRecDepth 100000 in
theorem benchRuns_f23 : (Rows.benchRunsRow.shortTexts.isNone) = true := by kernel_rfl
set_option maxRecDepth 100000 in
theorem benchRuns_f24 : (Tryz.prog.stopsHeard) = true := by kernel_rfl
set_option maxRecDepth 100000 in
theorem benchRuns_f25 : (Tryz.prog.mayEnter) = true := by kernel_rfl
set_option maxRecDepth 100000 in
theorem benchRuns_f26 : ((Rows.benchRunsRow.lifted == Tryz.prog.liftsFinal)) = true := by kernel_rfl
set_option maxRecDepth 100000 in
theorem benchRuns_f27 : ((Tryz.prog.make == some Rows.benchRunsRow.make)) = true := by kernel_rfl
set_option maxRecDepth 100000 in
theorem benchRuns_f28 : ((Rows.benchRunsRow.kinds == (if Rows.benchRunsRow.domain.isEmpty then [] else Tryz.f5.params.toList.map fun t => match Tryz.prog.underlying t with | some (.int k) => some k | _ => none))) = true := by kernel_rfl
set_option maxRecDepth 100000 in
theorem benchRuns_f29 : ((Rows.benchRunsRow.pinned == Rows.benchRunsRow.pinnedBy)) = true := by kernel_rfl
set_option maxRecDepth 100000 in
theorem benchRuns_f30 : ((Rows.benchRunsRow.veiled == (Tryz.f5.params.toList ++ Rows.benchRunsSpec.plain.varTypes Tryz.prog ++ Tryz.f5.resultTypes.toList).any (Tryz.prog.veiledRec ·))) = true := by kernel_rfl
set_option maxRecDepth 100000 in
theorem benchRuns_f31 : (Rows.benchRunsRow.veiledFits Tryz.prog Tryz.f5.params.toList (Tryz.f5.params.toList ++ Rows.benchRunsSpec.plain.varTypes Tryz.prog ++ Tryz.f5.resultTypes.toList)) = true := by kernel_rfl
set_option maxRecDepth 100000 in
theorem benchRuns_facts : joinedFacts Tryz.prog 5 Tryz.f5 Rows.benchRunsSpec Rows.benchRunsRow = true := by
  unfold joinedFacts
  exact bandI (bandI (bandI (bandI (bandI (bandI (bandI (bandI (bandI (bandI (bandI (bandI (bandI (bandI (bandI (bandI (bandI (bandI (bandI (bandI (bandI (bandI (bandI (bandI (bandI (bandI (bandI (bandI (bandI (bandI (bandI (benchRuns_f0) benchRuns_f1) benchRuns_f2) benchRuns_f3) benchRuns_f4) benchRuns_f5) benchRuns_f6) benchRuns_f7) benchRuns_f8) benchRuns_f9) benchRuns_f10) benchRuns_f11) benchRuns_f12) benchRuns_f13) benchRuns_f14) benchRuns_f15) benchRuns_f16) benchRuns_f17) benchRuns_f18) benchRuns_f19) benchRuns_f20) benchRuns_f21) benchRuns_f22) benchRuns_f23) benchRuns_f24) benchRuns_f25) benchRuns_f26) benchRuns_f27) benchRuns_f28) benchRuns_f29) benchRuns_f30) benchRuns_f31

theorem benchRuns_named : Tryz.prog.funcNamed "tinker/tinkerlaw09.BenchRuns" = some 5 := by kernel_rfl
set_option maxRecDepth 100000 in
theorem benchRuns_row : Rows.BenchRunsSaid :=
  OpenClaim.holds_of_wide 5 Tryz.f5 rfl rfl rfl rfl rfl rfl rfl ⟨rfl, rfl, rfl, rfl, rfl⟩ rfl rfl rfl rfl rfl benchRuns_named Tryz.func5 benchRuns_facts
    (of_decide_eq_true (by kernel_rfl)) (by unfold Func.isWrapper; first | (rw [if_pos (by decide +kernel)]; kernel_rfl) | (rw [if_neg (by decide +kernel)]; exact ⟨rfl, rfl⟩))
    (fun os started H enc _ => benchRuns_lifted os started H enc)

set_option maxRecDepth 100000 in
theorem benchRuns_wf : Rows.benchRunsRow.wfByText (OpenSpec.ofChange Rows.benchRunsSpec) = true := by kernel_rfl
theorem benchRuns_main : Tryz.pinned.checked.prog.mainIs = some (Rows.benchRunsCard.stood.harness.1, Rows.benchRunsCard.stood.harness.2.toList) := by kernel_rfl
theorem benchRuns_goes : false = Rows.benchRunsRow.goesBy Tryz.pinned.checked.prog := by kernel_rfl
theorem benchRuns_looks : true = Tryz.pinned.checked.prog.looks [] := by kernel_rfl
set_option maxRecDepth 100000 in
theorem benchRuns_holds : Rows.BenchRunsCardSaid :=
  Claim7.holds_tied_plain_at .later [] [.data, .data, .data, .data, .handle, .sentinel, .sentinel, .pinned] true Rows.benchRunsCard.stood.harness true benchRuns_row (fun _ h => by cases h) benchRuns_wf (fun _ h => by cases h) benchRuns_row_tie rfl ⟨rfl, rfl⟩ benchRuns_main rfl
    (fun f fn hf hfn => by
      obtain rfl : f = 5 := Option.some.inj (benchRuns_named.symm.trans hf) |>.symm
      obtain rfl : fn = Tryz.f5 := (Option.some.inj (Tryz.func5.symm.trans hfn)).symm
      exact ⟨benchRuns_looks, fun j t ht => by
        rw [Tryz.params5] at ht
        have hm : t ∈ [22, 23] := by simpa using Array.mem_of_getElem? ht
        have hall : ([22, 23].all fun u => !Tryz.prog.wantsStandIn u) = true := by kernel_rfl
        exact (show Tryz.prog.wantsStandIn t = false by simpa using List.all_eq_true.1 hall t hm)⟩)
    benchRuns_goes

end Go.Proofs.YtgjppekjkofdiaaGreatDoor
