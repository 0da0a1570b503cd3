/-
The statement BenchFixes: an order to fix puts in the repair that is proposed, or is refused where there is none, for all programs and orders. No condition but the laid variables, which the card ties.
-/
import Derived.Test.YtgjppekjkofdiaaGreatDoorG50
import Derived.Test.YtgjppekjkofdiaaGreatDoorG45
import Derived.Test.YtgjppekjkofdiaaGreatDoorG46
import Derived.Test.YtgjppekjkofdiaaGreatDoorG47
import Derived.Test.YtgjppekjkofdiaaGreatDoorCards
import Derived.Lib.SmallJoins
namespace Go.Proofs.YtgjppekjkofdiaaGreatDoor
open Go.ChangeShapes Go.WideShapes Go.ChangeAt Go.RowKit

set_option maxRecDepth 100000 in
set_option maxHeartbeats 4000000 in
theorem benchFixes_lifted (os : Os) (started : os.Started) (H : Type) (enc : TypeId × Value → H) :
    ReturnsInHanded {} Tryz.checked os 3 .any (fun w args => (Rows.benchFixesSpec.pre enc Tryz.prog Tryz.f3 [] false w args ∧ laidMetH Tryz.prog Rows.benchFixesRow.laid w) ∧ sizedMet enc Tryz.prog Tryz.f3 (OpenSpec.ofChange Rows.benchFixesSpec) false w args)
      (Rows.benchFixesSpec.post enc Tryz.prog Tryz.f3 false true false false) := by
  have hlk : Rows.benchFixesRow.laid = lk := rfl
  rw [hlk]
  refine handed_laid (C := Tryz.checked) (X := fun w _ => laidMetH Tryz.prog lk w) (fun _ _ _ hh h => h.of_heap hh) Tryz.own9 started (by kernel_rfl) Tryz.func3
    (ChangeSpec.witness_shaped (enc := enc) (C := Tryz.checked) (os := os) (X := fun w _ => laidMetH Tryz.prog lk w) false (w9 os) #[.slice none 0 0, .slice none 0 0] 8 (w9_os os) (World.shaped_of_ZipB (by kernel_rfl) (by kernel_rfl)) (by kernel_rfl) (by kernel_rfl) (by kernel_rfl) (w9_met os _)) ?_
  intro W base args ds gs before hval0 hW hcnd _ hsh hL
  have hval : ∀ (j : Nat) t v, Tryz.f3.params[j]? = some t → args[j]? = some v → Value.okWide Tryz.prog W .any base t v := hval0
  have hW' := hW
  obtain ⟨p, q, hA0, hV, rfl, hfz, hnd⟩ := hW
  have hA : DataW.TrodAll enc Tryz.prog W 0 (fun _ => true) true Tryz.f3.params.toList args.toList ds p := hA0
  rw [Tryz.params3] at hA hval
  obtain ⟨v0, v1, d0, d1, p0, p1, rfl, rfl, rfl, h0, h1⟩ := trodAll_two hA
  obtain ⟨rfl, rfl⟩ := trodVars_none hV
  have hk0 := h0
  have hk1 := h1
  obtain ⟨x0, hx0⟩ := arg_lines (hval 0 22 v0 rfl rfl) h0
  obtain ⟨x1, hx1⟩ := arg_texts (hval 1 23 v1 rfl rfl) h1
  have hG := glob_of hL hsh
  clear hA0 hval0
  refine Calls.mono (benchFixes_any x0 x1 W v0 v1 hG hx0 hx1 (fun e W' => e = .returned (.bool true) ∧ Grow W W') (fun W' hg => ⟨rfl, hg⟩)) fun e W' ⟨he, hB⟩ => ?_
  subst he
  have hlt0 : ∀ x ∈ p0, x.block < W.heap.size := fun x hx => hW'.lt x (List.mem_append_left _ (List.mem_append_left _ (hx)))
  have ht0 := Below.trod Tryz.laidOut9 (by kernel_rfl) (of_decide_eq_true (by kernel_rfl)) hk0 hB hlt0
  have hlt1 : ∀ x ∈ p1, x.block < W.heap.size := fun x hx => hW'.lt x (List.mem_append_left _ (List.mem_append_right _ hx))
  have ht1 := Below.trod Tryz.laidOut9 (by kernel_rfl) (of_decide_eq_true (by kernel_rfl)) hk1 hB hlt1
  exact ⟨_, rfl, _, _, _, [], _, [], hW', trodAll_mk1 (shut_bool Tryz.underlying4 true), trodAll_mk2 ht0 ht1, rfl, hB.frame _, fun h => by cases h⟩

/-! ### The row's closed facts, one by one (the kernel has no room for all of them in one declaration) -/
theorem bandI {a b : Bool} (ha : a = true) (hb : b = true) : (a && b) = true := by rw [ha, hb]; rfl
set_option maxRecDepth 100000 in
theorem benchFixes_f0 : (Rows.benchFixesRow.wf (OpenSpec.ofChange Rows.benchFixesSpec)) = true := by kernel_rfl
set_option maxRecDepth 100000 in
theorem benchFixes_f1 : (laidOutB Tryz.prog) = true := by kernel_rfl
set_option maxRecDepth 100000 in
theorem benchFixes_f2 : (mapsRowed Tryz.prog) = true := by kernel_rfl
set_option maxRecDepth 100000 in
theorem benchFixes_f3 : (Tryz.f3.params.all (Tryz.prog.readableRec ·)) = true := by kernel_rfl
set_option maxRecDepth 100000 in
theorem benchFixes_f4 : (namedTie Tryz.prog Rows.benchFixesRow.named Rows.benchFixesSpec.vars) = true := by kernel_rfl
set_option maxRecDepth 100000 in
theorem benchFixes_f5 : ((Rows.benchFixesRow.stops == [])) = true := by kernel_rfl
set_option maxRecDepth 100000 in
theorem benchFixes_f6 : ((Tryz.prog.stops == [])) = true := by kernel_rfl
set_option maxRecDepth 100000 in
theorem benchFixes_f7 : ((Rows.benchFixesRow.knobs == [])) = true := by kernel_rfl
set_option maxRecDepth 100000 in
theorem benchFixes_f8 : ((Tryz.prog.stopKnobs == [])) = true := by kernel_rfl
set_option maxRecDepth 100000 in
theorem benchFixes_f9 : ((Rows.benchFixesRow.inPlace == Tryz.prog.inPlace 3)) = true := by kernel_rfl
set_option maxRecDepth 100000 in
theorem benchFixes_f10 : ((Rows.benchFixesRow.unfollowed == Tryz.prog.unfollowed 3)) = true := by kernel_rfl
set_option maxRecDepth 100000 in
theorem benchFixes_f11 : ((Rows.benchFixesRow.recurses == Tryz.prog.recurses 3)) = true := by kernel_rfl
set_option maxRecDepth 100000 in
theorem benchFixes_f12 : ((Rows.benchFixesRow.named == Tryz.prog.varsNamed 3)) = true := by kernel_rfl
set_option maxRecDepth 100000 in
theorem benchFixes_f13 : ((Rows.benchFixesRow.maps == (Tryz.f3.params.toList ++ Rows.benchFixesSpec.plain.varTypes Tryz.prog).any (Tryz.prog.mapsRec ·))) = true := by kernel_rfl
set_option maxRecDepth 100000 in
theorem benchFixes_f14 : ((Rows.benchFixesRow.ifaces == (Tryz.f3.params.toList ++ Rows.benchFixesSpec.plain.varTypes Tryz.prog).any (Tryz.prog.ifacesRec ·))) = true := by kernel_rfl
set_option maxRecDepth 100000 in
theorem benchFixes_f15 : ((Rows.benchFixesRow.mapsOut == Tryz.prog.mapsAmong Tryz.f3.resultTypes.toList)) = true := by kernel_rfl
set_option maxRecDepth 100000 in
theorem benchFixes_f16 : ((Rows.benchFixesRow.loops == (Tryz.f3.params.toList ++ Rows.benchFixesSpec.plain.varTypes Tryz.prog).any (Tryz.prog.loopsFrom ·))) = true := by kernel_rfl
set_option maxRecDepth 100000 in
theorem benchFixes_f17 : ((Rows.benchFixesRow.wideKeys == (Tryz.f3.params.toList ++ Rows.benchFixesSpec.plain.varTypes Tryz.prog ++ Tryz.f3.resultTypes.toList).any (Tryz.prog.wideKeysFrom ·))) = true := by kernel_rfl
set_option maxRecDepth 100000 in
theorem benchFixes_f18 : (Rows.benchFixesSpec.vars.all (Tryz.prog.varReadable ·)) = true := by kernel_rfl
set_option maxRecDepth 100000 in
theorem benchFixes_f19 : (Tryz.f3.resultTypes.all (fun t => Tryz.prog.readableRec t && decide (t < Tryz.prog.types.size))) = true := by kernel_rfl
set_option maxRecDepth 100000 in
theorem benchFixes_f20 : ((Rows.benchFixesRow.ifacesOut == Tryz.f3.resultTypes.toList.any (Tryz.prog.ifacesRec ·))) = true := by kernel_rfl
set_option maxRecDepth 100000 in
theorem benchFixes_f21 : ((Rows.benchFixesRow.loopsOut == Tryz.f3.resultTypes.toList.any (Tryz.prog.loopsFrom ·))) = true := by kernel_rfl
set_option maxRecDepth 100000 in
theorem benchFixes_f22 : ((Rows.benchFixesRow.plainKeys == Tryz.prog.plainKeys)) = true := by kernel_rfl
set_option maxRecDepth 100000 in
theorem benchFixes_f23 : (Rows.benchFixesRow.shortTexts.isNone) = true := by kernel_rfl
set_option maxRecDepth 100000 in
theorem benchFixes_f24 : (Tryz.prog.stopsHeard) = true := by kernel_rfl
set_option maxRecDepth 100000 in
theorem benchFixes_f25 : (Tryz.prog.mayEnter) = true := by kernel_rfl
set_option maxRecDepth 100000 in
theorem benchFixes_f26 : ((Rows.benchFixesRow.lifted == Tryz.prog.liftsFinal)) = true := by kernel_rfl
set_option maxRecDepth 100000 in
theorem benchFixes_f27 : ((Tryz.prog.make == some Rows.benchFixesRow.make)) = true := by kernel_rfl
set_option maxRecDepth 100000 in
theorem benchFixes_f28 : ((Rows.benchFixesRow.kinds == (if Rows.benchFixesRow.domain.isEmpty then [] else Tryz.f3.params.toList.map fun t => match Tryz.prog.underlying t with | some (.int k) => some k | _ => none))) = true := by kernel_rfl
set_option maxRecDepth 100000 in
theorem benchFixes_f29 : ((Rows.benchFixesRow.pinned == Rows.benchFixesRow.pinnedBy)) = true := by kernel_rfl
set_option maxRecDepth 100000 in
theorem benchFixes_f30 : ((Rows.benchFixesRow.veiled == (Tryz.f3.params.toList ++ Rows.benchFixesSpec.plain.varTypes Tryz.prog ++ Tryz.f3.resultTypes.toList).any (Tryz.prog.veiledRec ·))) = true := by kernel_rfl
set_option maxRecDepth 100000 in
theorem benchFixes_f31 : (Rows.benchFixesRow.veiledFits Tryz.prog Tryz.f3.params.toList (Tryz.f3.params.toList ++ Rows.benchFixesSpec.plain.varTypes Tryz.prog ++ Tryz.f3.resultTypes.toList)) = true := by kernel_rfl
set_option maxRecDepth 100000 in
theorem benchFixes_facts : joinedFacts Tryz.prog 3 Tryz.f3 Rows.benchFixesSpec Rows.benchFixesRow = true := by
  unfold joinedFacts
  exact bandI (bandI (bandI (bandI (bandI (bandI (bandI (bandI (bandI (bandI (bandI (bandI (bandI (bandI (bandI (bandI (bandI (bandI (bandI (bandI (bandI (bandI (bandI (bandI (bandI (bandI (bandI (bandI (bandI (bandI (bandI (benchFixes_f0) benchFixes_f1) benchFixes_f2) benchFixes_f3) benchFixes_f4) benchFixes_f5) benchFixes_f6) benchFixes_f7) benchFixes_f8) benchFixes_f9) benchFixes_f10) benchFixes_f11) benchFixes_f12) benchFixes_f13) benchFixes_f14) benchFixes_f15) benchFixes_f16) benchFixes_f17) benchFixes_f18) benchFixes_f19) benchFixes_f20) benchFixes_f21) benchFixes_f22) benchFixes_f23) benchFixes_f24) benchFixes_f25) benchFixes_f26) benchFixes_f27) benchFixes_f28) benchFixes_f29) benchFixes_f30) benchFixes_f31

theorem benchFixes_named : Tryz.prog.funcNamed "tinker/tinkerlaw09.BenchFixes" = some 3 := by kernel_rfl
set_option maxRecDepth 100000 in
theorem benchFixes_row : Rows.BenchFixesSaid :=
  OpenClaim.holds_of_wide 3 Tryz.f3 rfl rfl rfl rfl rfl rfl rfl ⟨rfl, rfl, rfl, rfl, rfl⟩ rfl rfl rfl rfl rfl benchFixes_named Tryz.func3 benchFixes_facts
    (of_decide_eq_true (by kernel_rfl)) (by unfold Func.isWrapper; first | (rw [if_pos (by decide +kernel)]; kernel_rfl) | (rw [if_neg (by decide +kernel)]; exact ⟨rfl, rfl⟩))
    (fun os started H enc _ => benchFixes_lifted os started H enc)

set_option maxRecDepth 100000 in
theorem benchFixes_wf : Rows.benchFixesRow.wfByText (OpenSpec.ofChange Rows.benchFixesSpec) = true := by kernel_rfl
theorem benchFixes_main : Tryz.pinned.checked.prog.mainIs = some (Rows.benchFixesCard.stood.harness.1, Rows.benchFixesCard.stood.harness.2.toList) := by kernel_rfl
theorem benchFixes_goes : false = Rows.benchFixesRow.goesBy Tryz.pinned.checked.prog := by kernel_rfl
theorem benchFixes_looks : true = Tryz.pinned.checked.prog.looks [] := by kernel_rfl
set_option maxRecDepth 100000 in
theorem benchFixes_holds : Rows.BenchFixesCardSaid :=
  Claim7.holds_tied_plain_at .later [] [.data, .data, .data, .data, .handle, .sentinel, .sentinel, .pinned] true Rows.benchFixesCard.stood.harness true benchFixes_row (fun _ h => by cases h) benchFixes_wf (fun _ h => by cases h) benchFixes_row_tie rfl ⟨rfl, rfl⟩ benchFixes_main rfl
    (fun f fn hf hfn => by
      obtain rfl : f = 3 := Option.some.inj (benchFixes_named.symm.trans hf) |>.symm
      obtain rfl : fn = Tryz.f3 := (Option.some.inj (Tryz.func3.symm.trans hfn)).symm
      exact ⟨benchFixes_looks, fun j t ht => by
        rw [Tryz.params3] at ht
        have hm : t ∈ [22, 23] := by simpa using Array.mem_of_getElem? ht
        have hall : ([22, 23].all fun u => !Tryz.prog.wantsStandIn u) = true := by kernel_rfl
        exact (show Tryz.prog.wantsStandIn t = false by simpa using List.all_eq_true.1 hall t hm)⟩)
    benchFixes_goes

end Go.Proofs.YtgjppekjkofdiaaGreatDoor
