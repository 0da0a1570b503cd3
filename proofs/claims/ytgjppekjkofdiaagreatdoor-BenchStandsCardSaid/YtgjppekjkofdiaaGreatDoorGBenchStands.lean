/-
The statement BenchStands: the history makes the program, and no locked test fails, behind each order, for all programs and orders. No condition but the laid variables, which the card ties.
-/
import Derived.Test.YtgjppekjkofdiaaGreatDoorG41
import Derived.Test.YtgjppekjkofdiaaGreatDoorG45
import Derived.Test.YtgjppekjkofdiaaGreatDoorG46
import Derived.Test.YtgjppekjkofdiaaGreatDoorG47
import Derived.Test.YtgjppekjkofdiaaGreatDoorCards
import Derived.Lib.SmallJoins
namespace Go.Proofs.YtgjppekjkofdiaaGreatDoor
open Go.ChangeShapes Go.WideShapes Go.ChangeAt Go.RowKit

set_option maxRecDepth 100000 in
set_option maxHeartbeats 4000000 in
theorem benchStands_lifted (os : Os) (started : os.Started) (H : Type) (enc : TypeId × Value → H) :
    ReturnsInHanded {} Tryz.checked os 4 .any (fun w args => (Rows.benchStandsSpec.pre enc Tryz.prog Tryz.f4 [] false w args ∧ laidMetH Tryz.prog Rows.benchStandsRow.laid w) ∧ sizedMet enc Tryz.prog Tryz.f4 (OpenSpec.ofChange Rows.benchStandsSpec) false w args)
      (Rows.benchStandsSpec.post enc Tryz.prog Tryz.f4 false true false false) := by
  have hlk : Rows.benchStandsRow.laid = lk := rfl
  rw [hlk]
  refine handed_laid (C := Tryz.checked) (X := fun w _ => laidMetH Tryz.prog lk w) (fun _ _ _ hh h => h.of_heap hh) Tryz.own9 started (by kernel_rfl) Tryz.func4
    (ChangeSpec.witness_shaped (enc := enc) (C := Tryz.checked) (os := os) (X := fun w _ => laidMetH Tryz.prog lk w) false (w9 os) #[.slice none 0 0, .slice none 0 0] 8 (w9_os os) (World.shaped_of_ZipB (by kernel_rfl) (by kernel_rfl)) (by kernel_rfl) (by kernel_rfl) (by kernel_rfl) (w9_met os _)) ?_
  intro W base args ds gs before hval0 hW hcnd _ hsh hL
  have hval : ∀ (j : Nat) t v, Tryz.f4.params[j]? = some t → args[j]? = some v → Value.okWide Tryz.prog W .any base t v := hval0
  have hW' := hW
  obtain ⟨p, q, hA0, hV, rfl, hfz, hnd⟩ := hW
  have hA : DataW.TrodAll enc Tryz.prog W 0 (fun _ => true) true Tryz.f4.params.toList args.toList ds p := hA0
  rw [Tryz.params4] at hA hval
  obtain ⟨v0, v1, d0, d1, p0, p1, rfl, rfl, rfl, h0, h1⟩ := trodAll_two hA
  obtain ⟨rfl, rfl⟩ := trodVars_none hV
  have hk0 := h0
  have hk1 := h1
  obtain ⟨x0, hx0⟩ := arg_lines (hval 0 22 v0 rfl rfl) h0
  obtain ⟨x1, hx1⟩ := arg_texts (hval 1 23 v1 rfl rfl) h1
  have hG := glob_of hL hsh
  clear hA0 hval0
  refine Calls.mono (benchStands_any x0 x1 W v0 v1 hG hx0 hx1 (fun e W' => e = .returned (.bool true) ∧ Grow W W') (fun W' hg => ⟨rfl, hg⟩)) fun e W' ⟨he, hB⟩ => ?_
  subst he
  have hlt0 : ∀ x ∈ p0, x.block < W.heap.size := fun x hx => hW'.lt x (List.mem_append_left _ (List.mem_append_left _ (hx)))
  have ht0 := Below.trod Tryz.laidOut9 (by kernel_rfl) (of_decide_eq_true (by kernel_rfl)) hk0 hB hlt0
  have hlt1 : ∀ x ∈ p1, x.block < W.heap.size := fun x hx => hW'.lt x (List.mem_append_left _ (List.mem_append_right _ hx))
  have ht1 := Below.trod Tryz.laidOut9 (by kernel_rfl) (of_decide_eq_true (by kernel_rfl)) hk1 hB hlt1
  exact ⟨_, rfl, _, _, _, [], _, [], hW', trodAll_mk1 (shut_bool Tryz.underlying4 true), trodAll_mk2 ht0 ht1, rfl, hB.frame _, fun h => by cases h⟩

/-! ### The row's closed facts, one by one (the kernel has no room for all of them in one declaration) -/
theorem bandI {a b : Bool} (ha : a = true) (hb : b = true) : (a && b) = true := by rw [ha, hb]; rfl
set_option maxRecDepth 100000 in
theorem benchStands_f0 : (Rows.benchStandsRow.wf (OpenSpec.ofChange Rows.benchStandsSpec)) = true := by kernel_rfl
set_option maxRecDepth 100000 in
theorem benchStands_f1 : (laidOutB Tryz.prog) = true := by kernel_rfl
set_option maxRecDepth 100000 in
theorem benchStands_f2 : (mapsRowed Tryz.prog) = true := by kernel_rfl
set_option maxRecDepth 100000 in
theorem benchStands_f3 : (Tryz.f4.params.all (Tryz.prog.readableRec ·)) = true := by kernel_rfl
set_option maxRecDepth 100000 in
theorem benchStands_f4 : (namedTie Tryz.prog Rows.benchStandsRow.named Rows.benchStandsSpec.vars) = true := by kernel_rfl
set_option maxRecDepth 100000 in
theorem benchStands_f5 : ((Rows.benchStandsRow.stops == [])) = true := by kernel_rfl
set_option maxRecDepth 100000 in
theorem benchStands_f6 : ((Tryz.prog.stops == [])) = true := by kernel_rfl
set_option maxRecDepth 100000 in
theorem benchStands_f7 : ((Rows.benchStandsRow.knobs == [])) = true := by kernel_rfl
set_option maxRecDepth 100000 in
theorem benchStands_f8 : ((Tryz.prog.stopKnobs == [])) = true := by kernel_rfl
set_option maxRecDepth 100000 in
theorem benchStands_f9 : ((Rows.benchStandsRow.inPlace == Tryz.prog.inPlace 4)) = true := by kernel_rfl
set_option maxRecDepth 100000 in
theorem benchStands_f10 : ((Rows.benchStandsRow.unfollowed == Tryz.prog.unfollowed 4)) = true := by kernel_rfl
set_option maxRecDepth 100000 in
theorem benchStands_f11 : ((Rows.benchStandsRow.recurses == Tryz.prog.recurses 4)) = true := by kernel_rfl
set_option maxRecDepth 100000 in
theorem benchStands_f12 : ((Rows.benchStandsRow.named == Tryz.prog.varsNamed 4)) = true := by kernel_rfl
set_option maxRecDepth 100000 in
theorem benchStands_f13 : ((Rows.benchStandsRow.maps == (Tryz.f4.params.toList ++ Rows.benchStandsSpec.plain.varTypes Tryz.prog).any (Tryz.prog.mapsRec ·))) = true := by kernel_rfl
set_option maxRecDepth 100000 in
theorem benchStands_f14 : ((Rows.benchStandsRow.ifaces == (Tryz.f4.params.toList ++ Rows.benchStandsSpec.plain.varTypes Tryz.prog).any (Tryz.prog.ifacesRec ·))) = true := by kernel_rfl
set_option maxRecDepth 100000 in
theorem benchStands_f15 : ((Rows.benchStandsRow.mapsOut == Tryz.prog.mapsAmong Tryz.f4.resultTypes.toList)) = true := by kernel_rfl
set_option maxRecDepth 100000 in
theorem benchStands_f16 : ((Rows.benchStandsRow.loops == (Tryz.f4.params.toList ++ Rows.benchStandsSpec.plain.varTypes Tryz.prog).any (Tryz.prog.loopsFrom ·))) = true := by kernel_rfl
set_option maxRecDepth 100000 in
theorem benchStands_f17 : ((Rows.benchStandsRow.wideKeys == (Tryz.f4.params.toList ++ Rows.benchStandsSpec.plain.varTypes Tryz.prog ++ Tryz.f4.resultTypes.toList).any (Tryz.prog.wideKeysFrom ·))) = true := by kernel_rfl
set_option maxRecDepth 100000 in
theorem benchStands_f18 : (Rows.benchStandsSpec.vars.all (Tryz.prog.varReadable ·)) = true := by kernel_rfl
set_option maxRecDepth 100000 in
theorem benchStands_f19 : (Tryz.f4.resultTypes.all (fun t => Tryz.prog.readableRec t && decide (t < Tryz.prog.types.size))) = true := by kernel_rfl
set_option maxRecDepth 100000 in
theorem benchStands_f20 : ((Rows.benchStandsRow.ifacesOut == Tryz.f4.resultTypes.toList.any (Tryz.prog.ifacesRec ·))) = true := by kernel_rfl
set_option maxRecDepth 100000 in
theorem benchStands_f21 : ((Rows.benchStandsRow.loopsOut == Tryz.f4.resultTypes.toList.any (Tryz.prog.loopsFrom ·))) = true := by kernel_rfl
set_option maxRecDepth 100000 in
theorem benchStands_f22 : ((Rows.benchStandsRow.plainKeys == Tryz.prog.plainKeys)) = true := by kernel_rfl
set_option maxRecDepth 100000 in
theorem benchStands_f23 : (Rows.benchStandsRow.shortTexts.isNone) = true := by kernel_rfl
set_option maxRecDepth 100000 in
theorem benchStands_f24 : (Tryz.prog.stopsHeard) = true := by kernel_rfl
set_option maxRecDepth 100000 in
theorem benchStands_f25 : (Tryz.prog.mayEnter) = true := by kernel_rfl
set_option maxRecDepth 100000 in
theorem benchStands_f26 : ((Rows.benchStandsRow.lifted == Tryz.prog.liftsFinal)) = true := by kernel_rfl
set_option maxRecDepth 100000 in
theorem benchStands_f27 : ((Tryz.prog.make == some Rows.benchStandsRow.make)) = true := by kernel_rfl
set_option maxRecDepth 100000 in
theorem benchStands_f28 : ((Rows.benchStandsRow.kinds == (if Rows.benchStandsRow.domain.isEmpty then [] else Tryz.f4.params.toList.map fun t => match Tryz.prog.underlying t with | some (.int k) => some k | _ => none))) = true := by kernel_rfl
set_option maxRecDepth 100000 in
theorem benchStands_f29 : ((Rows.benchStandsRow.pinned == Rows.benchStandsRow.pinnedBy)) = true := by kernel_rfl
set_option maxRecDepth 100000 in
theorem benchStands_f30 : ((Rows.benchStandsRow.veiled == (Tryz.f4.params.toList ++ Rows.benchStandsSpec.plain.varTypes Tryz.prog ++ Tryz.f4.resultTypes.toList).any (Tryz.prog.veiledRec ·))) = true := by kernel_rfl
set_option maxRecDepth 100000 in
theorem benchStands_f31 : (Rows.benchStandsRow.veiledFits Tryz.prog Tryz.f4.params.toList (Tryz.f4.params.toList ++ Rows.benchStandsSpec.plain.varTypes Tryz.prog ++ Tryz.f4.resultTypes.toList)) = true := by kernel_rfl
set_option maxRecDepth 100000 in
theorem benchStands_facts : joinedFacts Tryz.prog 4 Tryz.f4 Rows.benchStandsSpec Rows.benchStandsRow = true := by
  unfold joinedFacts
  exact bandI (bandI (bandI (bandI (bandI (bandI (bandI (bandI (bandI (bandI (bandI (bandI (bandI (bandI (bandI (bandI (bandI (bandI (bandI (bandI (bandI (bandI (bandI (bandI (bandI (bandI (bandI (bandI (bandI (bandI (bandI (benchStands_f0) benchStands_f1) benchStands_f2) benchStands_f3) benchStands_f4) benchStands_f5) benchStands_f6) benchStands_f7) benchStands_f8) benchStands_f9) benchStands_f10) benchStands_f11) benchStands_f12) benchStands_f13) benchStands_f14) benchStands_f15) benchStands_f16) benchStands_f17) benchStands_f18) benchStands_f19) benchStands_f20) benchStands_f21) benchStands_f22) benchStands_f23) benchStands_f24) benchStands_f25) benchStands_f26) benchStands_f27) benchStands_f28) benchStands_f29) benchStands_f30) benchStands_f31

theorem benchStands_named : Tryz.prog.funcNamed "tinker/tinkerlaw09.BenchStands" = some 4 := by kernel_rfl
set_option maxRecDepth 100000 in
theorem benchStands_row : Rows.BenchStandsSaid :=
  OpenClaim.holds_of_wide 4 Tryz.f4 rfl rfl rfl rfl rfl rfl rfl ⟨rfl, rfl, rfl, rfl, rfl⟩ rfl rfl rfl rfl rfl benchStands_named Tryz.func4 benchStands_facts
    (of_decide_eq_true (by kernel_rfl)) (by unfold Func.isWrapper; first | (rw [if_pos (by decide +kernel)]; kernel_rfl) | (rw [if_neg (by decide +kernel)]; exact ⟨rfl, rfl⟩))
    (fun os started H enc _ => benchStands_lifted os started H enc)

set_option maxRecDepth 100000 in
theorem benchStands_wf : Rows.benchStandsRow.wfByText (OpenSpec.ofChange Rows.benchStandsSpec) = true := by kernel_rfl
theorem benchStands_main : Tryz.pinned.checked.prog.mainIs = some (Rows.benchStandsCard.stood.harness.1, Rows.benchStandsCard.stood.harness.2.toList) := by kernel_rfl
theorem benchStands_goes : false = Rows.benchStandsRow.goesBy Tryz.pinned.checked.prog := by kernel_rfl
theorem benchStands_looks : true = Tryz.pinned.checked.prog.looks [] := by kernel_rfl
set_option maxRecDepth 100000 in
theorem benchStands_holds : Rows.BenchStandsCardSaid :=
  Claim7.holds_tied_plain_at .later [] [.data, .data, .data, .data, .handle, .sentinel, .sentinel, .pinned] true Rows.benchStandsCard.stood.harness true benchStands_row (fun _ h => by cases h) benchStands_wf (fun _ h => by cases h) benchStands_row_tie rfl ⟨rfl, rfl⟩ benchStands_main rfl
    (fun f fn hf hfn => by
      obtain rfl : f = 4 := Option.some.inj (benchStands_named.symm.trans hf) |>.symm
      obtain rfl : fn = Tryz.f4 := (Option.some.inj (Tryz.func4.symm.trans hfn)).symm
      exact ⟨benchStands_looks, fun j t ht => by
        rw [Tryz.params4] at ht
        have hm : t ∈ [22, 23] := by simpa using Array.mem_of_getElem? ht
        have hall : ([22, 23].all fun u => !Tryz.prog.wantsStandIn u) = true := by kernel_rfl
        exact (show Tryz.prog.wantsStandIn t = false by simpa using List.all_eq_true.1 hall t hm)⟩)
    benchStands_goes

end Go.Proofs.YtgjppekjkofdiaaGreatDoor
