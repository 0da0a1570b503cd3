/-
The statement BenchWrites: the book of orders is what the document says, and it is read as these, and any beginning of it as a beginning. No condition but the laid variables, which the card ties.
-/
import Derived.Test.YtihdpbfhkddpcaaGreatDoorG46
import Derived.Test.YtihdpbfhkddpcaaGreatDoorG50
import Derived.Test.YtihdpbfhkddpcaaGreatDoorG51
import Derived.Test.YtihdpbfhkddpcaaGreatDoorCards
import Derived.Lib.SmallJoins
namespace Go.Proofs.YtihdpbfhkddpcaaGreatDoor
open Go.ChangeShapes Go.WideShapes Go.ChangeAt Go.RowKit

set_option maxRecDepth 100000 in
set_option maxHeartbeats 4000000 in
theorem benchWrites_lifted (os : Os) (started : os.Started) (H : Type) (enc : TypeId × Value → H) :
    ReturnsInHanded {} Tryz.checked os 5 .any (fun w args => (Rows.benchWritesSpec.pre enc Tryz.prog Tryz.f5 [] false w args ∧ laidMetH Tryz.prog Rows.benchWritesRow.laid w) ∧ sizedMet enc Tryz.prog Tryz.f5 (OpenSpec.ofChange Rows.benchWritesSpec) false w args)
      (Rows.benchWritesSpec.post enc Tryz.prog Tryz.f5 false true false false) := by
  have hlk : Rows.benchWritesRow.laid = lk := rfl
  rw [hlk]
  refine handed_laid (C := Tryz.checked) (X := fun w _ => laidMetH Tryz.prog lk w) (fun _ _ _ hh h => h.of_heap hh) Tryz.own9 started (by kernel_rfl) Tryz.func5
    (ChangeSpec.witness_shaped (enc := enc) (C := Tryz.checked) (os := os) (X := fun w _ => laidMetH Tryz.prog lk w) false (w9 os) #[.slice none 0 0, .int .i64 0] 8 (w9_os os) (World.shaped_of_ZipB (by kernel_rfl) (by kernel_rfl)) (by kernel_rfl) (by kernel_rfl) (by kernel_rfl) (w9_met os _)) ?_
  intro W base args ds gs before hval0 hW hcnd _ hsh hL
  have hval : ∀ (j : Nat) t v, Tryz.f5.params[j]? = some t → args[j]? = some v → Value.okWide Tryz.prog W .any base t v := hval0
  have hW' := hW
  obtain ⟨p, q, hA0, hV, rfl, hfz, hnd⟩ := hW
  have hA : DataW.TrodAll enc Tryz.prog W 0 (fun _ => true) true Tryz.f5.params.toList args.toList ds p := hA0
  rw [Tryz.params5] at hA hval
  obtain ⟨v0, v1, d0, d1, p0, p1, rfl, rfl, rfl, h0, h1⟩ := trodAll_two hA
  obtain ⟨rfl, rfl⟩ := trodVars_none hV
  have hk0 := h0
  have hk1 := h1
  obtain ⟨x0, hx0⟩ := arg_texts (hval 0 23 v0 rfl rfl) h0
  obtain ⟨x1, rfl, hx1⟩ := arg_int (hval 1 3 v1 rfl rfl) h1
  have hG := glob_of hL hsh
  clear hA0 hval0
  refine Calls.mono (benchWrites_any x0 x1 W v0 hG hx0 (fun e W' => e = .returned (.bool true) ∧ Grow W W') (fun W' hg => ⟨rfl, hg⟩)) fun e W' ⟨he, hB⟩ => ?_
  subst he
  have hlt0 : ∀ x ∈ p0, x.block < W.heap.size := fun x hx => hW'.lt x (List.mem_append_left _ (List.mem_append_left _ (hx)))
  have ht0 := Below.trod Tryz.laidOut9 (by kernel_rfl) (of_decide_eq_true (by kernel_rfl)) hk0 hB hlt0
  have hlt1 : ∀ x ∈ p1, x.block < W.heap.size := fun x hx => hW'.lt x (List.mem_append_left _ (List.mem_append_right _ hx))
  have ht1 := Below.trod Tryz.laidOut9 (by kernel_rfl) (of_decide_eq_true (by kernel_rfl)) hk1 hB hlt1
  exact ⟨_, rfl, _, _, _, [], _, [], hW', trodAll_mk1 (shut_bool Tryz.underlying4 true), trodAll_mk2 ht0 ht1, rfl, hB.frame _, fun h => by cases h⟩

/-! ### The row's closed facts, one by one (the kernel has no room for all of them in one declaration) -/
theorem bandI {a b : Bool} (ha : a = true) (hb : b = true) : (a && b) = true := by rw [ha, hb]; rfl
set_option maxRecDepth 100000 in
theorem benchWrites_f0 : (Rows.benchWritesRow.wf (OpenSpec.ofChange Rows.benchWritesSpec)) = true := by kernel_rfl
set_option maxRecDepth 100000 in
theorem benchWrites_f1 : (laidOutB Tryz.prog) = true := by kernel_rfl
set_option maxRecDepth 100000 in
theorem benchWrites_f2 : (mapsRowed Tryz.prog) = true := by kernel_rfl
set_option maxRecDepth 100000 in
theorem benchWrites_f3 : (Tryz.f5.params.all (Tryz.prog.readableRec ·)) = true := by kernel_rfl
set_option maxRecDepth 100000 in
theorem benchWrites_f4 : (namedTie Tryz.prog Rows.benchWritesRow.named Rows.benchWritesSpec.vars) = true := by kernel_rfl
set_option maxRecDepth 100000 in
theorem benchWrites_f5 : ((Rows.benchWritesRow.stops == [])) = true := by kernel_rfl
set_option maxRecDepth 100000 in
theorem benchWrites_f6 : ((Tryz.prog.stops == [])) = true := by kernel_rfl
set_option maxRecDepth 100000 in
theorem benchWrites_f7 : ((Rows.benchWritesRow.knobs == [])) = true := by kernel_rfl
set_option maxRecDepth 100000 in
theorem benchWrites_f8 : ((Tryz.prog.stopKnobs == [])) = true := by kernel_rfl
set_option maxRecDepth 100000 in
theorem benchWrites_f9 : ((Rows.benchWritesRow.inPlace == Tryz.prog.inPlace 5)) = true := by kernel_rfl
set_option maxRecDepth 100000 in
theorem benchWrites_f10 : ((Rows.benchWritesRow.unfollowed == Tryz.prog.unfollowed 5)) = true := by kernel_rfl
set_option maxRecDepth 100000 in
theorem benchWrites_f11 : ((Rows.benchWritesRow.recurses == Tryz.prog.recurses 5)) = true := by kernel_rfl
set_option maxRecDepth 100000 in
theorem benchWrites_f12 : ((Rows.benchWritesRow.named == Tryz.prog.varsNamed 5)) = true := by kernel_rfl
set_option maxRecDepth 100000 in
theorem benchWrites_f13 : ((Rows.benchWritesRow.maps == (Tryz.f5.params.toList ++ Rows.benchWritesSpec.plain.varTypes Tryz.prog).any (Tryz.prog.mapsRec ·))) = true := by kernel_rfl
set_option maxRecDepth 100000 in
theorem benchWrites_f14 : ((Rows.benchWritesRow.ifaces == (Tryz.f5.params.toList ++ Rows.benchWritesSpec.plain.varTypes Tryz.prog).any (Tryz.prog.ifacesRec ·))) = true := by kernel_rfl
set_option maxRecDepth 100000 in
theorem benchWrites_f15 : ((Rows.benchWritesRow.mapsOut == Tryz.prog.mapsAmong Tryz.f5.resultTypes.toList)) = true := by kernel_rfl
set_option maxRecDepth 100000 in
theorem benchWrites_f16 : ((Rows.benchWritesRow.loops == (Tryz.f5.params.toList ++ Rows.benchWritesSpec.plain.varTypes Tryz.prog).any (Tryz.prog.loopsFrom ·))) = true := by kernel_rfl
set_option maxRecDepth 100000 in
theorem benchWrites_f17 : ((Rows.benchWritesRow.wideKeys == (Tryz.f5.params.toList ++ Rows.benchWritesSpec.plain.varTypes Tryz.prog ++ Tryz.f5.resultTypes.toList).any (Tryz.prog.wideKeysFrom ·))) = true := by kernel_rfl
set_option maxRecDepth 100000 in
theorem benchWrites_f18 : (Rows.benchWritesSpec.vars.all (Tryz.prog.varReadable ·)) = true := by kernel_rfl
set_option maxRecDepth 100000 in
theorem benchWrites_f19 : (Tryz.f5.resultTypes.all (fun t => Tryz.prog.readableRec t && decide (t < Tryz.prog.types.size))) = true := by kernel_rfl
set_option maxRecDepth 100000 in
theorem benchWrites_f20 : ((Rows.benchWritesRow.ifacesOut == Tryz.f5.resultTypes.toList.any (Tryz.prog.ifacesRec ·))) = true := by kernel_rfl
set_option maxRecDepth 100000 in
theorem benchWrites_f21 : ((Rows.benchWritesRow.loopsOut == Tryz.f5.resultTypes.toList.any (Tryz.prog.loopsFrom ·))) = true := by kernel_rfl
set_option maxRecDepth 100000 in
theorem benchWrites_f22 : ((Rows.benchWritesRow.plainKeys == Tryz.prog.plainKeys)) = true := by kernel_rfl
set_option maxRecDepth 100000 in
theorem benchWrites_f23 : (Rows.benchWritesRow.shortTexts.isNone) = true := by kernel_rfl
set_option maxRecDepth 100000 in
theorem benchWrites_f24 : (Tryz.prog.stopsHeard) = true := by kernel_rfl
set_option maxRecDepth 100000 in
theorem benchWrites_f25 : (Tryz.prog.mayEnter) = true := by kernel_rfl
set_option maxRecDepth 100000 in
theorem benchWrites_f26 : ((Rows.benchWritesRow.lifted == Tryz.prog.liftsFinal)) = true := by kernel_rfl
set_option maxRecDepth 100000 in
theorem benchWrites_f27 : ((Tryz.prog.make == some Rows.benchWritesRow.make)) = true := by kernel_rfl
set_option maxRecDepth 100000 in
theorem benchWrites_f28 : ((Rows.benchWritesRow.kinds == (if Rows.benchWritesRow.domain.isEmpty then [] else Tryz.f5.params.toList.map fun t => match Tryz.prog.underlying t with | some (.int k) => some k | _ => none))) = true := by kernel_rfl
set_option maxRecDepth 100000 in
theorem benchWrites_f29 : ((Rows.benchWritesRow.pinned == Rows.benchWritesRow.pinnedBy)) = true := by kernel_rfl
set_option maxRecDepth 100000 in
theorem benchWrites_f30 : ((Rows.benchWritesRow.veiled == (Tryz.f5.params.toList ++ Rows.benchWritesSpec.plain.varTypes Tryz.prog ++ Tryz.f5.resultTypes.toList).any (Tryz.prog.veiledRec ·))) = true := by kernel_rfl
set_option maxRecDepth 100000 in
theorem benchWrites_f31 : (Rows.benchWritesRow.veiledFits Tryz.prog Tryz.f5.params.toList (Tryz.f5.params.toList ++ Rows.benchWritesSpec.plain.varTypes Tryz.prog ++ Tryz.f5.resultTypes.toList)) = true := by kernel_rfl
set_option maxRecDepth 100000 in
theorem benchWrites_facts : joinedFacts Tryz.prog 5 Tryz.f5 Rows.benchWritesSpec Rows.benchWritesRow = true := by
  unfold joinedFacts
  exact bandI (bandI (bandI (bandI (bandI (bandI (bandI (bandI (bandI (bandI (bandI (bandI (bandI (bandI (bandI (bandI (bandI (bandI (bandI (bandI (bandI (bandI (bandI (bandI (bandI (bandI (bandI (bandI (bandI (bandI (bandI (benchWrites_f0) benchWrites_f1) benchWrites_f2) benchWrites_f3) benchWrites_f4) benchWrites_f5) benchWrites_f6) benchWrites_f7) benchWrites_f8) benchWrites_f9) benchWrites_f10) benchWrites_f11) benchWrites_f12) benchWrites_f13) benchWrites_f14) benchWrites_f15) benchWrites_f16) benchWrites_f17) benchWrites_f18) benchWrites_f19) benchWrites_f20) benchWrites_f21) benchWrites_f22) benchWrites_f23) benchWrites_f24) benchWrites_f25) benchWrites_f26) benchWrites_f27) benchWrites_f28) benchWrites_f29) benchWrites_f30) benchWrites_f31

theorem benchWrites_named : Tryz.prog.funcNamed "tinker/tinkerlaw09.BenchWrites" = some 5 := by kernel_rfl
set_option maxRecDepth 100000 in
theorem benchWrites_row : Rows.BenchWritesSaid :=
  OpenClaim.holds_of_wide 5 Tryz.f5 rfl rfl rfl rfl rfl rfl rfl ⟨rfl, rfl, rfl, rfl, rfl⟩ rfl rfl rfl rfl rfl benchWrites_named Tryz.func5 benchWrites_facts
    (of_decide_eq_true (by kernel_rfl)) (by unfold Func.isWrapper; first | (rw [if_pos (by decide +kernel)]; kernel_rfl) | (rw [if_neg (by decide +kernel)]; exact ⟨rfl, rfl⟩))
    (fun os started H enc _ => benchWrites_lifted os started H enc)

set_option maxRecDepth 100000 in
theorem benchWrites_wf : Rows.benchWritesRow.wfByText (OpenSpec.ofChange Rows.benchWritesSpec) = true := by kernel_rfl
theorem benchWrites_main : Tryz.pinned.checked.prog.mainIs = some (Rows.benchWritesCard.stood.harness.1, Rows.benchWritesCard.stood.harness.2.toList) := by kernel_rfl
theorem benchWrites_goes : false = Rows.benchWritesRow.goesBy Tryz.pinned.checked.prog := by kernel_rfl
theorem benchWrites_looks : true = Tryz.pinned.checked.prog.looks [] := by kernel_rfl
set_option maxRecDepth 100000 in
theorem benchWrites_holds : Rows.BenchWritesCardSaid :=
  Claim7.holds_tied_plain_at .later [] [.data, .data, .data, .data, .handle, .sentinel, .sentinel, .pinned] true Rows.benchWritesCard.stood.harness true benchWrites_row (fun _ h => by cases h) benchWrites_wf (fun _ h => by cases h) benchWrites_row_tie rfl ⟨rfl, rfl⟩ benchWrites_main rfl
    (fun f fn hf hfn => by
      obtain rfl : f = 5 := Option.some.inj (benchWrites_named.symm.trans hf) |>.symm
      obtain rfl : fn = Tryz.f5 := (Option.some.inj (Tryz.func5.symm.trans hfn)).symm
      exact ⟨benchWrites_looks, fun j t ht => by
        rw [Tryz.params5] at ht
        have hm : t ∈ [23, 3] := by simpa using Array.mem_of_getElem? ht
        have hall : ([23, 3].all fun u => !Tryz.prog.wantsStandIn u) = true := by kernel_rfl
        exact (show Tryz.prog.wantsStandIn t = false by simpa using List.all_eq_true.1 hall t hm)⟩)
    benchWrites_goes

end Go.Proofs.YtihdpbfhkddpcaaGreatDoor
