/-
The statement BenchReads: the orders and the rest of any text, and its sum, are what the document says. No condition but the laid variables, which the card ties.
-/
import Derived.Test.YtihdpbfhkddpcaaGreatDoorG53
import Derived.Test.YtihdpbfhkddpcaaGreatDoorG50
import Derived.Test.YtihdpbfhkddpcaaGreatDoorG51
import Derived.Test.YtihdpbfhkddpcaaGreatDoorCards
import Derived.Lib.SmallJoins
namespace Go.Proofs.YtihdpbfhkddpcaaGreatDoor
open Go.ChangeShapes Go.WideShapes Go.ChangeAt Go.RowKit

set_option maxRecDepth 100000 in
set_option maxHeartbeats 4000000 in
theorem benchReads_lifted (os : Os) (started : os.Started) (H : Type) (enc : TypeId × Value → H) :
    ReturnsInHanded {} Tryz.checked os 4 .any (fun w args => (Rows.benchReadsSpec.pre enc Tryz.prog Tryz.f4 [] false w args ∧ laidMetH Tryz.prog Rows.benchReadsRow.laid w) ∧ sizedMet enc Tryz.prog Tryz.f4 (OpenSpec.ofChange Rows.benchReadsSpec) false w args)
      (Rows.benchReadsSpec.post enc Tryz.prog Tryz.f4 false true false false) := by
  have hlk : Rows.benchReadsRow.laid = lk := rfl
  rw [hlk]
  refine handed_laid (C := Tryz.checked) (X := fun w _ => laidMetH Tryz.prog lk w) (fun _ _ _ hh h => h.of_heap hh) Tryz.own9 started (by kernel_rfl) Tryz.func4
    (ChangeSpec.witness_shaped (enc := enc) (C := Tryz.checked) (os := os) (X := fun w _ => laidMetH Tryz.prog lk w) false (w9 os) #[.string ByteArray.empty, .int .i64 0] 8 (w9_os os) (World.shaped_of_ZipB (by kernel_rfl) (by kernel_rfl)) (by kernel_rfl) (by kernel_rfl) (by kernel_rfl) (w9_met os _)) ?_
  intro W base args ds gs before hval0 hW hcnd _ hsh hL
  have hval : ∀ (j : Nat) t v, Tryz.f4.params[j]? = some t → args[j]? = some v → Value.okWide Tryz.prog W .any base t v := hval0
  have hW' := hW
  obtain ⟨p, q, hA0, hV, rfl, hfz, hnd⟩ := hW
  have hA : DataW.TrodAll enc Tryz.prog W 0 (fun _ => true) true Tryz.f4.params.toList args.toList ds p := hA0
  rw [Tryz.params4] at hA hval
  obtain ⟨v0, v1, d0, d1, p0, p1, rfl, rfl, rfl, h0, h1⟩ := trodAll_two hA
  obtain ⟨rfl, rfl⟩ := trodVars_none hV
  have hk0 := h0
  have hk1 := h1
  obtain ⟨x0, rfl, hx0⟩ := arg_text (hval 0 9 v0 rfl rfl) h0
  obtain ⟨x1, rfl, hx1⟩ := arg_int (hval 1 3 v1 rfl rfl) h1
  have hG := glob_of hL hsh
  clear hA0 hval0
  refine Calls.mono (benchReads_any x0 x1 W hG (fun e W' => e = .returned (.bool true) ∧ Grow W W') (fun W' hg => ⟨rfl, hg⟩)) fun e W' ⟨he, hB⟩ => ?_
  subst he
  have hlt0 : ∀ x ∈ p0, x.block < W.heap.size := fun x hx => hW'.lt x (List.mem_append_left _ (List.mem_append_left _ (hx)))
  have ht0 := Below.trod Tryz.laidOut9 (by kernel_rfl) (of_decide_eq_true (by kernel_rfl)) hk0 hB hlt0
  have hlt1 : ∀ x ∈ p1, x.block < W.heap.size := fun x hx => hW'.lt x (List.mem_append_left _ (List.mem_append_right _ hx))
  have ht1 := Below.trod Tryz.laidOut9 (by kernel_rfl) (of_decide_eq_true (by kernel_rfl)) hk1 hB hlt1
  exact ⟨_, rfl, _, _, _, [], _, [], hW', trodAll_mk1 (shut_bool Tryz.underlying4 true), trodAll_mk2 ht0 ht1, rfl, hB.frame _, fun h => by cases h⟩

/-! ### The row's closed facts, one by one (the kernel has no room for all of them in one declaration) -/
theorem bandI {a b : Bool} (ha : a = true) (hb : b = true) : (a && b) = true := by rw [ha, hb]; rfl
set_option maxRecDepth 100000 in
theorem benchReads_f0 : (Rows.benchReadsRow.wf (OpenSpec.ofChange Rows.benchReadsSpec)) = true := by kernel_rfl
set_option maxRecDepth 100000 in
theorem benchReads_f1 : (laidOutB Tryz.prog) = true := by kernel_rfl
set_option maxRecDepth 100000 in
theorem benchReads_f2 : (mapsRowed Tryz.prog) = true := by kernel_rfl
set_option maxRecDepth 100000 in
theorem benchReads_f3 : (Tryz.f4.params.all (Tryz.prog.readableRec ·)) = true := by kernel_rfl
set_option maxRecDepth 100000 in
theorem benchReads_f4 : (namedTie Tryz.prog Rows.benchReadsRow.named Rows.benchReadsSpec.vars) = true := by kernel_rfl
set_option maxRecDepth 100000 in
theorem benchReads_f5 : ((Rows.benchReadsRow.stops == [])) = true := by kernel_rfl
set_option maxRecDepth 100000 in
theorem benchReads_f6 : ((Tryz.prog.stops == [])) = true := by kernel_rfl
set_option maxRecDepth 100000 in
theorem benchReads_f7 : ((Rows.benchReadsRow.knobs == [])) = true := by kernel_rfl
set_option maxRecDepth 100000 in
theorem benchReads_f8 : ((Tryz.prog.stopKnobs == [])) = true := by kernel_rfl
set_option maxRecDepth 100000 in
theorem benchReads_f9 : ((Rows.benchReadsRow.inPlace == Tryz.prog.inPlace 4)) = true := by kernel_rfl
set_option maxRecDepth 100000 in
theorem benchReads_f10 : ((Rows.benchReadsRow.unfollowed == Tryz.prog.unfollowed 4)) = true := by kernel_rfl
set_option maxRecDepth 100000 in
theorem benchReads_f11 : ((Rows.benchReadsRow.recurses == Tryz.prog.recurses 4)) = true := by kernel_rfl
set_option maxRecDepth 100000 in
theorem benchReads_f12 : ((Rows.benchReadsRow.named == Tryz.prog.varsNamed 4)) = true := by kernel_rfl
set_option maxRecDepth 100000 in
theorem benchReads_f13 : ((Rows.benchReadsRow.maps == (Tryz.f4.params.toList ++ Rows.benchReadsSpec.plain.varTypes Tryz.prog).any (Tryz.prog.mapsRec ·))) = true := by kernel_rfl
set_option maxRecDepth 100000 in
theorem benchReads_f14 : ((Rows.benchReadsRow.ifaces == (Tryz.f4.params.toList ++ Rows.benchReadsSpec.plain.varTypes Tryz.prog).any (Tryz.prog.ifacesRec ·))) = true := by kernel_rfl
set_option maxRecDepth 100000 in
theorem benchReads_f15 : ((Rows.benchReadsRow.mapsOut == Tryz.prog.mapsAmong Tryz.f4.resultTypes.toList)) = true := by kernel_rfl
set_option maxRecDepth 100000 in
theorem benchReads_f16 : ((Rows.benchReadsRow.loops == (Tryz.f4.params.toList ++ Rows.benchReadsSpec.plain.varTypes Tryz.prog).any (Tryz.prog.loopsFrom ·))) = true := by kernel_rfl
set_option maxRecDepth 100000 in
theorem benchReads_f17 : ((Rows.benchReadsRow.wideKeys == (Tryz.f4.params.toList ++ Rows.benchReadsSpec.plain.varTypes Tryz.prog ++ Tryz.f4.resultTypes.toList).any (Tryz.prog.wideKeysFrom ·))) = true := by kernel_rfl
set_option maxRecDepth 100000 in
theorem benchReads_f18 : (Rows.benchReadsSpec.vars.all (Tryz.prog.varReadable ·)) = true := by kernel_rfl
set_option maxRecDepth 100000 in
theorem benchReads_f19 : (Tryz.f4.resultTypes.all (fun t => Tryz.prog.readableRec t && decide (t < Tryz.prog.types.size))) = true := by kernel_rfl
set_option maxRecDepth 100000 in
theorem benchReads_f20 : ((Rows.benchReadsRow.ifacesOut == Tryz.f4.resultTypes.toList.any (Tryz.prog.ifacesRec ·))) = true := by kernel_rfl
set_option maxRecDepth 100000 in
theorem benchReads_f21 : ((Rows.benchReadsRow.loopsOut == Tryz.f4.resultTypes.toList.any (Tryz.prog.loopsFrom ·))) = true := by kernel_rfl
set_option maxRecDepth 100000 in
theorem benchReads_f22 : ((Rows.benchReadsRow.plainKeys == Tryz.prog.plainKeys)) = true := by kernel_rfl
set_option maxRecDepth 100000 in
theorem benchReads_f23 : (Rows.benchReadsRow.shortTexts.isNone) = true := by kernel_rfl
set_option maxRecDepth 100000 in
theorem benchReads_f24 : (Tryz.prog.stopsHeard) = true := by kernel_rfl
set_option maxRecDepth 100000 in
theorem benchReads_f25 : (Tryz.prog.mayEnter) = true := by kernel_rfl
set_option maxRecDepth 100000 in
theorem benchReads_f26 : ((Rows.benchReadsRow.lifted == Tryz.prog.liftsFinal)) = true := by kernel_rfl
set_option maxRecDepth 100000 in
theorem benchReads_f27 : ((Tryz.prog.make == some Rows.benchReadsRow.make)) = true := by kernel_rfl
set_option maxRecDepth 100000 in
theorem benchReads_f28 : ((Rows.benchReadsRow.kinds == (if Rows.benchReadsRow.domain.isEmpty then [] else Tryz.f4.params.toList.map fun t => match Tryz.prog.underlying t with | some (.int k) => some k | _ => none))) = true := by kernel_rfl
set_option maxRecDepth 100000 in
theorem benchReads_f29 : ((Rows.benchReadsRow.pinned == Rows.benchReadsRow.pinnedBy)) = true := by kernel_rfl
set_option maxRecDepth 100000 in
theorem benchReads_f30 : ((Rows.benchReadsRow.veiled == (Tryz.f4.params.toList ++ Rows.benchReadsSpec.plain.varTypes Tryz.prog ++ Tryz.f4.resultTypes.toList).any (Tryz.prog.veiledRec ·))) = true := by kernel_rfl
set_option maxRecDepth 100000 in
theorem benchReads_f31 : (Rows.benchReadsRow.veiledFits Tryz.prog Tryz.f4.params.toList (Tryz.f4.params.toList ++ Rows.benchReadsSpec.plain.varTypes Tryz.prog ++ Tryz.f4.resultTypes.toList)) = true := by kernel_rfl
set_option maxRecDepth 100000 in
theorem benchReads_facts : joinedFacts Tryz.prog 4 Tryz.f4 Rows.benchReadsSpec Rows.benchReadsRow = true := by
  unfold joinedFacts
  exact bandI (bandI (bandI (bandI (bandI (bandI (bandI (bandI (bandI (bandI (bandI (bandI (bandI (bandI (bandI (bandI (bandI (bandI (bandI (bandI (bandI (bandI (bandI (bandI (bandI (bandI (bandI (bandI (bandI (bandI (bandI (benchReads_f0) benchReads_f1) benchReads_f2) benchReads_f3) benchReads_f4) benchReads_f5) benchReads_f6) benchReads_f7) benchReads_f8) benchReads_f9) benchReads_f10) benchReads_f11) benchReads_f12) benchReads_f13) benchReads_f14) benchReads_f15) benchReads_f16) benchReads_f17) benchReads_f18) benchReads_f19) benchReads_f20) benchReads_f21) benchReads_f22) benchReads_f23) benchReads_f24) benchReads_f25) benchReads_f26) benchReads_f27) benchReads_f28) benchReads_f29) benchReads_f30) benchReads_f31

theorem benchReads_named : Tryz.prog.funcNamed "tinker/tinkerlaw09.BenchReads" = some 4 := by kernel_rfl
set_option maxRecDepth 100000 in
theorem benchReads_row : Rows.BenchReadsSaid :=
  OpenClaim.holds_of_wide 4 Tryz.f4 rfl rfl rfl rfl rfl rfl rfl ⟨rfl, rfl, rfl, rfl, rfl⟩ rfl rfl rfl rfl rfl benchReads_named Tryz.func4 benchReads_facts
    (of_decide_eq_true (by kernel_rfl)) (by unfold Func.isWrapper; first | (rw [if_pos (by decide +kernel)]; kernel_rfl) | (rw [if_neg (by decide +kernel)]; exact ⟨rfl, rfl⟩))
    (fun os started H enc _ => benchReads_lifted os started H enc)

set_option maxRecDepth 100000 in
theorem benchReads_wf : Rows.benchReadsRow.wfByText (OpenSpec.ofChange Rows.benchReadsSpec) = true := by kernel_rfl
theorem benchReads_main : Tryz.pinned.checked.prog.mainIs = some (Rows.benchReadsCard.stood.harness.1, Rows.benchReadsCard.stood.harness.2.toList) := by kernel_rfl
theorem benchReads_goes : false = Rows.benchReadsRow.goesBy Tryz.pinned.checked.prog := by kernel_rfl
theorem benchReads_looks : true = Tryz.pinned.checked.prog.looks [] := by kernel_rfl
set_option maxRecDepth 100000 in
theorem benchReads_holds : Rows.BenchReadsCardSaid :=
  Claim7.holds_tied_plain_at .later [] [.data, .data, .data, .data, .handle, .sentinel, .sentinel, .pinned] true Rows.benchReadsCard.stood.harness true benchReads_row (fun _ h => by cases h) benchReads_wf (fun _ h => by cases h) benchReads_row_tie rfl ⟨rfl, rfl⟩ benchReads_main rfl
    (fun f fn hf hfn => by
      obtain rfl : f = 4 := Option.some.inj (benchReads_named.symm.trans hf) |>.symm
      obtain rfl : fn = Tryz.f4 := (Option.some.inj (Tryz.func4.symm.trans hfn)).symm
      exact ⟨benchReads_looks, fun j t ht => by
        rw [Tryz.params4] at ht
        have hm : t ∈ [9, 3] := by simpa using Array.mem_of_getElem? ht
        have hall : ([9, 3].all fun u => !Tryz.prog.wantsStandIn u) = true := by kernel_rfl
        exact (show Tryz.prog.wantsStandIn t = false by simpa using List.all_eq_true.1 hall t hm)⟩)
    benchReads_goes

end Go.Proofs.YtihdpbfhkddpcaaGreatDoor
