/-
The statement BenchAudits: the audit always holds, for all programs and orders. No condition but the laid variables, which the card ties.
-/
import Derived.Test.YtihdpbfhkddpcaaGreatDoorG46
import Derived.Test.YtihdpbfhkddpcaaGreatDoorG49
import Derived.Test.YtihdpbfhkddpcaaGreatDoorG50
import Derived.Test.YtihdpbfhkddpcaaGreatDoorG51
import Derived.Test.YtihdpbfhkddpcaaGreatDoorCards
import Derived.Lib.SmallJoins
namespace Go.Proofs.YtihdpbfhkddpcaaGreatDoor
open Go.ChangeShapes Go.WideShapes Go.ChangeAt Go.RowKit

set_option maxRecDepth 100000 in
set_option maxHeartbeats 4000000 in
theorem benchAudits_lifted (os : Os) (started : os.Started) (H : Type) (enc : TypeId × Value → H) :
    ReturnsInHanded {} Tryz.checked os 7 .any (fun w args => (Rows.benchAuditsSpec.pre enc Tryz.prog Tryz.f7 [] false w args ∧ laidMetH Tryz.prog Rows.benchAuditsRow.laid w) ∧ sizedMet enc Tryz.prog Tryz.f7 (OpenSpec.ofChange Rows.benchAuditsSpec) false w args)
      (Rows.benchAuditsSpec.post enc Tryz.prog Tryz.f7 false true false false) := by
  have hlk : Rows.benchAuditsRow.laid = lk := rfl
  rw [hlk]
  refine handed_laid (C := Tryz.checked) (X := fun w _ => laidMetH Tryz.prog lk w) (fun _ _ _ hh h => h.of_heap hh) Tryz.own9 started (by kernel_rfl) Tryz.func7
    (ChangeSpec.witness_shaped (enc := enc) (C := Tryz.checked) (os := os) (X := fun w _ => laidMetH Tryz.prog lk w) false (w9 os) #[.slice none 0 0, .slice none 0 0] 8 (w9_os os) (World.shaped_of_ZipB (by kernel_rfl) (by kernel_rfl)) (by kernel_rfl) (by kernel_rfl) (by kernel_rfl) (w9_met os _)) ?_
  intro W base args ds gs before hval0 hW hcnd _ hsh hL
  have hval : ∀ (j : Nat) t v, Tryz.f7.params[j]? = some t → args[j]? = some v → Value.okWide Tryz.prog W .any base t v := hval0
  have hW' := hW
  obtain ⟨p, q, hA0, hV, rfl, hfz, hnd⟩ := hW
  have hA : DataW.TrodAll enc Tryz.prog W 0 (fun _ => true) true Tryz.f7.params.toList args.toList ds p := hA0
  rw [Tryz.params7] at hA hval
  obtain ⟨v0, v1, d0, d1, p0, p1, rfl, rfl, rfl, h0, h1⟩ := trodAll_two hA
  obtain ⟨rfl, rfl⟩ := trodVars_none hV
  have hk0 := h0
  have hk1 := h1
  obtain ⟨x0, hx0⟩ := arg_lines (hval 0 22 v0 rfl rfl) h0
  obtain ⟨x1, hx1⟩ := arg_texts (hval 1 23 v1 rfl rfl) h1
  have hG := glob_of hL hsh
  clear hA0 hval0
  refine Calls.mono (benchAudits_any x0 x1 W v0 v1 hG hx0 hx1 (fun e W' => e = .returned (.bool true) ∧ Grow W W') (fun W' hg => ⟨rfl, hg⟩)) fun e W' ⟨he, hB⟩ => ?_
  subst he
  have hlt0 : ∀ x ∈ p0, x.block < W.heap.size := fun x hx => hW'.lt x (List.mem_append_left _ (List.mem_append_left _ (hx)))
  have ht0 := Below.trod Tryz.laidOut9 (by kernel_rfl) (of_decide_eq_true (by kernel_rfl)) hk0 hB hlt0
  have hlt1 : ∀ x ∈ p1, x.block < W.heap.size := fun x hx => hW'.lt x (List.mem_append_left _ (List.mem_append_right _ hx))
  have ht1 := Below.trod Tryz.laidOut9 (by kernel_rfl) (of_decide_eq_true (by kernel_rfl)) hk1 hB hlt1
  exact ⟨_, rfl, _, _, _, [], _, [], hW', trodAll_mk1 (shut_bool Tryz.underlying4 true), trodAll_mk2 ht0 ht1, rfl, hB.frame _, fun h => by cases h⟩

/-! ### The row's closed facts, one by one (the kernel has no room for all of them in one declaration) -/
theorem bandI {a b : Bool} (ha : a = true) (hb : b = true) : (a && b) = true := by rw [ha, hb]; rfl
set_option maxRecDepth 100000 in
theorem benchAudits_f0 : (Rows.benchAuditsRow.wf (OpenSpec.ofChange Rows.benchAuditsSpec)) = true := by kernel_rfl
set_option maxRecDepth 100000 in
theorem benchAudits_f1 : (laidOutB Tryz.prog) = true := by kernel_rfl
set_option maxRecDepth 100000 in
theorem benchAudits_f2 : (mapsRowed Tryz.prog) = true := by kernel_rfl
set_option maxRecDepth 100000 in
theorem benchAudits_f3 : (Tryz.f7.params.all (Tryz.prog.readableRec ·)) = true := by kernel_rfl
set_option maxRecDepth 100000 in
theorem benchAudits_f4 : (namedTie Tryz.prog Rows.benchAuditsRow.named Rows.benchAuditsSpec.vars) = true := by kernel_rfl
set_option maxRecDepth 100000 in
theorem benchAudits_f5 : ((Rows.benchAuditsRow.stops == [])) = true := by kernel_rfl
set_option maxRecDepth 100000 in
theorem benchAudits_f6 : ((Tryz.prog.stops == [])) = true := by kernel_rfl
set_option maxRecDepth 100000 in
theorem benchAudits_f7 : ((Rows.benchAuditsRow.knobs == [])) = true := by kernel_rfl
set_option maxRecDepth 100000 in
theorem benchAudits_f8 : ((Tryz.prog.stopKnobs == [])) = true := by kernel_rfl
set_option maxRecDepth 100000 in
theorem benchAudits_f9 : ((Rows.benchAuditsRow.inPlace == Tryz.prog.inPlace 7)) = true := by kernel_rfl
set_option maxRecDepth 100000 in
theorem benchAudits_f10 : ((Rows.benchAuditsRow.unfollowed == Tryz.prog.unfollowed 7)) = true := by kernel_rfl
set_option maxRecDepth 100000 in
theorem benchAudits_f11 : ((Rows.benchAuditsRow.recurses == Tryz.prog.recurses 7)) = true := by kernel_rfl
set_option maxRecDepth 100000 in
theorem benchAudits_f12 : ((Rows.benchAuditsRow.named == Tryz.prog.varsNamed 7)) = true := by kernel_rfl
set_option maxRecDepth 100000 in
theorem benchAudits_f13 : ((Rows.benchAuditsRow.maps == (Tryz.f7.params.toList ++ Rows.benchAuditsSpec.plain.varTypes Tryz.prog).any (Tryz.prog.mapsRec ·))) = true := by kernel_rfl
set_option maxRecDepth 100000 in
theorem benchAudits_f14 : ((Rows.benchAuditsRow.ifaces == (Tryz.f7.params.toList ++ Rows.benchAuditsSpec.plain.varTypes Tryz.prog).any (Tryz.prog.ifacesRec ·))) = true := by kernel_rfl
set_option maxRecDepth 100000 in
theorem benchAudits_f15 : ((Rows.benchAuditsRow.mapsOut == Tryz.prog.mapsAmong Tryz.f7.resultTypes.toList)) = true := by kernel_rfl
set_option maxRecDepth 100000 in
theorem benchAudits_f16 : ((Rows.benchAuditsRow.loops == (Tryz.f7.params.toList ++ Rows.benchAuditsSpec.plain.varTypes Tryz.prog).any (Tryz.prog.loopsFrom ·))) = true := by kernel_rfl
set_option maxRecDepth 100000 in
theorem benchAudits_f17 : ((Rows.benchAuditsRow.wideKeys == (Tryz.f7.params.toList ++ Rows.benchAuditsSpec.plain.varTypes Tryz.prog ++ Tryz.f7.resultTypes.toList).any (Tryz.prog.wideKeysFrom ·))) = true := by kernel_rfl
set_option maxRecDepth 100000 in
theorem benchAudits_f18 : (Rows.benchAuditsSpec.vars.all (Tryz.prog.varReadable ·)) = true := by kernel_rfl
set_option maxRecDepth 100000 in
theorem benchAudits_f19 : (Tryz.f7.resultTypes.all (fun t => Tryz.prog.readableRec t && decide (t < Tryz.prog.types.size))) = true := by kernel_rfl
set_option maxRecDepth 100000 in
theorem benchAudits_f20 : ((Rows.benchAuditsRow.ifacesOut == Tryz.f7.resultTypes.toList.any (Tryz.prog.ifacesRec ·))) = true := by kernel_rfl
set_option maxRecDepth 100000 in
theorem benchAudits_f21 : ((Rows.benchAuditsRow.loopsOut == Tryz.f7.resultTypes.toList.any (Tryz.prog.loopsFrom ·))) = true := by kernel_rfl
set_option maxRecDepth 100000 in
theorem benchAudits_f22 : ((Rows.benchAuditsRow.plainKeys == Tryz.prog.plainKeys)) = true := by kernel_rfl
set_option maxRecDepth 100000 in
theorem benchAudits_f23 : (Rows.benchAuditsRow.shortTexts.isNone) = true := by kernel_rfl
set_option maxRecDepth 100000 in
theorem benchAudits_f24 : (Tryz.prog.stopsHeard) = true := by kernel_rfl
set_option maxRecDepth 100000 in
theorem benchAudits_f25 : (Tryz.prog.mayEnter) = true := by kernel_rfl
set_option maxRecDepth 100000 in
theorem benchAudits_f26 : ((Rows.benchAuditsRow.lifted == Tryz.prog.liftsFinal)) = true := by kernel_rfl
set_option maxRecDepth 100000 in
theorem benchAudits_f27 : ((Tryz.prog.make == some Rows.benchAuditsRow.make)) = true := by kernel_rfl
set_option maxRecDepth 100000 in
theorem benchAudits_f28 : ((Rows.benchAuditsRow.kinds == (if Rows.benchAuditsRow.domain.isEmpty then [] else Tryz.f7.params.toList.map fun t => match Tryz.prog.underlying t with | some (.int k) => some k | _ => none))) = true := by kernel_rfl
set_option maxRecDepth 100000 in
theorem benchAudits_f29 : ((Rows.benchAuditsRow.pinned == Rows.benchAuditsRow.pinnedBy)) = true := by kernel_rfl
set_option maxRecDepth 100000 in
theorem benchAudits_f30 : ((Rows.benchAuditsRow.veiled == (Tryz.f7.params.toList ++ Rows.benchAuditsSpec.plain.varTypes Tryz.prog ++ Tryz.f7.resultTypes.toList).any (Tryz.prog.veiledRec ·))) = true := by kernel_rfl
set_option maxRecDepth 100000 in
theorem benchAudits_f31 : (Rows.benchAuditsRow.veiledFits Tryz.prog Tryz.f7.params.toList (Tryz.f7.params.toList ++ Rows.benchAuditsSpec.plain.varTypes Tryz.prog ++ Tryz.f7.resultTypes.toList)) = true := by kernel_rfl
set_option maxRecDepth 100000 in
theorem benchAudits_facts : joinedFacts Tryz.prog 7 Tryz.f7 Rows.benchAuditsSpec Rows.benchAuditsRow = true := by
  unfold joinedFacts
  exact bandI (bandI (bandI (bandI (bandI (bandI (bandI (bandI (bandI (bandI (bandI (bandI (bandI (bandI (bandI (bandI (bandI (bandI (bandI (bandI (bandI (bandI (bandI (bandI (bandI (bandI (bandI (bandI (bandI (bandI (bandI (benchAudits_f0) benchAudits_f1) benchAudits_f2) benchAudits_f3) benchAudits_f4) benchAudits_f5) benchAudits_f6) benchAudits_f7) benchAudits_f8) benchAudits_f9) benchAudits_f10) benchAudits_f11) benchAudits_f12) benchAudits_f13) benchAudits_f14) benchAudits_f15) benchAudits_f16) benchAudits_f17) benchAudits_f18) benchAudits_f19) benchAudits_f20) benchAudits_f21) benchAudits_f22) benchAudits_f23) benchAudits_f24) benchAudits_f25) benchAudits_f26) benchAudits_f27) benchAudits_f28) benchAudits_f29) benchAudits_f30) benchAudits_f31

theorem benchAudits_named : Tryz.prog.funcNamed "tinker/tinkerlaw09.BenchAudits" = some 7 := by kernel_rfl
set_option maxRecDepth 100000 in
theorem benchAudits_row : Rows.BenchAuditsSaid :=
  OpenClaim.holds_of_wide 7 Tryz.f7 rfl rfl rfl rfl rfl rfl rfl ⟨rfl, rfl, rfl, rfl, rfl⟩ rfl rfl rfl rfl rfl benchAudits_named Tryz.func7 benchAudits_facts
    (of_decide_eq_true (by kernel_rfl)) (by unfold Func.isWrapper; first | (rw [if_pos (by decide +kernel)]; kernel_rfl) | (rw [if_neg (by decide +kernel)]; exact ⟨rfl, rfl⟩))
    (fun os started H enc _ => benchAudits_lifted os started H enc)

set_option maxRecDepth 100000 in
theorem benchAudits_wf : Rows.benchAuditsRow.wfByText (OpenSpec.ofChange Rows.benchAuditsSpec) = true := by kernel_rfl
theorem benchAudits_main : Tryz.pinned.checked.prog.mainIs = some (Rows.benchAuditsCard.stood.harness.1, Rows.benchAuditsCard.stood.harness.2.toList) := by kernel_rfl
theorem benchAudits_goes : false = Rows.benchAuditsRow.goesBy Tryz.pinned.checked.prog := by kernel_rfl
theorem benchAudits_looks : true = Tryz.pinned.checked.prog.looks [] := by kernel_rfl
set_option maxRecDepth 100000 in
theorem benchAudits_holds : Rows.BenchAuditsCardSaid :=
  Claim7.holds_tied_plain_at .later [] [.data, .data, .data, .data, .handle, .sentinel, .sentinel, .pinned] true Rows.benchAuditsCard.stood.harness true benchAudits_row (fun _ h => by cases h) benchAudits_wf (fun _ h => by cases h) benchAudits_row_tie rfl ⟨rfl, rfl⟩ benchAudits_main rfl
    (fun f fn hf hfn => by
      obtain rfl : f = 7 := Option.some.inj (benchAudits_named.symm.trans hf) |>.symm
      obtain rfl : fn = Tryz.f7 := (Option.some.inj (Tryz.func7.symm.trans hfn)).symm
      exact ⟨benchAudits_looks, fun j t ht => by
        rw [Tryz.params7] at ht
        have hm : t ∈ [22, 23] := by simpa using Array.mem_of_getElem? ht
        have hall : ([22, 23].all fun u => !Tryz.prog.wantsStandIn u) = true := by kernel_rfl
        exact (show Tryz.prog.wantsStandIn t = false by simpa using List.all_eq_true.1 hall t hm)⟩)
    benchAudits_goes

end Go.Proofs.YtihdpbfhkddpcaaGreatDoor
