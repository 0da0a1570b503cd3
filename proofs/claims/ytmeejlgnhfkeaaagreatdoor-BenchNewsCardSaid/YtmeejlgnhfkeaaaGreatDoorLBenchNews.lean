/-
The statement BenchNews: a new bench, and one that is none, for all programs and texts. No condition but the laid variables, which the card ties.
-/
import Derived.Test.YtmeejlgnhfkeaaaGreatDoorL44
import Derived.Test.YtmeejlgnhfkeaaaGreatDoorL48
import Derived.Test.YtmeejlgnhfkeaaaGreatDoorL49
import Derived.Test.YtmeejlgnhfkeaaaGreatDoorL50
import Derived.Test.YtmeejlgnhfkeaaaGreatDoorCards
import Derived.Lib.SmallJoins
namespace Go.Proofs.YtmeejlgnhfkeaaaGreatDoor
open Go.ChangeShapes Go.WideShapes Go.ChangeAt Go.RowKit
set_option maxRecDepth 100000 in
set_option maxHeartbeats 4000000 in
theorem benchNews_lifted (os : Os) (started : os.Started) (H : Type) (enc : TypeId × Value → H) :
  ReturnsInHanded {} Tryz.checked os 7 .any (fun w args => (Rows.benchNewsSpec.pre enc Tryz.prog Tryz.f7 [] false w args ∧ laidMetH Tryz.prog Rows.benchNewsRow.laid w) ∧ sizedMet enc Tryz.prog Tryz.f7 (OpenSpec.ofChange Rows.benchNewsSpec) false w args)
   (Rows.benchNewsSpec.post enc Tryz.prog Tryz.f7 false true false false) := by
 have hlk : Rows.benchNewsRow.laid = lk := rfl
 rw [hlk]
 refine handed_laid (C := Tryz.checked) (X := fun w _ => laidMetH Tryz.prog lk w) (fun _ _ _ hh h => h.of_heap hh) Tryz.own9 started (by kernel_rfl) Tryz.func7
  (ChangeSpec.witness_shaped (enc := enc) (C := Tryz.checked) (os := os) (X := fun w _ => laidMetH Tryz.prog lk w) false (w9 os) #[.slice none 0 0, .string ByteArray.empty] 8 (w9_os os) (World.shaped_of_ZipB (by kernel_rfl) (by kernel_rfl)) (by kernel_rfl) (by kernel_rfl) (by kernel_rfl) (w9_met os _)) ?_
 intro W base args ds gs before hval0 hW hcnd _ hsh hL
 have hval : ∀ (j : Nat) t v, Tryz.f7.params[j]? = some t → args[j]? = some v → Value.okWide Tryz.prog W .any base t v := hval0
 have hW' := hW
 obtain ⟨p, q, hA0, hV, rfl, hfz, hnd⟩ := hW
 have hA : DataW.TrodAll enc Tryz.prog W 0 (fun _ => true) true Tryz.f7.params.toList args.toList ds p := hA0
 rw [Tryz.params7] at hA hval
 obtain ⟨v0, v1, d0, d1, p0, p1, rfl, rfl, rfl, h0, h1⟩ := trodAll_two hA
 obtain ⟨rfl, rfl⟩ := trodVars_none hV
 have hk0 := h0
 have hk1 := h1
 obtain ⟨x0, hx0⟩ := arg_lines (hval 0 22 v0 rfl rfl) h0
 obtain ⟨x1, rfl, hx1⟩ := arg_text (hval 1 9 v1 rfl rfl) h1
 have hG := glob_of hL hsh
 clear hA0 hval0
 refine Calls.mono (benchNews_any x0 x1 W v0 hG hx0 (fun e W' => e = .returned (.bool true) ∧ Grow W W') (fun W' hg => ⟨rfl, hg⟩)) fun e W' ⟨he, hB⟩ => ?_
 subst he
 have hlt0 : ∀ x ∈ p0, x.block < W.heap.size := fun x hx => hW'.lt x (List.mem_append_left _ (List.mem_append_left _ (hx)))
 have ht0 := Below.trod Tryz.laidOut9 (by kernel_rfl) (of_decide_eq_true (by kernel_rfl)) hk0 hB hlt0
 have hlt1 : ∀ x ∈ p1, x.block < W.heap.size := fun x hx => hW'.lt x (List.mem_append_left _ (List.mem_append_right _ hx))
 have ht1 := Below.trod Tryz.laidOut9 (by kernel_rfl) (of_decide_eq_true (by kernel_rfl)) hk1 hB hlt1
 exact ⟨_, rfl, _, _, _, [], _, [], hW', trodAll_mk1 (shut_bool Tryz.underlying4 true), trodAll_mk2 ht0 ht1, rfl, hB.frame _, fun h => by cases h⟩
/-! ### The row's closed facts, one by one (the kernel has no room for all of them in one declaration) -/
theorem bandI {a b : Bool} (ha : a = true) (hb : b = true) : (a && b) = true := by rw [ha, hb]; rfl
set_option maxRecDepth 100000 in
theorem benchNews_f0 : (Rows.benchNewsRow.wf (OpenSpec.ofChange Rows.benchNewsSpec)) = true := by kernel_rfl
set_option maxRecDepth 100000 in
theorem benchNews_f1 : (laidOutB Tryz.prog) = true := by kernel_rfl
set_option maxRecDepth 100000 in
theorem benchNews_f2 : (mapsRowed Tryz.prog) = true := by kernel_rfl
set_option maxRecDepth 100000 in
theorem benchNews_f3 : (Tryz.f7.params.all (Tryz.prog.readableRec ·)) = true := by kernel_rfl
set_option maxRecDepth 100000 in
theorem benchNews_f4 : (namedTie Tryz.prog Rows.benchNewsRow.named Rows.benchNewsSpec.vars) = true := by kernel_rfl
set_option maxRecDepth 100000 in
theorem benchNews_f5 : ((Rows.benchNewsRow.stops == [])) = true := by kernel_rfl
set_option maxRecDepth 100000 in
theorem benchNews_f6 : ((Tryz.prog.stops == [])) = true := by kernel_rfl
set_option maxRecDepth 100000 in
theorem benchNews_f7 : ((Rows.benchNewsRow.knobs == [])) = true := by kernel_rfl
set_option maxRecDepth 100000 in
theorem benchNews_f8 : ((Tryz.prog.stopKnobs == [])) = true := by kernel_rfl
set_option maxRecDepth 100000 in
theorem benchNews_f9 : ((Rows.benchNewsRow.inPlace == Tryz.prog.inPlace 7)) = true := by kernel_rfl
set_option maxRecDepth 100000 in
theorem benchNews_f10 : ((Rows.benchNewsRow.unfollowed == Tryz.prog.unfollowed 7)) = true := by kernel_rfl
set_option maxRecDepth 100000 in
theorem benchNews_f11 : ((Rows.benchNewsRow.recurses == Tryz.prog.recurses 7)) = true := by kernel_rfl
set_option maxRecDepth 100000 in
theorem benchNews_f12 : ((Rows.benchNewsRow.named == Tryz.prog.varsNamed 7)) = true := by kernel_rfl
set_option maxRecDepth 100000 in
theorem benchNews_f13 : ((Rows.benchNewsRow.maps == (Tryz.f7.params.toList ++ Rows.benchNewsSpec.plain.varTypes Tryz.prog).any (Tryz.prog.mapsRec ·))) = true := by kernel_rfl
set_option maxRecDepth 100000 in
theorem benchNews_f14 : ((Rows.benchNewsRow.ifaces == (Tryz.f7.params.toList ++ Rows.benchNewsSpec.plain.varTypes Tryz.prog).any (Tryz.prog.ifacesRec ·))) = true := by kernel_rfl
set_option maxRecDepth 100000 in
theorem benchNews_f15 : ((Rows.benchNewsRow.mapsOut == Tryz.prog.mapsAmong Tryz.f7.resultTypes.toList)) = true := by kernel_rfl
set_option maxRecDepth 100000 in
theorem benchNews_f16 : ((Rows.benchNewsRow.loops == (Tryz.f7.params.toList ++ Rows.benchNewsSpec.plain.varTypes Tryz.prog).any (Tryz.prog.loopsFrom ·))) = true := by kernel_rfl
set_option maxRecDepth 100000 in
theorem benchNews_f17 : ((Rows.benchNewsRow.wideKeys == (Tryz.f7.params.toList ++ Rows.benchNewsSpec.plain.varTypes Tryz.prog ++ Tryz.f7.resultTypes.toList).any (Tryz.prog.wideKeysFrom ·))) = true := by kernel_rfl
set_option maxRecDepth 100000 in
theorem benchNews_f18 : (Rows.benchNewsSpec.vars.all (Tryz.prog.varReadable ·)) = true := by kernel_rfl
set_option maxRecDepth 100000 in
theorem benchNews_f19 : (Tryz.f7.resultTypes.all (fun t => Tryz.prog.readableRec t && decide (t < Tryz.prog.types.size))) = true := by kernel_rfl
set_option maxRecDepth 100000 in
theorem benchNews_f20 : ((Rows.benchNewsRow.ifacesOut == Tryz.f7.resultTypes.toList.any (Tryz.prog.ifacesRec ·))) = true := by kernel_rfl
set_option maxRecDepth 100000 in
theorem benchNews_f21 : ((Rows.benchNewsRow.loopsOut == Tryz.f7.resultTypes.toList.any (Tryz.prog.loopsFrom ·))) = true := by kernel_rfl
set_option maxRecDepth 100000 in
theorem benchNews_f22 : ((Rows.benchNewsRow.plainKeys == Tryz.prog.plainKeys)) = true := by kernel_rfl
set_option maxRecDepth 100000 in
theorem benchNews_f23 : (Rows.benchNewsRow.shortTexts.isNone) = true := by kernel_rfl
set_option maxRecDepth 100000 in
theorem benchNews_f24 : (Tryz.prog.stopsHeard) = true := by kernel_rfl
set_option maxRecDepth 100000 in
theorem benchNews_f25 : (Tryz.prog.mayEnter) = true := by kernel_rfl
set_option maxRecDepth 100000 in
theorem benchNews_f26 : ((Rows.benchNewsRow.lifted == Tryz.prog.liftsFinal)) = true := by kernel_rfl
set_option maxRecDepth 100000 in
theorem benchNews_f27 : ((Tryz.prog.make == some Rows.benchNewsRow.make)) = true := by kernel_rfl
set_option maxRecDepth 100000 in
theorem benchNews_f28 : ((Rows.benchNewsRow.kinds == (if Rows.benchNewsRow.domain.isEmpty then [] else Tryz.f7.params.toList.map fun t => match Tryz.prog.underlying t with | some (.int k) => some k | _ => none))) = true := by kernel_rfl
set_option maxRecDepth 100000 in
theorem benchNews_f29 : ((Rows.benchNewsRow.pinned == Rows.benchNewsRow.pinnedBy)) = true := by kernel_rfl
set_option maxRecDepth 100000 in
theorem benchNews_f30 : ((Rows.benchNewsRow.veiled == (Tryz.f7.params.toList ++ Rows.benchNewsSpec.plain.varTypes Tryz.prog ++ Tryz.f7.resultTypes.toList).any (Tryz.prog.veiledRec ·))) = true := by kernel_rfl
set_option maxRecDepth 100000 in
theorem benchNews_f31 : (Rows.benchNewsRow.veiledFits Tryz.prog Tryz.f7.params.toList (Tryz.f7.params.toList ++ Rows.benchNewsSpec.plain.varTypes Tryz.prog ++ Tryz.f7.resultTypes.toList)) = true := by kernel_rfl
set_option maxRecDepth 100000 in
theorem benchNews_facts : joinedFacts Tryz.prog 7 Tryz.f7 Rows.benchNewsSpec Rows.benchNewsRow = true := by
 unfold joinedFacts
 exact bandI (bandI (bandI (bandI (bandI (bandI (bandI (bandI (bandI (bandI (bandI (bandI (bandI (bandI (bandI (bandI (bandI (bandI (bandI (bandI (bandI (bandI (bandI (bandI (bandI (bandI (bandI (bandI (bandI (bandI (bandI (benchNews_f0) benchNews_f1) benchNews_f2) benchNews_f3) benchNews_f4) benchNews_f5) benchNews_f6) benchNews_f7) benchNews_f8) benchNews_f9) benchNews_f10) benchNews_f11) benchNews_f12) benchNews_f13) benchNews_f14) benchNews_f15) benchNews_f16) benchNews_f17) benchNews_f18) benchNews_f19) benchNews_f20) benchNews_f21) benchNews_f22) benchNews_f23) benchNews_f24) benchNews_f25) benchNews_f26) benchNews_f27) benchNews_f28) benchNews_f29) benchNews_f30) benchNews_f31
theorem benchNews_named : Tryz.prog.funcNamed "tinker/tinkerlaw09.BenchNews" = some 7 := by kernel_rfl
set_option maxRecDepth 100000 in
theorem benchNews_row : Rows.BenchNewsSaid :=
 OpenClaim.holds_of_wide 7 Tryz.f7 rfl rfl rfl rfl rfl rfl rfl ⟨rfl, rfl, rfl, rfl, rfl⟩ rfl rfl rfl rfl rfl benchNews_named Tryz.func7 benchNews_facts
  (of_decide_eq_true (by kernel_rfl)) (by unfold Func.isWrapper; first | (rw [if_pos (by decide +kernel)]; kernel_rfl) | (rw [if_neg (by decide +kernel)]; exact ⟨rfl, rfl⟩))
  (fun os started H enc _ => benchNews_lifted os started H enc)
set_option maxRecDepth 100000 in
theorem benchNews_wf : Rows.benchNewsRow.wfByText (OpenSpec.ofChange Rows.benchNewsSpec) = true := by kernel_rfl
theorem benchNews_main : Tryz.pinned.checked.prog.mainIs = some (Rows.benchNewsCard.stood.harness.1, Rows.benchNewsCard.stood.harness.2.toList) := by kernel_rfl
theorem benchNews_goes : false = Rows.benchNewsRow.goesBy Tryz.pinned.checked.prog := by kernel_rfl
theorem benchNews_looks : true = Tryz.pinned.checked.prog.looks [] := by kernel_rfl
set_option maxRecDepth 100000 in
theorem benchNews_holds : Rows.BenchNewsCardSaid :=
 Claim7.holds_tied_plain_at .later [] [.data, .data, .data, .data, .handle, .sentinel, .sentinel, .pinned] true Rows.benchNewsCard.stood.harness true benchNews_row (fun _ h => by cases h) benchNews_wf (fun _ h => by cases h) benchNews_row_tie rfl ⟨rfl, rfl⟩ benchNews_main rfl
  (fun f fn hf hfn => by
   obtain rfl : f = 7 := Option.some.inj (benchNews_named.symm.trans hf) |>.symm
   obtain rfl : fn = Tryz.f7 := (Option.some.inj (Tryz.func7.symm.trans hfn)).symm
   exact ⟨benchNews_looks, fun j t ht => by
    rw [Tryz.params7] at ht
    have hm : t ∈ [22, 9] := by simpa using Array.mem_of_getElem? ht
    have hall : ([22, 9].all fun u => !Tryz.prog.wantsStandIn u) = true := by kernel_rfl
    exact (show Tryz.prog.wantsStandIn t = false by simpa using List.all_eq_true.1 hall t hm)⟩)
  benchNews_goes
end Go.Proofs.YtmeejlgnhfkeaaaGreatDoor
