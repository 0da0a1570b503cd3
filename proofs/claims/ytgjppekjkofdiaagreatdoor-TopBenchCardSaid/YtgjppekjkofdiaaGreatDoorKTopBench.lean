/-
The statement TopBench: the history always makes the program, locked tests never fail, and a bench is made again from its book, also after any crash from what is left of it, for all programs, orders and numbers. No condition but the laid variables, which the card ties.
-/
import Derived.Test.YtgjppekjkofdiaaGreatDoorK43
import Derived.Test.YtgjppekjkofdiaaGreatDoorK46
import Derived.Test.YtgjppekjkofdiaaGreatDoorK47
import Derived.Test.YtgjppekjkofdiaaGreatDoorK48
import Derived.Test.YtgjppekjkofdiaaGreatDoorCards
import Derived.Lib.SmallJoins
namespace Go.Proofs.YtgjppekjkofdiaaGreatDoor
open Go.ChangeShapes Go.WideShapes Go.ChangeAt Go.RowKit

set_option maxRecDepth 100000 in
set_option maxHeartbeats 4000000 in
theorem topBench_lifted (os : Os) (started : os.Started) (H : Type) (enc : TypeId × Value → H) :
    ReturnsInHanded {} Tryz.checked os 8 .any (fun w args => (Rows.topBenchSpec.pre enc Tryz.prog Tryz.f8 [] false w args ∧ laidMetH Tryz.prog Rows.topBenchRow.laid w) ∧ sizedMet enc Tryz.prog Tryz.f8 (OpenSpec.ofChange Rows.topBenchSpec) false w args)
      (Rows.topBenchSpec.post enc Tryz.prog Tryz.f8 false true false false) := by
  have hlk : Rows.topBenchRow.laid = lk := rfl
  rw [hlk]
  refine handed_laid (C := Tryz.checked) (X := fun w _ => laidMetH Tryz.prog lk w) (fun _ _ _ hh h => h.of_heap hh) Tryz.own9 started (by kernel_rfl) Tryz.func8
    (ChangeSpec.witness_shaped (enc := enc) (C := Tryz.checked) (os := os) (X := fun w _ => laidMetH Tryz.prog lk w) false (w9 os) #[.slice none 0 0, .slice none 0 0, .int .i64 0] 8 (w9_os os) (World.shaped_of_ZipB (by kernel_rfl) (by kernel_rfl)) (by kernel_rfl) (by kernel_rfl) (by kernel_rfl) (w9_met os _)) ?_
  intro W base args ds gs before hval0 hW hcnd _ hsh hL
  have hval : ∀ (j : Nat) t v, Tryz.f8.params[j]? = some t → args[j]? = some v → Value.okWide Tryz.prog W .any base t v := hval0
  have hW' := hW
  obtain ⟨p, q, hA0, hV, rfl, hfz, hnd⟩ := hW
  have hA : DataW.TrodAll enc Tryz.prog W 0 (fun _ => true) true Tryz.f8.params.toList args.toList ds p := hA0
  rw [Tryz.params8] at hA hval
  obtain ⟨v0, v1, v2, d0, d1, d2, p0, p1, p2, rfl, rfl, rfl, h0, h1, h2⟩ := trodAll_three hA
  obtain ⟨rfl, rfl⟩ := trodVars_none hV
  have hk0 := h0
  have hk1 := h1
  have hk2 := h2
  obtain ⟨x0, hx0⟩ := arg_lines (hval 0 22 v0 rfl rfl) h0
  obtain ⟨x1, hx1⟩ := arg_texts (hval 1 23 v1 rfl rfl) h1
  obtain ⟨x2, rfl, hx2⟩ := arg_int (hval 2 3 v2 rfl rfl) h2
  have hG := glob_of hL hsh
  clear hA0 hval0
  refine Calls.mono (topBench_any x0 x1 x2 W v0 v1 hG hx0 hx1 (fun e W' => e = .returned (.bool true) ∧ Grow W W') (fun W' hg => ⟨rfl, hg⟩)) fun e W' ⟨he, hB⟩ => ?_
  subst he
  have hlt0 : ∀ x ∈ p0, x.block < W.heap.size := fun x hx => hW'.lt x (List.mem_append_left _ (List.mem_append_left _ (List.mem_append_left _ (hx))))
  have ht0 := Below.trod Tryz.laidOut9 (by kernel_rfl) (of_decide_eq_true (by kernel_rfl)) hk0 hB hlt0
  have hlt1 : ∀ x ∈ p1, x.block < W.heap.size := fun x hx => hW'.lt x (List.mem_append_left _ (List.mem_append_left _ (List.mem_append_right _ hx)))
  have ht1 := Below.trod Tryz.laidOut9 (by kernel_rfl) (of_decide_eq_true (by kernel_rfl)) hk1 hB hlt1
  have hlt2 : ∀ x ∈ p2, x.block < W.heap.size := fun x hx => hW'.lt x (List.mem_append_left _ (List.mem_append_right _ hx))
  have ht2 := Below.trod Tryz.laidOut9 (by kernel_rfl) (of_decide_eq_true (by kernel_rfl)) hk2 hB hlt2
  exact ⟨_, rfl, _, _, _, [], _, [], hW', trodAll_mk1 (shut_bool Tryz.underlying4 true), trodAll_mk3 ht0 ht1 ht2, rfl, hB.frame _, fun h => by cases h⟩

/-! ### The row's closed facts, one by one (the kernel has no room for all of them in one declaration) -/
theorem bandI {a b : Bool} (ha : a = true) (hb : b = true) : (a && b) = true := by rw [ha, hb]; rfl
set_option maxRecDepth 100000 in
theorem topBench_f0 : (Rows.topBenchRow.wf (OpenSpec.ofChange Rows.topBenchSpec)) = true := by kernel_rfl
set_option maxRecDepth 100000 in
theorem topBench_f1 : (laidOutB Tryz.prog) = true := by kernel_rfl
set_option maxRecDepth 100000 in
theorem topBench_f2 : (mapsRowed Tryz.prog) = true := by kernel_rfl
set_option maxRecDepth 100000 in
theorem topBench_f3 : (Tryz.f8.params.all (Tryz.prog.readableRec ·)) = true := by kernel_rfl
set_option maxRecDepth 100000 in
theorem topBench_f4 : (namedTie Tryz.prog Rows.topBenchRow.named Rows.topBenchSpec.vars) = true := by kernel_rfl
set_option maxRecDepth 100000 in
theorem topBench_f5 : ((Rows.topBenchRow.stops == [])) = true := by kernel_rfl
set_option maxRecDepth 100000 in
theorem topBench_f6 : ((Tryz.prog.stops == [])) = true := by kernel_rfl
set_option maxRecDepth 100000 in
theorem topBench_f7 : ((Rows.topBenchRow.knobs == [])) = true := by kernel_rfl
set_option maxRecDepth 100000 in
theorem topBench_f8 : ((Tryz.prog.stopKnobs == [])) = true := by kernel_rfl
set_option maxRecDepth 100000 in
theorem topBench_f9 : ((Rows.topBenchRow.inPlace == Tryz.prog.inPlace 8)) = true := by kernel_rfl
set_option maxRecDepth 100000 in
theorem topBench_f10 : ((Rows.topBenchRow.unfollowed == Tryz.prog.unfollowed 8)) = true := by kernel_rfl
set_option maxRecDepth 100000 in
theorem topBench_f11 : ((Rows.topBenchRow.recurses == Tryz.prog.recurses 8)) = true := by kernel_rfl
set_option maxRecDepth 100000 in
theorem topBench_f12 : ((Rows.topBenchRow.named == Tryz.prog.varsNamed 8)) = true := by kernel_rfl
set_option maxRecDepth 100000 in
theorem topBench_f13 : ((Rows.topBenchRow.maps == (Tryz.f8.params.toList ++ Rows.topBenchSpec.plain.varTypes Tryz.prog).any (Tryz.prog.mapsRec ·))) = true := by kernel_rfl
set_option maxRecDepth 100000 in
theorem topBench_f14 : ((Rows.topBenchRow.ifaces == (Tryz.f8.params.toList ++ Rows.topBenchSpec.plain.varTypes Tryz.prog).any (Tryz.prog.ifacesRec ·))) = true := by kernel_rfl
set_option maxRecDepth 100000 in
theorem topBench_f15 : ((Rows.topBenchRow.mapsOut == Tryz.prog.mapsAmong Tryz.f8.resultTypes.toList)) = true := by kernel_rfl
set_option maxRecDepth 100000 in
theorem topBench_f16 : ((Rows.topBenchRow.loops == (Tryz.f8.params.toList ++ Rows.topBenchSpec.plain.varTypes Tryz.prog).any (Tryz.prog.loopsFrom ·))) = true := by kernel_rfl
set_option maxRecDepth 100000 in
theorem topBench_f17 : ((Rows.topBenchRow.wideKeys == (Tryz.f8.params.toList ++ Rows.topBenchSpec.plain.varTypes Tryz.prog ++ Tryz.f8.resultTypes.toList).any (Tryz.prog.wideKeysFrom ·))) = true := by kernel_rfl
set_option maxRecDepth 100000 in
theorem topBench_f18 : (Rows.topBenchSpec.vars.all (Tryz.prog.varReadable ·)) = true := by kernel_rfl
set_option maxRecDepth 100000 in
theorem topBench_f19 : (Tryz.f8.resultTypes.all (fun t => Tryz.prog.readableRec t && decide (t < Tryz.prog.types.size))) = true := by kernel_rfl
set_option maxRecDepth 100000 in
theorem topBench_f20 : ((Rows.topBenchRow.ifacesOut == Tryz.f8.resultTypes.toList.any (Tryz.prog.ifacesRec ·))) = true := by kernel_rfl
set_option maxRecDepth 100000 in
theorem topBench_f21 : ((Rows.topBenchRow.loopsOut == Tryz.f8.resultTypes.toList.any (Tryz.prog.loopsFrom ·))) = true := by kernel_rfl
set_option maxRecDepth 100000 in
theorem topBench_f22 : ((Rows.topBenchRow.plainKeys == Tryz.prog.plainKeys)) = true := by kernel_rfl
set_option maxRecDepth 100000 in
theorem topBench_f23 : (Rows.topBenchRow.shortTexts.isNone) = true := by kernel_rfl
set_option maxRecDepth 100000 in
theorem topBench_f24 : (Tryz.prog.stopsHeard) = true := by kernel_rfl
set_option maxRecDepth 100000 in
theorem topBench_f25 : (Tryz.prog.mayEnter) = true := by kernel_rfl
set_option maxRecDepth 100000 in
theorem topBench_f26 : ((Rows.topBenchRow.lifted == Tryz.prog.liftsFinal)) = true := by kernel_rfl
set_option maxRecDepth 100000 in
theorem topBench_f27 : ((Tryz.prog.make == some Rows.topBenchRow.make)) = true := by kernel_rfl
set_option maxRecDepth 100000 in
theorem topBench_f28 : ((Rows.topBenchRow.kinds == (if Rows.topBenchRow.domain.isEmpty then [] else Tryz.f8.params.toList.map fun t => match Tryz.prog.underlying t with | some (.int k) => some k | _ => none))) = true := by kernel_rfl
set_option maxRecDepth 100000 in
theorem topBench_f29 : ((Rows.topBenchRow.pinned == Rows.topBenchRow.pinnedBy)) = true := by kernel_rfl
set_option maxRecDepth 100000 in
theorem topBench_f30 : ((Rows.topBenchRow.veiled == (Tryz.f8.params.toList ++ Rows.topBenchSpec.plain.varTypes Tryz.prog ++ Tryz.f8.resultTypes.toList).any (Tryz.prog.veiledRec ·))) = true := by kernel_rfl
set_option maxRecDepth 100000 in
theorem topBench_f31 : (Rows.topBenchRow.veiledFits Tryz.prog Tryz.f8.params.toList (Tryz.f8.params.toList ++ Rows.topBenchSpec.plain.varTypes Tryz.prog ++ Tryz.f8.resultTypes.toList)) = true := by kernel_rfl
set_option maxRecDepth 100000 in
theorem topBench_facts : joinedFacts Tryz.prog 8 Tryz.f8 Rows.topBenchSpec Rows.topBenchRow = true := by
  unfold joinedFacts
  exact bandI (bandI (bandI (bandI (bandI (bandI (bandI (bandI (bandI (bandI (bandI (bandI (bandI (bandI (bandI (bandI (bandI (bandI (bandI (bandI (bandI (bandI (bandI (bandI (bandI (bandI (bandI (bandI (bandI (bandI (bandI (topBench_f0) topBench_f1) topBench_f2) topBench_f3) topBench_f4) topBench_f5) topBench_f6) topBench_f7) topBench_f8) topBench_f9) topBench_f10) topBench_f11) topBench_f12) topBench_f13) topBench_f14) topBench_f15) topBench_f16) topBench_f17) topBench_f18) topBench_f19) topBench_f20) topBench_f21) topBench_f22) topBench_f23) topBench_f24) topBench_f25) topBench_f26) topBench_f27) topBench_f28) topBench_f29) topBench_f30) topBench_f31

theorem topBench_named : Tryz.prog.funcNamed "tinker/tinkertop.TopBench" = some 8 := by kernel_rfl
set_option maxRecDepth 100000 in
theorem topBench_row : Rows.TopBenchSaid :=
  OpenClaim.holds_of_wide 8 Tryz.f8 rfl rfl rfl rfl rfl rfl rfl ⟨rfl, rfl, rfl, rfl, rfl⟩ rfl rfl rfl rfl rfl topBench_named Tryz.func8 topBench_facts
    (of_decide_eq_true (by kernel_rfl)) (by unfold Func.isWrapper; first | (rw [if_pos (by decide +kernel)]; kernel_rfl) | (rw [if_neg (by decide +kernel)]; exact ⟨rfl, rfl⟩))
    (fun os started H enc _ => topBench_lifted os started H enc)

set_option maxRecDepth 100000 in
theorem topBench_wf : Rows.topBenchRow.wfByText (OpenSpec.ofChange Rows.topBenchSpec) = true := by kernel_rfl
theorem topBench_main : Tryz.pinned.checked.prog.mainIs = some (Rows.topBenchCard.stood.harness.1, Rows.topBenchCard.stood.harness.2.toList) := by kernel_rfl
theorem topBench_goes : false = Rows.topBenchRow.goesBy Tryz.pinned.checked.prog := by kernel_rfl
theorem topBench_looks : true = Tryz.pinned.checked.prog.looks [] := by kernel_rfl
set_option maxRecDepth 100000 in
theorem topBench_holds : Rows.TopBenchCardSaid :=
  Claim7.holds_tied_plain_at .later [] [.data, .data, .data, .data, .handle, .sentinel, .sentinel, .pinned] true Rows.topBenchCard.stood.harness true topBench_row (fun _ h => by cases h) topBench_wf (fun _ h => by cases h) topBench_row_tie rfl ⟨rfl, rfl⟩ topBench_main rfl
    (fun f fn hf hfn => by
      obtain rfl : f = 8 := Option.some.inj (topBench_named.symm.trans hf) |>.symm
      obtain rfl : fn = Tryz.f8 := (Option.some.inj (Tryz.func8.symm.trans hfn)).symm
      exact ⟨topBench_looks, fun j t ht => by
        rw [Tryz.params8] at ht
        have hm : t ∈ [22, 23, 3] := by simpa using Array.mem_of_getElem? ht
        have hall : ([22, 23, 3].all fun u => !Tryz.prog.wantsStandIn u) = true := by kernel_rfl
        exact (show Tryz.prog.wantsStandIn t = false by simpa using List.all_eq_true.1 hall t hm)⟩)
    topBench_goes

end Go.Proofs.YtgjppekjkofdiaaGreatDoor
