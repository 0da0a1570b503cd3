/-
The statement TopReplayUpto: a bench is what its book says, for all programs, orders and numbers. Where what comes in is of bulk at most 1048576 (without that bound an order of 2^44 blanks or more ends the call: splitting it asks for too long a list); no other condition but the laid variables, which the card ties.
-/
import Derived.Test.YtgjppekjkofdiaaGreatDoorH43
import Derived.Test.YtgjppekjkofdiaaGreatDoorH46
import Derived.Test.YtgjppekjkofdiaaGreatDoorH48
import Derived.Test.YtgjppekjkofdiaaGreatDoorCards
import Derived.Lib.SmallJoins
import Derived.Deep.DeepHandedRow
namespace Go.Proofs.YtgjppekjkofdiaaGreatDoor
open Go.ChangeShapes Go.WideShapes Go.ChangeAt Go.RowKit

theorem topReplay_reads (os : Os) {H : Type} (enc : TypeId × Value → H) : ∃ places, DataW.whole enc Tryz.prog ((w9 os).forCall (fun _ _ => 0) ⟨#[], #[.agg #[.slice none 0 0, .slice none 0 0, .int .i64 0]], []⟩).memory Tryz.f7.params.toList Rows.topReplaySpec.vars false #[Value.agg #[.slice none 0 0, .slice none 0 0, .int .i64 0]].toList 8 = some ([.agg [.nil, .nil, .lit (.int .i64 0)]], [], places) :=
  ⟨[], by kernel_rfl⟩
set_option maxRecDepth 100000 in
set_option maxHeartbeats 4000000 in
theorem topReplay_lifted (os : Os) (started : os.Started) (H : Type) (enc : TypeId × Value → H) (F : Stop.Interp) :
    ReturnsInHanded {} Tryz.checked os 7 .any ((Rows.OpenSpec.upto Rows.topReplaySpec).preRow enc Tryz.prog Tryz.f7 Rows.topReplayUptoRow.domain false Rows.topReplayUptoRow.laid) (((Rows.OpenSpec.upto Rows.topReplaySpec).at F).post enc Tryz.prog Tryz.f7 false true false false) := by
  have hlk : Rows.topReplayUptoRow.laid = lk := rfl
  rw [hlk]
  obtain ⟨places, hx⟩ := topReplay_reads os enc
  refine returnsInHanded_of_row (C := Tryz.checked) (s := Rows.OpenSpec.upto Rows.topReplaySpec) Tryz.own9 started (by kernel_rfl) Tryz.func7
    ⟨w9 os, fun _ _ => 0, ⟨#[], #[.agg #[.slice none 0 0, .slice none 0 0, .int .i64 0]], []⟩, w9_os os, World.shaped_of_ZipB (by kernel_rfl) (by kernel_rfl), rfl, (Input.okWide_of_okWideB (show Input.okWideB Tryz.prog ((w9 os).forCall (fun _ _ => 0) ⟨#[], #[.agg #[.slice none 0 0, .slice none 0 0, .int .i64 0]], []⟩) 7 ⟨#[], #[.agg #[.slice none 0 0, .slice none 0 0, .int .i64 0]], []⟩ = true from by kernel_rfl)).2,
      OpenSpec.preRow_of_cond 8 hx (by kernel_rfl) (fun k hk => by cases hk; kernel_rfl) (by kernel_rfl) (w9_met os _), by
        simp only [Assume.holds]
        exact ⟨by simp, by simp, fun _ => Modest.zero, by simp, by simp⟩⟩ ?_
  intro W base args ds gs before hval0 hW _ hcond _ hL hsh _
  have hval : ∀ (j : Nat) t v, Tryz.f7.params[j]? = some t → args[j]? = some v → Value.okWide Tryz.prog W .any base t v := hval0
  have hW' := hW
  obtain ⟨p, q, hA0, hV, rfl, hfz, hnd⟩ := hW
  have hA : DataW.TrodAll enc Tryz.prog W 0 (fun _ => true) true Tryz.f7.params.toList args.toList ds p := hA0
  rw [Tryz.params7] at hA hval
  obtain ⟨v0, d0, rfl, rfl, h0⟩ := trodAll_one hA
  obtain ⟨rfl, rfl⟩ := trodVars_none hV
  have hk0 := h0
  obtain ⟨x0, x1, ps, ls, n, rfl, hp, hl, hn, hs⟩ := arg_firm (hval 0 57 v0 rfl rfl) h0
  have hbulk : Rows.uptoBulkAll ([d0] ++ []) ≤ 1048576 := of_decide_eq_true (hcond _ rfl)
  have hsz : ∀ t ∈ ls, t.size < 4294967281 := fun t ht => by
    have h1 := hs t ht
    simp only [List.append_nil, Rows.uptoBulkAll] at hbulk
    omega
  have hpl : ps.length < 10000000000 := by
    simp only [List.append_nil, Rows.uptoBulkAll] at hbulk
    omega
  have hG := glob_of hL hsh
  clear hA0 hval0
  refine Calls.mono (topReplay_any ps ls n _ _ W hG hp hpl hl hsz (fun e W' => e = .returned (.bool true) ∧ Grow W W') (fun W' hg => ⟨rfl, hg⟩)) fun e W' ⟨he, hB⟩ => ?_
  subst he
  have hlt0 : ∀ x ∈ p, x.block < W.heap.size := fun x hx => hW'.lt x (List.mem_append_left _ hx)
  have ht0 := Below.trod Tryz.laidOut9 (by kernel_rfl) (of_decide_eq_true (by kernel_rfl)) hk0 hB hlt0
  exact ⟨_, rfl, _, _, _, [], _, [], hW', trodAll_mk1 (shut_bool Tryz.underlying4 true), trodAll_mk1 ht0, rfl, hB.frame _, fun h => by cases h⟩

/-! ### The row's closed facts, one by one (the kernel has no room for all of them in one declaration) -/
theorem bandI {a b : Bool} (ha : a = true) (hb : b = true) : (a && b) = true := by rw [ha, hb]; rfl
set_option maxRecDepth 100000 in
theorem topReplay_f0 : (Rows.topReplayUptoRow.wf (OpenSpec.ofChange Rows.topReplaySpec)) = true := by kernel_rfl
set_option maxRecDepth 100000 in
theorem topReplay_f1 : (laidOutB Tryz.prog) = true := by kernel_rfl
set_option maxRecDepth 100000 in
theorem topReplay_f2 : (mapsRowed Tryz.prog) = true := by kernel_rfl
set_option maxRecDepth 100000 in
theorem topReplay_f3 : (Tryz.f7.params.all (Tryz.prog.readableRec ·)) = true := by kernel_rfl
set_option maxRecDepth 100000 in
theorem topReplay_f4 : (namedTie Tryz.prog Rows.topReplayUptoRow.named Rows.topReplaySpec.vars) = true := by kernel_rfl
set_option maxRecDepth 100000 in
theorem topReplay_f5 : ((Rows.topReplayUptoRow.stops == [])) = true := by kernel_rfl
set_option maxRecDepth 100000 in
theorem topReplay_f6 : ((Tryz.prog.stops == [])) = true := by kernel_rfl
set_option maxRecDepth 100000 in
theorem topReplay_f7 : ((Rows.topReplayUptoRow.knobs == [])) = true := by kernel_rfl
set_option maxRecDepth 100000 in
theorem topReplay_f8 : ((Tryz.prog.stopKnobs == [])) = true := by kernel_rfl
set_option maxRecDepth 100000 in
theorem topReplay_f9 : ((Rows.topReplayUptoRow.inPlace == Tryz.prog.inPlace 7)) = true := by kernel_rfl
set_option maxRecDepth 100000 in
theorem topReplay_f10 : ((Rows.topReplayUptoRow.unfollowed == Tryz.prog.unfollowed 7)) = true := by kernel_rfl
set_option maxRecDepth 100000 in
theorem topReplay_f11 : ((Rows.topReplayUptoRow.recurses == Tryz.prog.recurses 7)) = true := by kernel_rfl
set_option maxRecDepth 100000 in
theorem topReplay_f12 : ((Rows.topReplayUptoRow.named == Tryz.prog.varsNamed 7)) = true := by kernel_rfl
set_option maxRecDepth 100000 in
theorem topReplay_f13 : ((Rows.topReplayUptoRow.maps == (Tryz.f7.params.toList ++ Rows.topReplaySpec.plain.varTypes Tryz.prog).any (Tryz.prog.mapsRec ·))) = true := by kernel_rfl
set_option maxRecDepth 100000 in
theorem topReplay_f14 : ((Rows.topReplayUptoRow.ifaces == (Tryz.f7.params.toList ++ Rows.topReplaySpec.plain.varTypes Tryz.prog).any (Tryz.prog.ifacesRec ·))) = true := by kernel_rfl
set_option maxRecDepth 100000 in
theorem topReplay_f15 : ((Rows.topReplayUptoRow.mapsOut == Tryz.prog.mapsAmong Tryz.f7.resultTypes.toList)) = true := by kernel_rfl
set_option maxRecDepth 100000 in
theorem topReplay_f16 : ((Rows.topReplayUptoRow.loops == (Tryz.f7.params.toList ++ Rows.topReplaySpec.plain.varTypes Tryz.prog).any (Tryz.prog.loopsFrom ·))) = true := by kernel_rfl
set_option maxRecDepth 100000 in
theorem topReplay_f17 : ((Rows.topReplayUptoRow.wideKeys == (Tryz.f7.params.toList ++ Rows.topReplaySpec.plain.varTypes Tryz.prog ++ Tryz.f7.resultTypes.toList).any (Tryz.prog.wideKeysFrom ·))) = true := by kernel_rfl
set_option maxRecDepth 100000 in
theorem topReplay_f18 : (Rows.topReplaySpec.vars.all (Tryz.prog.varReadable ·)) = true := by kernel_rfl
set_option maxRecDepth 100000 in
theorem topReplay_f19 : (Tryz.f7.resultTypes.all (fun t => Tryz.prog.readableRec t && decide (t < Tryz.prog.types.size))) = true := by kernel_rfl
set_option maxRecDepth 100000 in
theorem topReplay_f20 : ((Rows.topReplayUptoRow.ifacesOut == Tryz.f7.resultTypes.toList.any (Tryz.prog.ifacesRec ·))) = true := by kernel_rfl
set_option maxRecDepth 100000 in
theorem topReplay_f21 : ((Rows.topReplayUptoRow.loopsOut == Tryz.f7.resultTypes.toList.any (Tryz.prog.loopsFrom ·))) = true := by kernel_rfl
set_option maxRecDepth 100000 in
theorem topReplay_f22 : ((Rows.topReplayUptoRow.plainKeys == Tryz.prog.plainKeys)) = true := by kernel_rfl
set_option maxRecDepth 100000 in
theorem topReplay_f23 : (Rows.topReplayUptoRow.shortTexts.isNone) = true := by kernel_rfl
set_option maxRecDepth 100000 in
theorem topReplay_f24 : (Tryz.prog.stopsHeard) = true := by kernel_rfl
set_option maxRecDepth 100000 in
theorem topReplay_f25 : (Tryz.prog.mayEnter) = true := by kernel_rfl
set_option maxRecDepth 100000 in
theorem topReplay_f26 : ((Rows.topReplayUptoRow.lifted == Tryz.prog.liftsFinal)) = true := by kernel_rfl
set_option maxRecDepth 100000 in
theorem topReplay_f27 : ((Tryz.prog.make == some Rows.topReplayUptoRow.make)) = true := by kernel_rfl
set_option maxRecDepth 100000 in
theorem topReplay_f28 : ((Rows.topReplayUptoRow.kinds == (if Rows.topReplayUptoRow.domain.isEmpty then [] else Tryz.f7.params.toList.map fun t => match Tryz.prog.underlying t with | some (.int k) => some k | _ => none))) = true := by kernel_rfl
set_option maxRecDepth 100000 in
theorem topReplay_f29 : ((Rows.topReplayUptoRow.pinned == Rows.topReplayUptoRow.pinnedBy)) = true := by kernel_rfl
set_option maxRecDepth 100000 in
theorem topReplay_f30 : ((Rows.topReplayUptoRow.veiled == (Tryz.f7.params.toList ++ Rows.topReplaySpec.plain.varTypes Tryz.prog ++ Tryz.f7.resultTypes.toList).any (Tryz.prog.veiledRec ·))) = true := by kernel_rfl
set_option maxRecDepth 100000 in
theorem topReplay_f31 : (Rows.topReplayUptoRow.veiledFits Tryz.prog Tryz.f7.params.toList (Tryz.f7.params.toList ++ Rows.topReplaySpec.plain.varTypes Tryz.prog ++ Tryz.f7.resultTypes.toList)) = true := by kernel_rfl
set_option maxRecDepth 100000 in
theorem topReplay_facts : joinedFacts Tryz.prog 7 Tryz.f7 Rows.topReplaySpec Rows.topReplayUptoRow = true := by
  unfold joinedFacts
  exact bandI (bandI (bandI (bandI (bandI (bandI (bandI (bandI (bandI (bandI (bandI (bandI (bandI (bandI (bandI (bandI (bandI (bandI (bandI (bandI (bandI (bandI (bandI (bandI (bandI (bandI (bandI (bandI (bandI (bandI (bandI (topReplay_f0) topReplay_f1) topReplay_f2) topReplay_f3) topReplay_f4) topReplay_f5) topReplay_f6) topReplay_f7) topReplay_f8) topReplay_f9) topReplay_f10) topReplay_f11) topReplay_f12) topReplay_f13) topReplay_f14) topReplay_f15) topReplay_f16) topReplay_f17) topReplay_f18) topReplay_f19) topReplay_f20) topReplay_f21) topReplay_f22) topReplay_f23) topReplay_f24) topReplay_f25) topReplay_f26) topReplay_f27) topReplay_f28) topReplay_f29) topReplay_f30) topReplay_f31

theorem topReplay_named : Tryz.prog.funcNamed "tinker/tinkertop.TopReplay" = some 7 := by kernel_rfl
set_option maxRecDepth 100000 in
theorem topReplay_row : Rows.TopReplayUptoSaid :=
  OpenClaim.holds_of_cond 7 Tryz.f7 rfl rfl rfl rfl rfl rfl rfl ⟨rfl, rfl, rfl, rfl, rfl⟩ rfl rfl rfl rfl rfl topReplay_named Tryz.func7 topReplay_facts
    (of_decide_eq_true (by kernel_rfl)) (by unfold Func.isWrapper; first | (rw [if_pos (by decide +kernel)]; kernel_rfl) | (rw [if_neg (by decide +kernel)]; exact ⟨rfl, rfl⟩))
    (fun os started H enc _ F => by rw [OpenClaim.pre_eq_preRow]; exact topReplay_lifted os started H enc F)

set_option maxRecDepth 100000 in
theorem topReplay_wf : Rows.topReplayUptoRow.wfByText (Rows.OpenSpec.upto Rows.topReplaySpec) = true := by kernel_rfl
theorem topReplay_main : Tryz.pinned.checked.prog.mainIs = some (Rows.topReplayUptoCard.stood.harness.1, Rows.topReplayUptoCard.stood.harness.2.toList) := by kernel_rfl
theorem topReplay_goes : false = Rows.topReplayUptoRow.goesBy Tryz.pinned.checked.prog := by kernel_rfl
theorem topReplay_looks : true = Tryz.pinned.checked.prog.looks [] := by kernel_rfl
set_option maxRecDepth 100000 in
theorem topReplay_holds : Rows.TopReplayUptoCardSaid :=
  Claim7.holds_tied_plain_at .later [] [.data, .data, .data, .data, .handle, .sentinel, .sentinel, .pinned] true Rows.topReplayUptoCard.stood.harness true topReplay_row (fun _ h => by cases h) topReplay_wf (fun _ h => by cases h) topReplayUpto_row_tie rfl ⟨rfl, rfl⟩ topReplay_main rfl
    (fun f fn hf hfn => by
      obtain rfl : f = 7 := Option.some.inj (topReplay_named.symm.trans hf) |>.symm
      obtain rfl : fn = Tryz.f7 := (Option.some.inj (Tryz.func7.symm.trans hfn)).symm
      exact ⟨topReplay_looks, fun j t ht => by
        rw [Tryz.params7] at ht
        obtain rfl : t = 57 := by simpa using Array.mem_of_getElem? ht
        exact (show Tryz.prog.wantsStandIn 57 = false by kernel_rfl)⟩)
    topReplay_goes

end Go.Proofs.YtgjppekjkofdiaaGreatDoor
