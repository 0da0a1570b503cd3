/-
The statement TopBookUpto: a book is the orders that were taken, what is read of any beginning of it is their beginning, and a beginning and the book are merged to the book, for all programs, orders and numbers. Where what comes in is of bulk at most 1048576 (without that bound an order of 2^44 blanks or more ends the call: splitting it asks for too long a list); no other condition but the laid variables, which the card ties.
-/
import Derived.Test.YtgjppekjkofdiaaGreatDoorH43
import Derived.Test.YtgjppekjkofdiaaGreatDoorH46
import Derived.Test.YtgjppekjkofdiaaGreatDoorH48
import Derived.Test.YtgjppekjkofdiaaGreatDoorCards
import Derived.Lib.SmallJoins
import Derived.Deep.DeepHandedRow
namespace Go.Proofs.YtgjppekjkofdiaaGreatDoor
open Go.ChangeShapes Go.WideShapes Go.ChangeAt Go.RowKit

theorem topBook_reads (os : Os) {H : Type} (enc : TypeId × Value → H) : ∃ places, DataW.whole enc Tryz.prog ((w9 os).forCall (fun _ _ => 0) ⟨#[], #[.agg #[.slice none 0 0, .slice none 0 0, .int .i64 0]], []⟩).memory Tryz.f6.params.toList Rows.topBookSpec.vars false #[Value.agg #[.slice none 0 0, .slice none 0 0, .int .i64 0]].toList 8 = some ([.agg [.nil, .nil, .lit (.int .i64 0)]], [], places) :=
  ⟨[], by kernel_rfl⟩
set_option maxRecDepth 100000 in
set_option maxHeartbeats 4000000 in
theorem topBook_lifted (os : Os) (started : os.Started) (H : Type) (enc : TypeId × Value → H) (F : Stop.Interp) :
    ReturnsInHanded {} Tryz.checked os 6 .any ((Rows.OpenSpec.upto Rows.topBookSpec).preRow enc Tryz.prog Tryz.f6 Rows.topBookUptoRow.domain false Rows.topBookUptoRow.laid) (((Rows.OpenSpec.upto Rows.topBookSpec).at F).post enc Tryz.prog Tryz.f6 false true false false) := by
  have hlk : Rows.topBookUptoRow.laid = lk := rfl
  rw [hlk]
  obtain ⟨places, hx⟩ := topBook_reads os enc
  refine returnsInHanded_of_row (C := Tryz.checked) (s := Rows.OpenSpec.upto Rows.topBookSpec) Tryz.own9 started (by kernel_rfl) Tryz.func6
    ⟨w9 os, fun _ _ => 0, ⟨#[], #[.agg #[.slice none 0 0, .slice none 0 0, .int .i64 0]], []⟩, w9_os os, World.shaped_of_ZipB (by kernel_rfl) (by kernel_rfl), rfl, (Input.okWide_of_okWideB (show Input.okWideB Tryz.prog ((w9 os).forCall (fun _ _ => 0) ⟨#[], #[.agg #[.slice none 0 0, .slice none 0 0, .int .i64 0]], []⟩) 6 ⟨#[], #[.agg #[.slice none 0 0, .slice none 0 0, .int .i64 0]], []⟩ = true from by kernel_rfl)).2,
      OpenSpec.preRow_of_cond 8 hx (by kernel_rfl) (fun k hk => by cases hk; kernel_rfl) (by kernel_rfl) (w9_met os _), by
        simp only [Assume.holds]
        exact ⟨by simp, by simp, fun _ => Modest.zero, by simp, by simp⟩⟩ ?_
  intro W base args ds gs before hval0 hW _ hcond _ hL hsh _
  have hval : ∀ (j : Nat) t v, Tryz.f6.params[j]? = some t → args[j]? = some v → Value.okWide Tryz.prog W .any base t v := hval0
  have hW' := hW
  obtain ⟨p, q, hA0, hV, rfl, hfz, hnd⟩ := hW
  have hA : DataW.TrodAll enc Tryz.prog W 0 (fun _ => true) true Tryz.f6.params.toList args.toList ds p := hA0
  rw [Tryz.params6] at hA hval
  obtain ⟨v0, d0, rfl, rfl, h0⟩ := trodAll_one hA
  obtain ⟨rfl, rfl⟩ := trodVars_none hV
  have hk0 := h0
  obtain ⟨x0, x1, ps, ls, n, rfl, hp, hl, hn, hs⟩ := arg_firm (hval 0 57 v0 rfl rfl) h0
  have hbulk : Rows.uptoBulkAll ([d0] ++ []) ≤ 1048576 := of_decide_eq_true (hcond _ rfl)
  have hsz : ∀ t ∈ ls, t.size < 4294967281 := fun t ht => by
    have h1 := hs t ht
    simp only [List.append_nil, Rows.uptoBulkAll] at hbulk
    omega
  have hpl : ps.length < 10000000000 := by
    simp only [List.append_nil, Rows.uptoBulkAll] at hbulk
    omega
  have hG := glob_of hL hsh
  clear hA0 hval0
  refine Calls.mono (topBook_any ps ls n _ _ W hG hp hpl hl hsz (fun e W' => e = .returned (.bool true) ∧ Grow W W') (fun W' hg => ⟨rfl, hg⟩)) fun e W' ⟨he, hB⟩ => ?_
  subst he
  have hlt0 : ∀ x ∈ p, x.block < W.heap.size := fun x hx => hW'.lt x (List.mem_append_left _ hx)
  have ht0 := Below.trod Tryz.laidOut9 (by kernel_rfl) (of_decide_eq_true (by kernel_rfl)) hk0 hB hlt0
  exact ⟨_, rfl, _, _, _, [], _, [], hW', trodAll_mk1 (shut_bool Tryz.underlying4 true), trodAll_mk1 ht0, rfl, hB.frame _, fun h => by cases h⟩

/-! ### The row's closed facts, one by one (the kernel has no room for all of them in one declaration) -/
theorem bandI {a b : Bool} (ha : a = true) (hb : b = true) : (a && b) = true := by rw [ha, hb]; rfl
set_option maxRecDepth 100000 in
theorem topBook_f0 : (Rows.topBookUptoRow.wf (OpenSpec.ofChange Rows.topBookSpec)) = true := by kernel_rfl
set_option maxRecDepth 100000 in
theorem topBook_f1 : (laidOutB Tryz.prog) = true := by kernel_rfl
set_option maxRecDepth 100000 in
theorem topBook_f2 : (mapsRowed Tryz.prog) = true := by kernel_rfl
set_option maxRecDepth 100000 in
theorem topBook_f3 : (Tryz.f6.params.all (Tryz.prog.readableRec ·)) = true := by kernel_rfl
set_option maxRecDepth 100000 in
theorem topBook_f4 : (namedTie Tryz.prog Rows.topBookUptoRow.named Rows.topBookSpec.vars) = true := by kernel_rfl
set_option maxRecDepth 100000 in
theorem topBook_f5 : ((Rows.topBookUptoRow.stops == [])) = true := by kernel_rfl
set_option maxRecDepth 100000 in
theorem topBook_f6 : ((Tryz.prog.stops == [])) = true := by kernel_rfl
set_option maxRecDepth 100000 in
theorem topBook_f7 : ((Rows.topBookUptoRow.knobs == [])) = true := by kernel_rfl
set_option maxRecDepth 100000 in
theorem topBook_f8 : ((Tryz.prog.stopKnobs == [])) = true := by kernel_rfl
set_option maxRecDepth 100000 in
theorem topBook_f9 : ((Rows.topBookUptoRow.inPlace == Tryz.prog.inPlace 6)) = true := by kernel_rfl
set_option maxRecDepth 100000 in
theorem topBook_f10 : ((Rows.topBookUptoRow.unfollowed == Tryz.prog.unfollowed 6)) = true := by kernel_rfl
set_option maxRecDepth 100000 in
theorem topBook_f11 : ((Rows.topBookUptoRow.recurses == Tryz.prog.recurses 6)) = true := by kernel_rfl
set_option maxRecDepth 100000 in
theorem topBook_f12 : ((Rows.topBookUptoRow.named == Tryz.prog.varsNamed 6)) = true := by kernel_rfl
set_option maxRecDepth 100000 in
theorem topBook_f13 : ((Rows.topBookUptoRow.maps == (Tryz.f6.params.toList ++ Rows.topBookSpec.plain.varTypes Tryz.prog).any (Tryz.prog.mapsRec ·))) = true := by kernel_rfl
set_option maxRecDepth 100000 in
theorem topBook_f14 : ((Rows.topBookUptoRow.ifaces == (Tryz.f6.params.toList ++ Rows.topBookSpec.plain.varTypes Tryz.prog).any (Tryz.prog.ifacesRec ·))) = true := by kernel_rfl
set_option maxRecDepth 100000 in
theorem topBook_f15 : ((Rows.topBookUptoRow.mapsOut == Tryz.prog.mapsAmong Tryz.f6.resultTypes.toList)) = true := by kernel_rfl
set_option maxRecDepth 100000 in
theorem topBook_f16 : ((Rows.topBookUptoRow.loops == (Tryz.f6.params.toList ++ Rows.topBookSpec.plain.varTypes Tryz.prog).any (Tryz.prog.loopsFrom ·))) = true := by kernel_rfl
set_option maxRecDepth 100000 in
theorem topBook_f17 : ((Rows.topBookUptoRow.wideKeys == (Tryz.f6.params.toList ++ Rows.topBookSpec.plain.varTypes Tryz.prog ++ Tryz.f6.resultTypes.toList).any (Tryz.prog.wideKeysFrom ·))) = true := by kernel_rfl
set_option maxRecDepth 100000 in
theorem topBook_f18 : (Rows.topBookSpec.vars.all (Tryz.prog.varReadable ·)) = true := by kernel_rfl
set_option maxRecDepth 100000 in
theorem topBook_f19 : (Tryz.f6.resultTypes.all (fun t => Tryz.prog.readableRec t && decide (t < Tryz.prog.types.size))) = true := by kernel_rfl
set_option maxRecDepth 100000 in
theorem topBook_f20 : ((Rows.topBookUptoRow.ifacesOut == Tryz.f6.resultTypes.toList.any (Tryz.prog.ifacesRec ·))) = true := by kernel_rfl
set_option maxRecDepth 100000 in
theorem topBook_f21 : ((Rows.topBookUptoRow.loopsOut == Tryz.f6.resultTypes.toList.any (Tryz.prog.loopsFrom ·))) = true := by kernel_rfl
set_option maxRecDepth 100000 in
theorem topBook_f22 : ((Rows.topBookUptoRow.plainKeys == Tryz.prog.plainKeys)) = true := by kernel_rfl
set_option maxRecDepth 100000 in
theorem topBook_f23 : (Rows.topBookUptoRow.shortTexts.isNone) = true := by kernel_rfl
set_option maxRecDepth 100000 in
theorem topBook_f24 : (Tryz.prog.stopsHeard) = true := by kernel_rfl
set_option maxRecDepth 100000 in
theorem topBook_f25 : (Tryz.prog.mayEnter) = true := by kernel_rfl
set_option maxRecDepth 100000 in
theorem topBook_f26 : ((Rows.topBookUptoRow.lifted == Tryz.prog.liftsFinal)) = true := by kernel_rfl
set_option maxRecDepth 100000 in
theorem topBook_f27 : ((Tryz.prog.make == some Rows.topBookUptoRow.make)) = true := by kernel_rfl
set_option maxRecDepth 100000 in
theorem topBook_f28 : ((Rows.topBookUptoRow.kinds == (if Rows.topBookUptoRow.domain.isEmpty then [] else Tryz.f6.params.toList.map fun t => match Tryz.prog.underlying t with | some (.int k) => some k | _ => none))) = true := by kernel_rfl
set_option maxRecDepth 100000 in
theorem topBook_f29 : ((Rows.topBookUptoRow.pinned == Rows.topBookUptoRow.pinnedBy)) = true := by kernel_rfl
set_option maxRecDepth 100000 in
theorem topBook_f30 : ((Rows.topBookUptoRow.veiled == (Tryz.f6.params.toList ++ Rows.topBookSpec.plain.varTypes Tryz.prog ++ Tryz.f6.resultTypes.toList).any (Tryz.prog.veiledRec ·))) = true := by kernel_rfl
set_option maxRecDepth 100000 in
theorem topBook_f31 : (Rows.topBookUptoRow.veiledFits Tryz.prog Tryz.f6.params.toList (Tryz.f6.params.toList ++ Rows.topBookSpec.plain.varTypes Tryz.prog ++ Tryz.f6.resultTypes.toList)) = true := by kernel_rfl
set_option maxRecDepth 100000 in
theorem topBook_facts : joinedFacts Tryz.prog 6 Tryz.f6 Rows.topBookSpec Rows.topBookUptoRow = true := by
  unfold joinedFacts
  exact bandI (bandI (bandI (bandI (bandI (bandI (bandI (bandI (bandI (bandI (bandI (bandI (bandI (bandI (bandI (bandI (bandI (bandI (bandI (bandI (bandI (bandI (bandI (bandI (bandI (bandI (bandI (bandI (bandI (bandI (bandI (topBook_f0) topBook_f1) topBook_f2) topBook_f3) topBook_f4) topBook_f5) topBook_f6) topBook_f7) topBook_f8) topBook_f9) topBook_f10) topBook_f11) topBook_f12) topBook_f13) topBook_f14) topBook_f15) topBook_f16) topBook_f17) topBook_f18) topBook_f19) topBook_f20) topBook_f21) topBook_f22) topBook_f23) topBook_f24) topBook_f25) topBook_f26) topBook_f27) topBook_f28) topBook_f29) topBook_f30) topBook_f31

theorem topBook_named : Tryz.prog.funcNamed "tinker/tinkertop.TopBook" = some 6 := by kernel_rfl
set_option maxRecDepth 100000 in
theorem topBook_row : Rows.TopBookUptoSaid :=
  OpenClaim.holds_of_cond 6 Tryz.f6 rfl rfl rfl rfl rfl rfl rfl ⟨rfl, rfl, rfl, rfl, rfl⟩ rfl rfl rfl rfl rfl topBook_named Tryz.func6 topBook_facts
    (of_decide_eq_true (by kernel_rfl)) (by unfold Func.isWrapper; first | (rw [if_pos (by decide +kernel)]; kernel_rfl) | (rw [if_neg (by decide +kernel)]; exact ⟨rfl, rfl⟩))
    (fun os started H enc _ F => by rw [OpenClaim.pre_eq_preRow]; exact topBook_lifted os started H enc F)

set_option maxRecDepth 100000 in
theorem topBook_wf : Rows.topBookUptoRow.wfByText (Rows.OpenSpec.upto Rows.topBookSpec) = true := by kernel_rfl
theorem topBook_main : Tryz.pinned.checked.prog.mainIs = some (Rows.topBookUptoCard.stood.harness.1, Rows.topBookUptoCard.stood.harness.2.toList) := by kernel_rfl
theorem topBook_goes : false = Rows.topBookUptoRow.goesBy Tryz.pinned.checked.prog := by kernel_rfl
theorem topBook_looks : true = Tryz.pinned.checked.prog.looks [] := by kernel_rfl
set_option maxRecDepth 100000 in
theorem topBook_holds : Rows.TopBookUptoCardSaid :=
  Claim7.holds_tied_plain_at .later [] [.data, .data, .data, .data, .handle, .sentinel, .sentinel, .pinned] true Rows.topBookUptoCard.stood.harness true topBook_row (fun _ h => by cases h) topBook_wf (fun _ h => by cases h) topBookUpto_row_tie rfl ⟨rfl, rfl⟩ topBook_main rfl
    (fun f fn hf hfn => by
      obtain rfl : f = 6 := Option.some.inj (topBook_named.symm.trans hf) |>.symm
      obtain rfl : fn = Tryz.f6 := (Option.some.inj (Tryz.func6.symm.trans hfn)).symm
      exact ⟨topBook_looks, fun j t ht => by
        rw [Tryz.params6] at ht
        obtain rfl : t = 57 := by simpa using Array.mem_of_getElem? ht
        exact (show Tryz.prog.wantsStandIn 57 = false by kernel_rfl)⟩)
    topBook_goes

end Go.Proofs.YtgjppekjkofdiaaGreatDoor
