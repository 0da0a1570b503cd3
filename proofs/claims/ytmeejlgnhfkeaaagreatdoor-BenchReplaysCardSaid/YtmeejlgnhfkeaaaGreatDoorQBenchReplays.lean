/-
The statement BenchReplays: the book makes the bench again, and a part of the orders a part of it, for all programs, orders and numbers. No condition but the laid variables, which the card ties.
-/
import Derived.Test.YtmeejlgnhfkeaaaGreatDoorQ43
import Derived.Test.YtmeejlgnhfkeaaaGreatDoorQ50
import Derived.Test.YtmeejlgnhfkeaaaGreatDoorCards
import Derived.Lib.SmallJoins
namespace Go.Proofs.YtmeejlgnhfkeaaaGreatDoor
open Go.ChangeShapes Go.WideShapes Go.ChangeAt Go.RowKit
set_option maxRecDepth 100000
set_option maxHeartbeats 4000000
theorem benchReplays_lifted (os:Os) (started:os.Started) (H:Type) (enc:TypeId × Value→H) :
  ReturnsInHanded {} Tryz.checked os 4 .any (fun w args=>(Rows.benchReplaysSpec.pre enc Tryz.prog Tryz.f4 [] false w args∧laidMetH Tryz.prog Rows.benchReplaysRow.laid w)∧sizedMet enc Tryz.prog Tryz.f4 (OpenSpec.ofChange Rows.benchReplaysSpec) false w args)
   (Rows.benchReplaysSpec.post enc Tryz.prog Tryz.f4 false true false false):=by
 have hlk:Rows.benchReplaysRow.laid=lk:=rfl;rw [hlk];refine zgx (C:=Tryz.checked) (X:=fun w _=>laidMetH Tryz.prog lk w) (fun _ _ _ hh h=>h.of_heap hh) Tryz.own9 started (by kernel_rfl) Tryz.func4
  (ChangeSpec.witness_shaped (enc:=enc) (C:=Tryz.checked) (os:=os) (X:=fun w _=>laidMetH Tryz.prog lk w) false (w9 os) #[.slice none 0 0,.slice none 0 0,.int .i64 0] 8 (w9_os os) (World.shaped_of_ZipB (by kernel_rfl) (by kernel_rfl)) (by kernel_rfl) (by kernel_rfl) (by kernel_rfl) (zxe os _)) ?_
 intro W base args ds gs before hval0 hW hcnd _ hsh hL;have hval:∀ (j:Nat) t v,Tryz.f4.params[j]?=some t→args[j]?=some v→Value.okWide Tryz.prog W .any base t v:=hval0;have hW':=hW;obtain ⟨p,q,hA0,hV,rfl,hfz,hnd⟩:=hW;have hA:DataW.TrodAll enc Tryz.prog W 0 (fun _=>true) true Tryz.f4.params.toList args.toList ds p:=hA0;rw [Tryz.params4] at hA hval;obtain ⟨v0,v1,v2,d0,d1,d2,p0,p1,p2,rfl,rfl,rfl,h0,h1,h2⟩:=trodAll_three hA;obtain ⟨rfl,rfl⟩:=trodVars_none hV;have hk0:=h0;have hk1:=h1;have hk2:=h2;obtain ⟨x0,hx0⟩:=zjl (hval 0 22 v0 rfl rfl) h0;obtain ⟨x1,hx1⟩:=zoy (hval 1 23 v1 rfl rfl) h1;obtain ⟨x2,rfl,hx2⟩:=arg_int (hval 2 3 v2 rfl rfl) h2;have hG:=zql hL hsh;clear hA0 hval0;refine Calls.mono (ziz x0 x1 x2 W v0 v1 hG hx0 hx1 (fun e W'=>e=.returned (.bool true)∧Grow W W') (fun W' hg=>⟨rfl,hg⟩)) fun e W' ⟨he,hB⟩=>?_;subst he;have hlt0:∀ x∈p0,x.block<W.heap.size:=fun x hx=>hW'.lt x (List.mem_append_left _ (List.mem_append_left _ (List.mem_append_left _ (hx))));have ht0:=Below.trod Tryz.laidOut9 (by kernel_rfl) (of_decide_eq_true (by kernel_rfl)) hk0 hB hlt0
 have hlt1:∀ x∈p1,x.block<W.heap.size:=fun x hx=>hW'.lt x (List.mem_append_left _ (List.mem_append_left _ (List.mem_append_right _ hx)));have ht1:=Below.trod Tryz.laidOut9 (by kernel_rfl) (of_decide_eq_true (by kernel_rfl)) hk1 hB hlt1
 have hlt2:∀ x∈p2,x.block<W.heap.size:=fun x hx=>hW'.lt x (List.mem_append_left _ (List.mem_append_right _ hx));have ht2:=Below.trod Tryz.laidOut9 (by kernel_rfl) (of_decide_eq_true (by kernel_rfl)) hk2 hB hlt2
 exact ⟨_,rfl,_,_,_,[],_,[],hW',trodAll_mk1 (shut_bool Tryz.underlying4 true),trodAll_mk3 ht0 ht1 ht2,rfl,hB.frame _,fun h=>by cases h⟩
/-! ### The row's closed facts,one by one (the kernel has no room for all of them in one declaration) -/
theorem bandI {a b:Bool} (ha:a=true) (hb:b=true):(a && b)=true:=by rw [ha,hb];rfl
theorem benchReplays_f0:(Rows.benchReplaysRow.wf (OpenSpec.ofChange Rows.benchReplaysSpec))=true:=by kernel_rfl
theorem benchReplays_f1:(laidOutB Tryz.prog)=true:=by kernel_rfl
theorem benchReplays_f2:(mapsRowed Tryz.prog)=true:=by kernel_rfl
theorem benchReplays_f3:(Tryz.f4.params.all (Tryz.prog.readableRec ·))=true:=by kernel_rfl
theorem benchReplays_f4:(namedTie Tryz.prog Rows.benchReplaysRow.named Rows.benchReplaysSpec.vars)=true:=by kernel_rfl
theorem benchReplays_f5:((Rows.benchReplaysRow.stops == []))=true:=by kernel_rfl
theorem benchReplays_f6:((Tryz.prog.stops == []))=true:=by kernel_rfl
theorem benchReplays_f7:((Rows.benchReplaysRow.knobs == []))=true:=by kernel_rfl
theorem benchReplays_f8:((Tryz.prog.stopKnobs == []))=true:=by kernel_rfl
theorem benchReplays_f9:((Rows.benchReplaysRow.inPlace == Tryz.prog.inPlace 4))=true:=by kernel_rfl
theorem benchReplays_f10:((Rows.benchReplaysRow.unfollowed == Tryz.prog.unfollowed 4))=true:=by kernel_rfl
theorem benchReplays_f11:((Rows.benchReplaysRow.recurses == Tryz.prog.recurses 4))=true:=by kernel_rfl
theorem benchReplays_f12:((Rows.benchReplaysRow.named == Tryz.prog.varsNamed 4))=true:=by kernel_rfl
theorem benchReplays_f13:((Rows.benchReplaysRow.maps == (Tryz.f4.params.toList++Rows.benchReplaysSpec.plain.varTypes Tryz.prog).any (Tryz.prog.mapsRec ·)))=true:=by kernel_rfl
theorem benchReplays_f14:((Rows.benchReplaysRow.ifaces == (Tryz.f4.params.toList++Rows.benchReplaysSpec.plain.varTypes Tryz.prog).any (Tryz.prog.ifacesRec ·)))=true:=by kernel_rfl
theorem benchReplays_f15:((Rows.benchReplaysRow.mapsOut == Tryz.prog.mapsAmong Tryz.f4.resultTypes.toList))=true:=by kernel_rfl
theorem benchReplays_f16:((Rows.benchReplaysRow.loops == (Tryz.f4.params.toList++Rows.benchReplaysSpec.plain.varTypes Tryz.prog).any (Tryz.prog.loopsFrom ·)))=true:=by kernel_rfl
theorem benchReplays_f17:((Rows.benchReplaysRow.wideKeys == (Tryz.f4.params.toList++Rows.benchReplaysSpec.plain.varTypes Tryz.prog++Tryz.f4.resultTypes.toList).any (Tryz.prog.wideKeysFrom ·)))=true:=by kernel_rfl
theorem benchReplays_f18:(Rows.benchReplaysSpec.vars.all (Tryz.prog.varReadable ·))=true:=by kernel_rfl
theorem benchReplays_f19:(Tryz.f4.resultTypes.all (fun t=>Tryz.prog.readableRec t && decide (t<Tryz.prog.types.size)))=true:=by kernel_rfl
theorem benchReplays_f20:((Rows.benchReplaysRow.ifacesOut == Tryz.f4.resultTypes.toList.any (Tryz.prog.ifacesRec ·)))=true:=by kernel_rfl
theorem benchReplays_f21:((Rows.benchReplaysRow.loopsOut == Tryz.f4.resultTypes.toList.any (Tryz.prog.loopsFrom ·)))=true:=by kernel_rfl
theorem benchReplays_f22:((Rows.benchReplaysRow.plainKeys == Tryz.prog.plainKeys))=true:=by kernel_rfl
theorem benchReplays_f23:(Rows.benchReplaysRow.shortTexts.isNone)=true:=by kernel_rfl
theorem benchReplays_f24:(Tryz.prog.stopsHeard)=true:=by kernel_rfl
theorem benchReplays_f25:(Tryz.prog.mayEnter)=true:=by kernel_rfl
theorem benchReplays_f26:((Rows.benchReplaysRow.lifted == Tryz.prog.liftsFinal))=true:=by kernel_rfl
theorem benchReplays_f27:((Tryz.prog.make == some Rows.benchReplaysRow.make))=true:=by kernel_rfl
theorem benchReplays_f28:((Rows.benchReplaysRow.kinds == (if Rows.benchReplaysRow.domain.isEmpty then [] else Tryz.f4.params.toList.map fun t=>match Tryz.prog.underlying t with | some (.int k)=>some k | _=>none)))=true:=by kernel_rfl
theorem benchReplays_f29:((Rows.benchReplaysRow.pinned == Rows.benchReplaysRow.pinnedBy))=true:=by kernel_rfl
theorem benchReplays_f30:((Rows.benchReplaysRow.veiled == (Tryz.f4.params.toList++Rows.benchReplaysSpec.plain.varTypes Tryz.prog++Tryz.f4.resultTypes.toList).any (Tryz.prog.veiledRec ·)))=true:=by kernel_rfl
theorem benchReplays_f31:(Rows.benchReplaysRow.veiledFits Tryz.prog Tryz.f4.params.toList (Tryz.f4.params.toList++Rows.benchReplaysSpec.plain.varTypes Tryz.prog++Tryz.f4.resultTypes.toList))=true:=by kernel_rfl
theorem benchReplays_facts:joinedFacts Tryz.prog 4 Tryz.f4 Rows.benchReplaysSpec Rows.benchReplaysRow=true:=by
 unfold joinedFacts;exact bandI (bandI (bandI (bandI (bandI (bandI (bandI (bandI (bandI (bandI (bandI (bandI (bandI (bandI (bandI (bandI (bandI (bandI (bandI (bandI (bandI (bandI (bandI (bandI (bandI (bandI (bandI (bandI (bandI (bandI (bandI (benchReplays_f0) benchReplays_f1) benchReplays_f2) benchReplays_f3) benchReplays_f4) benchReplays_f5) benchReplays_f6) benchReplays_f7) benchReplays_f8) benchReplays_f9) benchReplays_f10) benchReplays_f11) benchReplays_f12) benchReplays_f13) benchReplays_f14) benchReplays_f15) benchReplays_f16) benchReplays_f17) benchReplays_f18) benchReplays_f19) benchReplays_f20) benchReplays_f21) benchReplays_f22) benchReplays_f23) benchReplays_f24) benchReplays_f25) benchReplays_f26) benchReplays_f27) benchReplays_f28) benchReplays_f29) benchReplays_f30) benchReplays_f31
theorem benchReplays_named : Tryz.prog.funcNamed "tinker/tinkerlaw09.BenchReplays" = some 4 := by kernel_rfl
theorem benchReplays_row:Rows.BenchReplaysSaid:=
 OpenClaim.holds_of_wide 4 Tryz.f4 rfl rfl rfl rfl rfl rfl rfl ⟨rfl,rfl,rfl,rfl,rfl⟩ rfl rfl rfl rfl rfl benchReplays_named Tryz.func4 benchReplays_facts
  (of_decide_eq_true (by kernel_rfl)) (by unfold Func.isWrapper;first | (rw [if_pos (by decide +kernel)];kernel_rfl) | (rw [if_neg (by decide +kernel)];exact ⟨rfl,rfl⟩))
  (fun os started H enc _=>benchReplays_lifted os started H enc)
theorem benchReplays_wf:Rows.benchReplaysRow.wfByText (OpenSpec.ofChange Rows.benchReplaysSpec)=true:=by kernel_rfl
theorem benchReplays_main:Tryz.pinned.checked.prog.mainIs=some (Rows.benchReplaysCard.stood.harness.1,Rows.benchReplaysCard.stood.harness.2.toList):=by kernel_rfl
theorem benchReplays_goes:false=Rows.benchReplaysRow.goesBy Tryz.pinned.checked.prog:=by kernel_rfl
theorem benchReplays_looks:true=Tryz.pinned.checked.prog.looks []:=by kernel_rfl
theorem benchReplays_holds:Rows.BenchReplaysCardSaid:=
 Claim7.holds_tied_plain_at .later [] [.data,.data,.data,.data,.handle,.sentinel,.sentinel,.pinned] true Rows.benchReplaysCard.stood.harness true benchReplays_row (fun _ h=>by cases h) benchReplays_wf (fun _ h=>by cases h) benchReplays_row_tie rfl ⟨rfl,rfl⟩ benchReplays_main rfl
  (fun f fn hf hfn=>by
   obtain rfl:f=4:=Option.some.inj (benchReplays_named.symm.trans hf) |>.symm;obtain rfl:fn=Tryz.f4:=(Option.some.inj (Tryz.func4.symm.trans hfn)).symm;exact ⟨benchReplays_looks,fun j t ht=>by
    rw [Tryz.params4] at ht;have hm:t∈[22,23,3]:=by simpa using Array.mem_of_getElem? ht
    have hall:([22,23,3].all fun u=>!Tryz.prog.wantsStandIn u)=true:=by kernel_rfl
    exact (show Tryz.prog.wantsStandIn t=false by simpa using List.all_eq_true.1 hall t hm)⟩)
  benchReplays_goes
end Go.Proofs.YtmeejlgnhfkeaaaGreatDoor
