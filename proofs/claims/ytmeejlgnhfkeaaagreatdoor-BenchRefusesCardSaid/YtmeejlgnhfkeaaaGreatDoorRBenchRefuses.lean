/-
The statement BenchRefuses: an order that is refused changes nothing, one that is not is the last of the book, and what is handed over can be changed, for all programs and texts. No condition but the laid variables, which the card ties.
-/
import Derived.Test.YtmeejlgnhfkeaaaGreatDoorR43
import Derived.Test.YtmeejlgnhfkeaaaGreatDoorR50
import Derived.Test.YtmeejlgnhfkeaaaGreatDoorCards
import Derived.Lib.SmallJoins
namespace Go.Proofs.YtmeejlgnhfkeaaaGreatDoor
open Go.ChangeShapes Go.WideShapes Go.ChangeAt Go.RowKit
set_option maxRecDepth 100000
set_option maxHeartbeats 4000000
theorem benchRefuses_lifted (os:Os) (started:os.Started) (H:Type) (enc:TypeId × Value→H) :
  ReturnsInHanded {} Tryz.checked os 6 .any (fun w args=>(Rows.benchRefusesSpec.pre enc Tryz.prog Tryz.f6 [] false w args∧laidMetH Tryz.prog Rows.benchRefusesRow.laid w)∧sizedMet enc Tryz.prog Tryz.f6 (OpenSpec.ofChange Rows.benchRefusesSpec) false w args)
   (Rows.benchRefusesSpec.post enc Tryz.prog Tryz.f6 false true false false):=by
 have hlk:Rows.benchRefusesRow.laid=lk:=rfl;rw [hlk];refine zpw (C:=Tryz.checked) (X:=fun w _=>laidMetH Tryz.prog lk w) (fun _ _ _ hh h=>h.of_heap hh) Tryz.own9 started (by kernel_rfl) Tryz.func6
  (ChangeSpec.witness_shaped (enc:=enc) (C:=Tryz.checked) (os:=os) (X:=fun w _=>laidMetH Tryz.prog lk w) false (w9 os) #[.slice none 0 0,.slice none 0 0,.string ByteArray.empty] 8 (w9_os os) (World.shaped_of_ZipB (by kernel_rfl) (by kernel_rfl)) (by kernel_rfl) (by kernel_rfl) (by kernel_rfl) (w9_met os _)) ?_
 intro W base args ds gs before hval0 hW hcnd _ hsh hL;have hval:∀ (j:Nat) t v,Tryz.f6.params[j]?=some t→args[j]?=some v→Value.okWide Tryz.prog W .any base t v:=hval0;have hW':=hW;obtain ⟨p,q,hA0,hV,rfl,hfz,hnd⟩:=hW;have hA:DataW.TrodAll enc Tryz.prog W 0 (fun _=>true) true Tryz.f6.params.toList args.toList ds p:=hA0;rw [Tryz.params6] at hA hval;obtain ⟨v0,v1,v2,d0,d1,d2,p0,p1,p2,rfl,rfl,rfl,h0,h1,h2⟩:=trodAll_three hA;obtain ⟨rfl,rfl⟩:=trodVars_none hV;have hk0:=h0;have hk1:=h1;have hk2:=h2;obtain ⟨x0,hx0⟩:=arg_lines (hval 0 22 v0 rfl rfl) h0;obtain ⟨x1,hx1⟩:=zys (hval 1 23 v1 rfl rfl) h1;obtain ⟨x2,rfl,hx2⟩:=arg_text (hval 2 9 v2 rfl rfl) h2;have hG:=glob_of hL hsh;clear hA0 hval0;refine Calls.mono (ziw x0 x1 x2 W v0 v1 hG hx0 hx1 (fun e W'=>e=.returned (.bool true)∧Grow W W') (fun W' hg=>⟨rfl,hg⟩)) fun e W' ⟨he,hB⟩=>?_;subst he;have hlt0:∀ x∈p0,x.block<W.heap.size:=fun x hx=>hW'.lt x (List.mem_append_left _ (List.mem_append_left _ (List.mem_append_left _ (hx))));have ht0:=Below.trod Tryz.laidOut9 (by kernel_rfl) (of_decide_eq_true (by kernel_rfl)) hk0 hB hlt0
 have hlt1:∀ x∈p1,x.block<W.heap.size:=fun x hx=>hW'.lt x (List.mem_append_left _ (List.mem_append_left _ (List.mem_append_right _ hx)));have ht1:=Below.trod Tryz.laidOut9 (by kernel_rfl) (of_decide_eq_true (by kernel_rfl)) hk1 hB hlt1
 have hlt2:∀ x∈p2,x.block<W.heap.size:=fun x hx=>hW'.lt x (List.mem_append_left _ (List.mem_append_right _ hx));have ht2:=Below.trod Tryz.laidOut9 (by kernel_rfl) (of_decide_eq_true (by kernel_rfl)) hk2 hB hlt2
 exact ⟨_,rfl,_,_,_,[],_,[],hW',trodAll_mk1 (shut_bool Tryz.underlying4 true),trodAll_mk3 ht0 ht1 ht2,rfl,hB.frame _,fun h=>by cases h⟩
/-! ### The row's closed facts,one by one (the kernel has no room for all of them in one declaration) -/
theorem bandI {a b:Bool} (ha:a=true) (hb:b=true):(a && b)=true:=by rw [ha,hb];rfl
theorem benchRefuses_f0:(Rows.benchRefusesRow.wf (OpenSpec.ofChange Rows.benchRefusesSpec))=true:=by kernel_rfl
theorem benchRefuses_f1:(laidOutB Tryz.prog)=true:=by kernel_rfl
theorem benchRefuses_f2:(mapsRowed Tryz.prog)=true:=by kernel_rfl
theorem benchRefuses_f3:(Tryz.f6.params.all (Tryz.prog.readableRec ·))=true:=by kernel_rfl
theorem benchRefuses_f4:(namedTie Tryz.prog Rows.benchRefusesRow.named Rows.benchRefusesSpec.vars)=true:=by kernel_rfl
theorem benchRefuses_f5:((Rows.benchRefusesRow.stops == []))=true:=by kernel_rfl
theorem benchRefuses_f6:((Tryz.prog.stops == []))=true:=by kernel_rfl
theorem benchRefuses_f7:((Rows.benchRefusesRow.knobs == []))=true:=by kernel_rfl
theorem benchRefuses_f8:((Tryz.prog.stopKnobs == []))=true:=by kernel_rfl
theorem benchRefuses_f9:((Rows.benchRefusesRow.inPlace == Tryz.prog.inPlace 6))=true:=by kernel_rfl
theorem benchRefuses_f10:((Rows.benchRefusesRow.unfollowed == Tryz.prog.unfollowed 6))=true:=by kernel_rfl
theorem benchRefuses_f11:((Rows.benchRefusesRow.recurses == Tryz.prog.recurses 6))=true:=by kernel_rfl
theorem benchRefuses_f12:((Rows.benchRefusesRow.named == Tryz.prog.varsNamed 6))=true:=by kernel_rfl
theorem benchRefuses_f13:((Rows.benchRefusesRow.maps == (Tryz.f6.params.toList++Rows.benchRefusesSpec.plain.varTypes Tryz.prog).any (Tryz.prog.mapsRec ·)))=true:=by kernel_rfl
theorem benchRefuses_f14:((Rows.benchRefusesRow.ifaces == (Tryz.f6.params.toList++Rows.benchRefusesSpec.plain.varTypes Tryz.prog).any (Tryz.prog.ifacesRec ·)))=true:=by kernel_rfl
theorem benchRefuses_f15:((Rows.benchRefusesRow.mapsOut == Tryz.prog.mapsAmong Tryz.f6.resultTypes.toList))=true:=by kernel_rfl
theorem benchRefuses_f16:((Rows.benchRefusesRow.loops == (Tryz.f6.params.toList++Rows.benchRefusesSpec.plain.varTypes Tryz.prog).any (Tryz.prog.loopsFrom ·)))=true:=by kernel_rfl
theorem benchRefuses_f17:((Rows.benchRefusesRow.wideKeys == (Tryz.f6.params.toList++Rows.benchRefusesSpec.plain.varTypes Tryz.prog++Tryz.f6.resultTypes.toList).any (Tryz.prog.wideKeysFrom ·)))=true:=by kernel_rfl
theorem benchRefuses_f18:(Rows.benchRefusesSpec.vars.all (Tryz.prog.varReadable ·))=true:=by kernel_rfl
theorem benchRefuses_f19:(Tryz.f6.resultTypes.all (fun t=>Tryz.prog.readableRec t && decide (t<Tryz.prog.types.size)))=true:=by kernel_rfl
theorem benchRefuses_f20:((Rows.benchRefusesRow.ifacesOut == Tryz.f6.resultTypes.toList.any (Tryz.prog.ifacesRec ·)))=true:=by kernel_rfl
theorem benchRefuses_f21:((Rows.benchRefusesRow.loopsOut == Tryz.f6.resultTypes.toList.any (Tryz.prog.loopsFrom ·)))=true:=by kernel_rfl
theorem benchRefuses_f22:((Rows.benchRefusesRow.plainKeys == Tryz.prog.plainKeys))=true:=by kernel_rfl
theorem benchRefuses_f23:(Rows.benchRefusesRow.shortTexts.isNone)=true:=by kernel_rfl
theorem benchRefuses_f24:(Tryz.prog.stopsHeard)=true:=by kernel_rfl
theorem benchRefuses_f25:(Tryz.prog.mayEnter)=true:=by kernel_rfl
theorem benchRefuses_f26:((Rows.benchRefusesRow.lifted == Tryz.prog.liftsFinal))=true:=by kernel_rfl
theorem benchRefuses_f27:((Tryz.prog.make == some Rows.benchRefusesRow.make))=true:=by kernel_rfl
theorem benchRefuses_f28:((Rows.benchRefusesRow.kinds == (if Rows.benchRefusesRow.domain.isEmpty then [] else Tryz.f6.params.toList.map fun t=>match Tryz.prog.underlying t with | some (.int k)=>some k | _=>none)))=true:=by kernel_rfl
theorem benchRefuses_f29:((Rows.benchRefusesRow.pinned == Rows.benchRefusesRow.pinnedBy))=true:=by kernel_rfl
theorem benchRefuses_f30:((Rows.benchRefusesRow.veiled == (Tryz.f6.params.toList++Rows.benchRefusesSpec.plain.varTypes Tryz.prog++Tryz.f6.resultTypes.toList).any (Tryz.prog.veiledRec ·)))=true:=by kernel_rfl
theorem benchRefuses_f31:(Rows.benchRefusesRow.veiledFits Tryz.prog Tryz.f6.params.toList (Tryz.f6.params.toList++Rows.benchRefusesSpec.plain.varTypes Tryz.prog++Tryz.f6.resultTypes.toList))=true:=by kernel_rfl
theorem benchRefuses_facts:joinedFacts Tryz.prog 6 Tryz.f6 Rows.benchRefusesSpec Rows.benchRefusesRow=true:=by
 unfold joinedFacts;exact bandI (bandI (bandI (bandI (bandI (bandI (bandI (bandI (bandI (bandI (bandI (bandI (bandI (bandI (bandI (bandI (bandI (bandI (bandI (bandI (bandI (bandI (bandI (bandI (bandI (bandI (bandI (bandI (bandI (bandI (bandI (benchRefuses_f0) benchRefuses_f1) benchRefuses_f2) benchRefuses_f3) benchRefuses_f4) benchRefuses_f5) benchRefuses_f6) benchRefuses_f7) benchRefuses_f8) benchRefuses_f9) benchRefuses_f10) benchRefuses_f11) benchRefuses_f12) benchRefuses_f13) benchRefuses_f14) benchRefuses_f15) benchRefuses_f16) benchRefuses_f17) benchRefuses_f18) benchRefuses_f19) benchRefuses_f20) benchRefuses_f21) benchRefuses_f22) benchRefuses_f23) benchRefuses_f24) benchRefuses_f25) benchRefuses_f26) benchRefuses_f27) benchRefuses_f28) benchRefuses_f29) benchRefuses_f30) benchRefuses_f31
theorem benchRefuses_named : Tryz.prog.funcNamed "tinker/tinkerlaw09.BenchRefuses" = some 6 := by kernel_rfl
theorem benchRefuses_row:Rows.BenchRefusesSaid:=
 OpenClaim.holds_of_wide 6 Tryz.f6 rfl rfl rfl rfl rfl rfl rfl ⟨rfl,rfl,rfl,rfl,rfl⟩ rfl rfl rfl rfl rfl benchRefuses_named Tryz.func6 benchRefuses_facts
  (of_decide_eq_true (by kernel_rfl)) (by unfold Func.isWrapper;first | (rw [if_pos (by decide +kernel)];kernel_rfl) | (rw [if_neg (by decide +kernel)];exact ⟨rfl,rfl⟩))
  (fun os started H enc _=>benchRefuses_lifted os started H enc)
theorem benchRefuses_wf:Rows.benchRefusesRow.wfByText (OpenSpec.ofChange Rows.benchRefusesSpec)=true:=by kernel_rfl
theorem benchRefuses_main:Tryz.pinned.checked.prog.mainIs=some (Rows.benchRefusesCard.stood.harness.1,Rows.benchRefusesCard.stood.harness.2.toList):=by kernel_rfl
theorem benchRefuses_goes:false=Rows.benchRefusesRow.goesBy Tryz.pinned.checked.prog:=by kernel_rfl
theorem benchRefuses_looks:true=Tryz.pinned.checked.prog.looks []:=by kernel_rfl
theorem benchRefuses_holds:Rows.BenchRefusesCardSaid:=
 Claim7.holds_tied_plain_at .later [] [.data,.data,.data,.data,.handle,.sentinel,.sentinel,.pinned] true Rows.benchRefusesCard.stood.harness true benchRefuses_row (fun _ h=>by cases h) benchRefuses_wf (fun _ h=>by cases h) benchRefuses_row_tie rfl ⟨rfl,rfl⟩ benchRefuses_main rfl
  (fun f fn hf hfn=>by
   obtain rfl:f=6:=Option.some.inj (benchRefuses_named.symm.trans hf) |>.symm;obtain rfl:fn=Tryz.f6:=(Option.some.inj (Tryz.func6.symm.trans hfn)).symm;exact ⟨benchRefuses_looks,fun j t ht=>by
    rw [Tryz.params6] at ht;have hm:t∈[22,23,9]:=by simpa using Array.mem_of_getElem? ht
    have hall:([22,23,9].all fun u=>!Tryz.prog.wantsStandIn u)=true:=by kernel_rfl
    exact (show Tryz.prog.wantsStandIn t=false by simpa using List.all_eq_true.1 hall t hm)⟩)
  benchRefuses_goes
end Go.Proofs.YtmeejlgnhfkeaaaGreatDoor
