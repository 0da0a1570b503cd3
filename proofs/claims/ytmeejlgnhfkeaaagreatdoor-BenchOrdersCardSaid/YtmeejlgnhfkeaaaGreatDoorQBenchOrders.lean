/-
The statement BenchOrders: the answers to orders and all that there is behind each, for all programs and orders. No condition but the laid variables, which the card ties.
-/
import Derived.Test.YtmeejlgnhfkeaaaGreatDoorQ52
import Derived.Test.YtmeejlgnhfkeaaaGreatDoorQ50
import Derived.Test.YtmeejlgnhfkeaaaGreatDoorCards
import Derived.Lib.SmallJoins
namespace Go.Proofs.YtmeejlgnhfkeaaaGreatDoor
open Go.ChangeShapes Go.WideShapes Go.ChangeAt Go.RowKit
set_option maxRecDepth 100000
set_option maxHeartbeats 4000000
theorem benchOrders_lifted (os:Os) (started:os.Started) (H:Type) (enc:TypeId × Value→H) :
  ReturnsInHanded {} Tryz.checked os 3 .any (fun w args=>(Rows.benchOrdersSpec.pre enc Tryz.prog Tryz.f3 [] false w args∧laidMetH Tryz.prog Rows.benchOrdersRow.laid w)∧sizedMet enc Tryz.prog Tryz.f3 (OpenSpec.ofChange Rows.benchOrdersSpec) false w args)
   (Rows.benchOrdersSpec.post enc Tryz.prog Tryz.f3 false true false false):=by
 have hlk:Rows.benchOrdersRow.laid=lk:=rfl;rw [hlk];refine zgx (C:=Tryz.checked) (X:=fun w _=>laidMetH Tryz.prog lk w) (fun _ _ _ hh h=>h.of_heap hh) Tryz.own9 started (by kernel_rfl) Tryz.func3
  (ChangeSpec.witness_shaped (enc:=enc) (C:=Tryz.checked) (os:=os) (X:=fun w _=>laidMetH Tryz.prog lk w) false (w9 os) #[.slice none 0 0,.slice none 0 0] 8 (w9_os os) (World.shaped_of_ZipB (by kernel_rfl) (by kernel_rfl)) (by kernel_rfl) (by kernel_rfl) (by kernel_rfl) (zxe os _)) ?_
 intro W base args ds gs before hval0 hW hcnd _ hsh hL;have hval:∀ (j:Nat) t v,Tryz.f3.params[j]?=some t→args[j]?=some v→Value.okWide Tryz.prog W .any base t v:=hval0;have hW':=hW;obtain ⟨p,q,hA0,hV,rfl,hfz,hnd⟩:=hW;have hA:DataW.TrodAll enc Tryz.prog W 0 (fun _=>true) true Tryz.f3.params.toList args.toList ds p:=hA0;rw [Tryz.params3] at hA hval;obtain ⟨v0,v1,d0,d1,p0,p1,rfl,rfl,rfl,h0,h1⟩:=trodAll_two hA;obtain ⟨rfl,rfl⟩:=trodVars_none hV;have hk0:=h0;have hk1:=h1;obtain ⟨x0,hx0⟩:=zjl (hval 0 22 v0 rfl rfl) h0;obtain ⟨x1,hx1⟩:=zoy (hval 1 23 v1 rfl rfl) h1;have hG:=zql hL hsh;clear hA0 hval0;refine Calls.mono (zkg x0 x1 W v0 v1 hG hx0 hx1 (fun e W'=>e=.returned (.bool true)∧Grow W W') (fun W' hg=>⟨rfl,hg⟩)) fun e W' ⟨he,hB⟩=>?_;subst he;have hlt0:∀ x∈p0,x.block<W.heap.size:=fun x hx=>hW'.lt x (List.mem_append_left _ (List.mem_append_left _ (hx)));have ht0:=Below.trod Tryz.laidOut9 (by kernel_rfl) (of_decide_eq_true (by kernel_rfl)) hk0 hB hlt0
 have hlt1:∀ x∈p1,x.block<W.heap.size:=fun x hx=>hW'.lt x (List.mem_append_left _ (List.mem_append_right _ hx));have ht1:=Below.trod Tryz.laidOut9 (by kernel_rfl) (of_decide_eq_true (by kernel_rfl)) hk1 hB hlt1
 exact ⟨_,rfl,_,_,_,[],_,[],hW',trodAll_mk1 (shut_bool Tryz.underlying4 true),trodAll_mk2 ht0 ht1,rfl,hB.frame _,fun h=>by cases h⟩
/-! ### The row's closed facts,one by one (the kernel has no room for all of them in one declaration) -/
theorem bandI {a b:Bool} (ha:a=true) (hb:b=true):(a && b)=true:=by rw [ha,hb];rfl
theorem benchOrders_f0:(Rows.benchOrdersRow.wf (OpenSpec.ofChange Rows.benchOrdersSpec))=true:=by kernel_rfl
theorem benchOrders_f1:(laidOutB Tryz.prog)=true:=by kernel_rfl
theorem benchOrders_f2:(mapsRowed Tryz.prog)=true:=by kernel_rfl
theorem benchOrders_f3:(Tryz.f3.params.all (Tryz.prog.readableRec ·))=true:=by kernel_rfl
theorem benchOrders_f4:(namedTie Tryz.prog Rows.benchOrdersRow.named Rows.benchOrdersSpec.vars)=true:=by kernel_rfl
theorem benchOrders_f5:((Rows.benchOrdersRow.stops == []))=true:=by kernel_rfl
theorem benchOrders_f6:((Tryz.prog.stops == []))=true:=by kernel_rfl
theorem benchOrders_f7:((Rows.benchOrdersRow.knobs == []))=true:=by kernel_rfl
theorem benchOrders_f8:((Tryz.prog.stopKnobs == []))=true:=by kernel_rfl
theorem benchOrders_f9:((Rows.benchOrdersRow.inPlace == Tryz.prog.inPlace 3))=true:=by kernel_rfl
theorem benchOrders_f10:((Rows.benchOrdersRow.unfollowed == Tryz.prog.unfollowed 3))=true:=by kernel_rfl
theorem benchOrders_f11:((Rows.benchOrdersRow.recurses == Tryz.prog.recurses 3))=true:=by kernel_rfl
theorem benchOrders_f12:((Rows.benchOrdersRow.named == Tryz.prog.varsNamed 3))=true:=by kernel_rfl
theorem benchOrders_f13:((Rows.benchOrdersRow.maps == (Tryz.f3.params.toList++Rows.benchOrdersSpec.plain.varTypes Tryz.prog).any (Tryz.prog.mapsRec ·)))=true:=by kernel_rfl
theorem benchOrders_f14:((Rows.benchOrdersRow.ifaces == (Tryz.f3.params.toList++Rows.benchOrdersSpec.plain.varTypes Tryz.prog).any (Tryz.prog.ifacesRec ·)))=true:=by kernel_rfl
theorem benchOrders_f15:((Rows.benchOrdersRow.mapsOut == Tryz.prog.mapsAmong Tryz.f3.resultTypes.toList))=true:=by kernel_rfl
theorem benchOrders_f16:((Rows.benchOrdersRow.loops == (Tryz.f3.params.toList++Rows.benchOrdersSpec.plain.varTypes Tryz.prog).any (Tryz.prog.loopsFrom ·)))=true:=by kernel_rfl
theorem benchOrders_f17:((Rows.benchOrdersRow.wideKeys == (Tryz.f3.params.toList++Rows.benchOrdersSpec.plain.varTypes Tryz.prog++Tryz.f3.resultTypes.toList).any (Tryz.prog.wideKeysFrom ·)))=true:=by kernel_rfl
theorem benchOrders_f18:(Rows.benchOrdersSpec.vars.all (Tryz.prog.varReadable ·))=true:=by kernel_rfl
theorem benchOrders_f19:(Tryz.f3.resultTypes.all (fun t=>Tryz.prog.readableRec t && decide (t<Tryz.prog.types.size)))=true:=by kernel_rfl
theorem benchOrders_f20:((Rows.benchOrdersRow.ifacesOut == Tryz.f3.resultTypes.toList.any (Tryz.prog.ifacesRec ·)))=true:=by kernel_rfl
theorem benchOrders_f21:((Rows.benchOrdersRow.loopsOut == Tryz.f3.resultTypes.toList.any (Tryz.prog.loopsFrom ·)))=true:=by kernel_rfl
theorem benchOrders_f22:((Rows.benchOrdersRow.plainKeys == Tryz.prog.plainKeys))=true:=by kernel_rfl
theorem benchOrders_f23:(Rows.benchOrdersRow.shortTexts.isNone)=true:=by kernel_rfl
theorem benchOrders_f24:(Tryz.prog.stopsHeard)=true:=by kernel_rfl
theorem benchOrders_f25:(Tryz.prog.mayEnter)=true:=by kernel_rfl
theorem benchOrders_f26:((Rows.benchOrdersRow.lifted == Tryz.prog.liftsFinal))=true:=by kernel_rfl
theorem benchOrders_f27:((Tryz.prog.make == some Rows.benchOrdersRow.make))=true:=by kernel_rfl
theorem benchOrders_f28:((Rows.benchOrdersRow.kinds == (if Rows.benchOrdersRow.domain.isEmpty then [] else Tryz.f3.params.toList.map fun t=>match Tryz.prog.underlying t with | some (.int k)=>some k | _=>none)))=true:=by kernel_rfl
theorem benchOrders_f29:((Rows.benchOrdersRow.pinned == Rows.benchOrdersRow.pinnedBy))=true:=by kernel_rfl
theorem benchOrders_f30:((Rows.benchOrdersRow.veiled == (Tryz.f3.params.toList++Rows.benchOrdersSpec.plain.varTypes Tryz.prog++Tryz.f3.resultTypes.toList).any (Tryz.prog.veiledRec ·)))=true:=by kernel_rfl
theorem benchOrders_f31:(Rows.benchOrdersRow.veiledFits Tryz.prog Tryz.f3.params.toList (Tryz.f3.params.toList++Rows.benchOrdersSpec.plain.varTypes Tryz.prog++Tryz.f3.resultTypes.toList))=true:=by kernel_rfl
theorem benchOrders_facts:joinedFacts Tryz.prog 3 Tryz.f3 Rows.benchOrdersSpec Rows.benchOrdersRow=true:=by
 unfold joinedFacts;exact bandI (bandI (bandI (bandI (bandI (bandI (bandI (bandI (bandI (bandI (bandI (bandI (bandI (bandI (bandI (bandI (bandI (bandI (bandI (bandI (bandI (bandI (bandI (bandI (bandI (bandI (bandI (bandI (bandI (bandI (bandI (benchOrders_f0) benchOrders_f1) benchOrders_f2) benchOrders_f3) benchOrders_f4) benchOrders_f5) benchOrders_f6) benchOrders_f7) benchOrders_f8) benchOrders_f9) benchOrders_f10) benchOrders_f11) benchOrders_f12) benchOrders_f13) benchOrders_f14) benchOrders_f15) benchOrders_f16) benchOrders_f17) benchOrders_f18) benchOrders_f19) benchOrders_f20) benchOrders_f21) benchOrders_f22) benchOrders_f23) benchOrders_f24) benchOrders_f25) benchOrders_f26) benchOrders_f27) benchOrders_f28) benchOrders_f29) benchOrders_f30) benchOrders_f31
theorem benchOrders_named : Tryz.prog.funcNamed "tinker/tinkerlaw09.BenchOrders" = some 3 := by kernel_rfl
theorem benchOrders_row:Rows.BenchOrdersSaid:=
 OpenClaim.holds_of_wide 3 Tryz.f3 rfl rfl rfl rfl rfl rfl rfl ⟨rfl,rfl,rfl,rfl,rfl⟩ rfl rfl rfl rfl rfl benchOrders_named Tryz.func3 benchOrders_facts
  (of_decide_eq_true (by kernel_rfl)) (by unfold Func.isWrapper;first | (rw [if_pos (by decide +kernel)];kernel_rfl) | (rw [if_neg (by decide +kernel)];exact ⟨rfl,rfl⟩))
  (fun os started H enc _=>benchOrders_lifted os started H enc)
theorem benchOrders_wf:Rows.benchOrdersRow.wfByText (OpenSpec.ofChange Rows.benchOrdersSpec)=true:=by kernel_rfl
theorem benchOrders_main:Tryz.pinned.checked.prog.mainIs=some (Rows.benchOrdersCard.stood.harness.1,Rows.benchOrdersCard.stood.harness.2.toList):=by kernel_rfl
theorem benchOrders_goes:false=Rows.benchOrdersRow.goesBy Tryz.pinned.checked.prog:=by kernel_rfl
theorem benchOrders_looks:true=Tryz.pinned.checked.prog.looks []:=by kernel_rfl
theorem benchOrders_holds:Rows.BenchOrdersCardSaid:=
 Claim7.holds_tied_plain_at .later [] [.data,.data,.data,.data,.handle,.sentinel,.sentinel,.pinned] true Rows.benchOrdersCard.stood.harness true benchOrders_row (fun _ h=>by cases h) benchOrders_wf (fun _ h=>by cases h) benchOrders_row_tie rfl ⟨rfl,rfl⟩ benchOrders_main rfl
  (fun f fn hf hfn=>by
   obtain rfl:f=3:=Option.some.inj (benchOrders_named.symm.trans hf) |>.symm;obtain rfl:fn=Tryz.f3:=(Option.some.inj (Tryz.func3.symm.trans hfn)).symm;exact ⟨benchOrders_looks,fun j t ht=>by
    rw [Tryz.params3] at ht;have hm:t∈[22,23]:=by simpa using Array.mem_of_getElem? ht
    have hall:([22,23].all fun u=>!Tryz.prog.wantsStandIn u)=true:=by kernel_rfl
    exact (show Tryz.prog.wantsStandIn t=false by simpa using List.all_eq_true.1 hall t hm)⟩)
  benchOrders_goes
end Go.Proofs.YtmeejlgnhfkeaaaGreatDoor
