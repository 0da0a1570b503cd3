/-
The statement BenchBooks: the bench that a book makes, for all programs and texts. No condition but the laid variables, which the card ties.
-/
import Derived.Test.YtmeejlgnhfkeaaaGreatDoorQ51
import Derived.Test.YtmeejlgnhfkeaaaGreatDoorQ50
import Derived.Test.YtmeejlgnhfkeaaaGreatDoorCards
import Derived.Lib.SmallJoins
namespace Go.Proofs.YtmeejlgnhfkeaaaGreatDoor
open Go.ChangeShapes Go.WideShapes Go.ChangeAt Go.RowKit
set_option maxRecDepth 100000
set_option maxHeartbeats 4000000
theorem benchBooks_lifted (os:Os) (started:os.Started) (H:Type) (enc:TypeId × Value→H) :
  ReturnsInHanded {} Tryz.checked os 5 .any (fun w args=>(Rows.benchBooksSpec.pre enc Tryz.prog Tryz.f5 [] false w args∧laidMetH Tryz.prog Rows.benchBooksRow.laid w)∧sizedMet enc Tryz.prog Tryz.f5 (OpenSpec.ofChange Rows.benchBooksSpec) false w args)
   (Rows.benchBooksSpec.post enc Tryz.prog Tryz.f5 false true false false):=by
 have hlk:Rows.benchBooksRow.laid=lk:=rfl;rw [hlk];refine zgx (C:=Tryz.checked) (X:=fun w _=>laidMetH Tryz.prog lk w) (fun _ _ _ hh h=>h.of_heap hh) Tryz.own9 started (by kernel_rfl) Tryz.func5
  (ChangeSpec.witness_shaped (enc:=enc) (C:=Tryz.checked) (os:=os) (X:=fun w _=>laidMetH Tryz.prog lk w) false (w9 os) #[.slice none 0 0,.string ByteArray.empty] 8 (w9_os os) (World.shaped_of_ZipB (by kernel_rfl) (by kernel_rfl)) (by kernel_rfl) (by kernel_rfl) (by kernel_rfl) (zxe os _)) ?_
 intro W base args ds gs before hval0 hW hcnd _ hsh hL;have hval:∀ (j:Nat) t v,Tryz.f5.params[j]?=some t→args[j]?=some v→Value.okWide Tryz.prog W .any base t v:=hval0;have hW':=hW;obtain ⟨p,q,hA0,hV,rfl,hfz,hnd⟩:=hW;have hA:DataW.TrodAll enc Tryz.prog W 0 (fun _=>true) true Tryz.f5.params.toList args.toList ds p:=hA0;rw [Tryz.params5] at hA hval;obtain ⟨v0,v1,d0,d1,p0,p1,rfl,rfl,rfl,h0,h1⟩:=trodAll_two hA;obtain ⟨rfl,rfl⟩:=trodVars_none hV;have hk0:=h0;have hk1:=h1;obtain ⟨x0,hx0⟩:=zjl (hval 0 22 v0 rfl rfl) h0;obtain ⟨x1,rfl,hx1⟩:=arg_text (hval 1 9 v1 rfl rfl) h1;have hG:=zql hL hsh;clear hA0 hval0;refine Calls.mono (zlu x0 x1 W v0 hG hx0 (fun e W'=>e=.returned (.bool true)∧Grow W W') (fun W' hg=>⟨rfl,hg⟩)) fun e W' ⟨he,hB⟩=>?_;subst he;have hlt0:∀ x∈p0,x.block<W.heap.size:=fun x hx=>hW'.lt x (List.mem_append_left _ (List.mem_append_left _ (hx)));have ht0:=Below.trod Tryz.laidOut9 (by kernel_rfl) (of_decide_eq_true (by kernel_rfl)) hk0 hB hlt0
 have hlt1:∀ x∈p1,x.block<W.heap.size:=fun x hx=>hW'.lt x (List.mem_append_left _ (List.mem_append_right _ hx));have ht1:=Below.trod Tryz.laidOut9 (by kernel_rfl) (of_decide_eq_true (by kernel_rfl)) hk1 hB hlt1
 exact ⟨_,rfl,_,_,_,[],_,[],hW',trodAll_mk1 (shut_bool Tryz.underlying4 true),trodAll_mk2 ht0 ht1,rfl,hB.frame _,fun h=>by cases h⟩
/-! ### The row's closed facts,one by one (the kernel has no room for all of them in one declaration) -/
theorem bandI {a b:Bool} (ha:a=true) (hb:b=true):(a && b)=true:=by rw [ha,hb];rfl
theorem benchBooks_f0:(Rows.benchBooksRow.wf (OpenSpec.ofChange Rows.benchBooksSpec))=true:=by kernel_rfl
theorem benchBooks_f1:(laidOutB Tryz.prog)=true:=by kernel_rfl
theorem benchBooks_f2:(mapsRowed Tryz.prog)=true:=by kernel_rfl
theorem benchBooks_f3:(Tryz.f5.params.all (Tryz.prog.readableRec ·))=true:=by kernel_rfl
theorem benchBooks_f4:(namedTie Tryz.prog Rows.benchBooksRow.named Rows.benchBooksSpec.vars)=true:=by kernel_rfl
theorem benchBooks_f5:((Rows.benchBooksRow.stops == []))=true:=by kernel_rfl
theorem benchBooks_f6:((Tryz.prog.stops == []))=true:=by kernel_rfl
theorem benchBooks_f7:((Rows.benchBooksRow.knobs == []))=true:=by kernel_rfl
theorem benchBooks_f8:((Tryz.prog.stopKnobs == []))=true:=by kernel_rfl
theorem benchBooks_f9:((Rows.benchBooksRow.inPlace == Tryz.prog.inPlace 5))=true:=by kernel_rfl
theorem benchBooks_f10:((Rows.benchBooksRow.unfollowed == Tryz.prog.unfollowed 5))=true:=by kernel_rfl
theorem benchBooks_f11:((Rows.benchBooksRow.recurses == Tryz.prog.recurses 5))=true:=by kernel_rfl
theorem benchBooks_f12:((Rows.benchBooksRow.named == Tryz.prog.varsNamed 5))=true:=by kernel_rfl
theorem benchBooks_f13:((Rows.benchBooksRow.maps == (Tryz.f5.params.toList++Rows.benchBooksSpec.plain.varTypes Tryz.prog).any (Tryz.prog.mapsRec ·)))=true:=by kernel_rfl
theorem benchBooks_f14:((Rows.benchBooksRow.ifaces == (Tryz.f5.params.toList++Rows.benchBooksSpec.plain.varTypes Tryz.prog).any (Tryz.prog.ifacesRec ·)))=true:=by kernel_rfl
theorem benchBooks_f15:((Rows.benchBooksRow.mapsOut == Tryz.prog.mapsAmong Tryz.f5.resultTypes.toList))=true:=by kernel_rfl
theorem benchBooks_f16:((Rows.benchBooksRow.loops == (Tryz.f5.params.toList++Rows.benchBooksSpec.plain.varTypes Tryz.prog).any (Tryz.prog.loopsFrom ·)))=true:=by kernel_rfl
theorem benchBooks_f17:((Rows.benchBooksRow.wideKeys == (Tryz.f5.params.toList++Rows.benchBooksSpec.plain.varTypes Tryz.prog++Tryz.f5.resultTypes.toList).any (Tryz.prog.wideKeysFrom ·)))=true:=by kernel_rfl
theorem benchBooks_f18:(Rows.benchBooksSpec.vars.all (Tryz.prog.varReadable ·))=true:=by kernel_rfl
theorem benchBooks_f19:(Tryz.f5.resultTypes.all (fun t=>Tryz.prog.readableRec t && decide (t<Tryz.prog.types.size)))=true:=by kernel_rfl
theorem benchBooks_f20:((Rows.benchBooksRow.ifacesOut == Tryz.f5.resultTypes.toList.any (Tryz.prog.ifacesRec ·)))=true:=by kernel_rfl
theorem benchBooks_f21:((Rows.benchBooksRow.loopsOut == Tryz.f5.resultTypes.toList.any (Tryz.prog.loopsFrom ·)))=true:=by kernel_rfl
theorem benchBooks_f22:((Rows.benchBooksRow.plainKeys == Tryz.prog.plainKeys))=true:=by kernel_rfl
theorem benchBooks_f23:(Rows.benchBooksRow.shortTexts.isNone)=true:=by kernel_rfl
theorem benchBooks_f24:(Tryz.prog.stopsHeard)=true:=by kernel_rfl
theorem benchBooks_f25:(Tryz.prog.mayEnter)=true:=by kernel_rfl
theorem benchBooks_f26:((Rows.benchBooksRow.lifted == Tryz.prog.liftsFinal))=true:=by kernel_rfl
theorem benchBooks_f27:((Tryz.prog.make == some Rows.benchBooksRow.make))=true:=by kernel_rfl
theorem benchBooks_f28:((Rows.benchBooksRow.kinds == (if Rows.benchBooksRow.domain.isEmpty then [] else Tryz.f5.params.toList.map fun t=>match Tryz.prog.underlying t with | some (.int k)=>some k | _=>none)))=true:=by kernel_rfl
theorem benchBooks_f29:((Rows.benchBooksRow.pinned == Rows.benchBooksRow.pinnedBy))=true:=by kernel_rfl
theorem benchBooks_f30:((Rows.benchBooksRow.veiled == (Tryz.f5.params.toList++Rows.benchBooksSpec.plain.varTypes Tryz.prog++Tryz.f5.resultTypes.toList).any (Tryz.prog.veiledRec ·)))=true:=by kernel_rfl
theorem benchBooks_f31:(Rows.benchBooksRow.veiledFits Tryz.prog Tryz.f5.params.toList (Tryz.f5.params.toList++Rows.benchBooksSpec.plain.varTypes Tryz.prog++Tryz.f5.resultTypes.toList))=true:=by kernel_rfl
theorem benchBooks_facts:joinedFacts Tryz.prog 5 Tryz.f5 Rows.benchBooksSpec Rows.benchBooksRow=true:=by
 unfold joinedFacts;exact bandI (bandI (bandI (bandI (bandI (bandI (bandI (bandI (bandI (bandI (bandI (bandI (bandI (bandI (bandI (bandI (bandI (bandI (bandI (bandI (bandI (bandI (bandI (bandI (bandI (bandI (bandI (bandI (bandI (bandI (bandI (benchBooks_f0) benchBooks_f1) benchBooks_f2) benchBooks_f3) benchBooks_f4) benchBooks_f5) benchBooks_f6) benchBooks_f7) benchBooks_f8) benchBooks_f9) benchBooks_f10) benchBooks_f11) benchBooks_f12) benchBooks_f13) benchBooks_f14) benchBooks_f15) benchBooks_f16) benchBooks_f17) benchBooks_f18) benchBooks_f19) benchBooks_f20) benchBooks_f21) benchBooks_f22) benchBooks_f23) benchBooks_f24) benchBooks_f25) benchBooks_f26) benchBooks_f27) benchBooks_f28) benchBooks_f29) benchBooks_f30) benchBooks_f31
theorem benchBooks_named : Tryz.prog.funcNamed "tinker/tinkerlaw09.BenchBooks" = some 5 := by kernel_rfl
theorem benchBooks_row:Rows.BenchBooksSaid:=
 OpenClaim.holds_of_wide 5 Tryz.f5 rfl rfl rfl rfl rfl rfl rfl ⟨rfl,rfl,rfl,rfl,rfl⟩ rfl rfl rfl rfl rfl benchBooks_named Tryz.func5 benchBooks_facts
  (of_decide_eq_true (by kernel_rfl)) (by unfold Func.isWrapper;first | (rw [if_pos (by decide +kernel)];kernel_rfl) | (rw [if_neg (by decide +kernel)];exact ⟨rfl,rfl⟩))
  (fun os started H enc _=>benchBooks_lifted os started H enc)
theorem benchBooks_wf:Rows.benchBooksRow.wfByText (OpenSpec.ofChange Rows.benchBooksSpec)=true:=by kernel_rfl
theorem benchBooks_main:Tryz.pinned.checked.prog.mainIs=some (Rows.benchBooksCard.stood.harness.1,Rows.benchBooksCard.stood.harness.2.toList):=by kernel_rfl
theorem benchBooks_goes:false=Rows.benchBooksRow.goesBy Tryz.pinned.checked.prog:=by kernel_rfl
theorem benchBooks_looks:true=Tryz.pinned.checked.prog.looks []:=by kernel_rfl
theorem benchBooks_holds:Rows.BenchBooksCardSaid:=
 Claim7.holds_tied_plain_at .later [] [.data,.data,.data,.data,.handle,.sentinel,.sentinel,.pinned] true Rows.benchBooksCard.stood.harness true benchBooks_row (fun _ h=>by cases h) benchBooks_wf (fun _ h=>by cases h) benchBooks_row_tie rfl ⟨rfl,rfl⟩ benchBooks_main rfl
  (fun f fn hf hfn=>by
   obtain rfl:f=5:=Option.some.inj (benchBooks_named.symm.trans hf) |>.symm;obtain rfl:fn=Tryz.f5:=(Option.some.inj (Tryz.func5.symm.trans hfn)).symm;exact ⟨benchBooks_looks,fun j t ht=>by
    rw [Tryz.params5] at ht;have hm:t∈[22,9]:=by simpa using Array.mem_of_getElem? ht
    have hall:([22,9].all fun u=>!Tryz.prog.wantsStandIn u)=true:=by kernel_rfl
    exact (show Tryz.prog.wantsStandIn t=false by simpa using List.all_eq_true.1 hall t hm)⟩)
  benchBooks_goes
end Go.Proofs.YtmeejlgnhfkeaaaGreatDoor
