/- Parts. -/
import Derived.Test.YtmeejlgnhfkeaaaGreatDoorR00
import Derived.Test.YtmeejlgnhfkeaaaGreatDoorRows
import Derived.ProofKit
import Derived.Lib.SmallJoins
import Derived.Deep.Slices
import Derived.Test.YtmeejlgnhfkeaaaGreatDoorR25
import Derived.Test.YtmeejlgnhfkeaaaGreatDoorTie
import Derived.HandedShaped
import Derived.LaidMore
import Derived.LaidHandle
import Derived.LaidLaws
import Derived.Lay
import Derived.Lib.LaidTab
import Derived.Stop.LaidErr
import Derived.OpenShut
import Derived.SevenTiedAt
import Derived.Stop.Joined
import Derived.Test.YtmeejlgnhfkeaaaGreatDoorR23
import Derived.ChangeMaps5
import Derived.SliceStrings
namespace Go.Proofs.YtmeejlgnhfkeaaaGreatDoor
open Go.ChangeShapes Go.WideShapes Go.ChangeAt Go.RowKit
set_option maxRecDepth 100000
variable {H:Type} {enc:TypeId × Value→H}
theorem zti {W:World} {fuel:Nat} {cs:List Value} {x:DataW H × List MemPlace} (h:DataW.trod enc Tryz.prog W 0 (fun _=>true) true fuel 57 cs=some x):∃ l:Ln,cs=encL l:=by
 obtain ⟨y0,y1,y2,y3,n,_,hl,h0,h1,h2,h3⟩:=Go.Joins.trod_struct4 Tryz.underlying57 h;have hc4:Tryz.prog.cellsOf 57=4:=by kernel_rfl
 have hc1:Tryz.prog.cellsOf 3=1:=by kernel_rfl
 rw [hc4] at hl
 match cs,hl with
 | [c0,c1,c2,c3],_=>
  obtain ⟨x0,e0,_,_⟩:=DataW.trod_int Tryz.underlying3 h0;obtain ⟨x1,e1,_,_⟩:=DataW.trod_int Tryz.underlying3 h1;obtain ⟨x2,e2,_,_⟩:=DataW.trod_int Tryz.underlying3 h2;obtain ⟨x3,e3,_,_⟩:=DataW.trod_int Tryz.underlying3 h3;simp [hc1] at e0 e1 e2 e3;subst e0 e1 e2 e3;exact ⟨⟨x0,x1,x2,x3⟩,rfl⟩
theorem arg_lines {W:World} {base:Nat} {v:Value} {d:DataW H} {p:List MemPlace} (hv:Value.okWide Tryz.prog W .any base 22 v) (h:DataW.Trod enc Tryz.prog W 0 (fun _=>true) true 22 v d p):∃ xs,LinesAt W v xs:=by
 obtain ⟨a0,len,cap,rfl⟩:=okWide_slice Tryz.underlying22 hv;obtain ⟨fuel,hf⟩:=h;rcases Go.Deep.open_slice Tryz.underlying22 hf with ⟨hcs,hx⟩ | ⟨a,len',cap',m,n,D,Pl,hcs,_,hl,hm,hmm,hx,hel⟩
 ·simp [Value.cells] at hcs;obtain ⟨rfl,rfl,rfl⟩:=hcs;exact ⟨[],SlcAt.nil _ _ _⟩
 ·simp [Value.cells] at hcs;obtain ⟨rfl,rfl,rfl⟩:=hcs;simp only [if_true] at hmm;subst hmm;have hc4:Tryz.prog.cellsOf 57=4:=by kernel_rfl
  rw [hc4] at hel;have hall:∀ i,∃ l:Ln,i<len→∀ j u,(encL l)[j]?=some u→W.cell? ((a.add (i * 4)).add j)=some u:=by
   intro i;by_cases hi:i<len
   ·obtain ⟨cs',hcs',ht⟩:=hel i (by omega)
    obtain ⟨l,rfl⟩:=zti ht;obtain ⟨_,_,hc⟩:=World.cells?_some hcs';refine ⟨l,fun _ j u hu=>?_⟩;rw [hc j (by have:=(List.getElem?_eq_some_iff.1 hu).1;simpa [encL] using this),hu]
   ·exact ⟨⟨0,0,0,0⟩,fun h=>absurd h hi⟩
  obtain ⟨f,hf'⟩:=Classical.axiomOfChoice hall;have hzl:((List.range len).map f).length=len:=by simp
  refine ⟨(List.range len).map f,some a,m,by rw [hzl],by rw [hzl];exact hl,by simpa [maxLen] using hm,?_⟩
  by_cases h0:len=0
  ·exact .inl ⟨by rw [h0];rfl,fun h=>by cases h⟩
  ·obtain ⟨b,off,spot⟩:=a;have hc0:=hf' 0 (by omega) 0 (.int .i64 (f 0).op) rfl
   have hs:spot=none:=by
    have:=World.cell?_spot hc0;simpa [Addr.add] using this
   subst hs;have hb:=World.block_lt_of_cell? _ _ hc0;simp [Addr.add] at hb;refine .inr ⟨b,off,rfl,hb,?_⟩;intro j x hj i u hu;have hjl:j<len:=by have:=(List.getElem?_eq_some_iff.1 hj).1;rw [hzl] at this;exact this
   have hx:f j=x:=by
    rw [List.getElem?_map,List.getElem?_range hjl] at hj;simpa using hj
   subst hx;have hc:=hf' j hjl i u hu;rw [Addr.add_lit,Addr.add_lit] at hc;exact hc
theorem zpw {H:Type} {enc:TypeId × Value→H} {a:Assume} {C:Checked} {os:Os} {f:FuncId} {fn:Func} {s:ChangeSpec} {conds:List PathCond} {apart fresh handsOn again:Bool} {X:World→Array Value→Prop}
  (hX:∀ (w w':World) (args:Array Value),w.heap=w'.heap→X w args→X w' args)
  (own:ownKnob C.prog.godebug=none) (started:os.Started) (noInit:C.prog.inits.idxOf? f=none) (hfn:C.prog.funcs[f]?=some fn)
  (witness:∃ (w:World) (tape:Tape) (i:Input),w.os=os∧(w.forCall tape i).Shaped C.prog∧i.vars=[]∧Input.okWide C.prog (w.forCall tape i) .any w.heap.size f i ∧
   ((s.pre enc C.prog fn conds apart (w.forCall tape i).memory i.args∧X (w.forCall tape i).memory i.args)∧sizedMet enc C.prog fn (OpenSpec.ofChange s) apart (w.forCall tape i).memory i.args)∧a.holds C.prog (lone (Frame.enter C.prog f i.args .normal) [] (w.forCall tape i)))
  (contract:∀ (W:World) (base:Nat) (args:Array Value) (ds gs:List (DataW H)) (before:List MemPlace),
   (∀ (j:Nat) t v,fn.params[j]?=some t→args[j]?=some v→Value.okWide C.prog W .any base t v) →
   DataW.Whole enc C.prog fn.params.toList s.vars apart W args.toList ds gs before →
   conds.all (PathCond.test C.prog ⟨fn.params.toList,ds,s.plain.varTypes C.prog,gs⟩)=true →
   (DataW.weightsEach C.prog (fn.params.toList++s.plain.varTypes C.prog) (ds++gs)).all (·≤reachBytes)=true→W.ShapedOpen C.prog→X W args →
   Calls C.prog f args W fun e W'=>∃ v,e=.returned v∧s.post enc C.prog fn apart fresh handsOn again W args v W') :
  ReturnsInHanded a C os f .any (fun w args=>(s.pre enc C.prog fn conds apart w args∧X w args)∧sizedMet enc C.prog fn (OpenSpec.ofChange s) apart w args) (s.post enc C.prog fn apart fresh handsOn again):=by
 refine returnsInHanded_of_calls own started noInit witness ?_;intro w tape i _ hsh _ hok hpre hholds;obtain ⟨_,_,_,fn',hfn',_,_,_,_,hval⟩:=hok;have e:fn'=fn:=Option.some.inj (hfn'.symm.trans hfn);subst e;obtain ⟨⟨⟨ds,gs,before,hw,hc⟩,hx⟩,hz⟩:=hpre;have hw':=DataW.Whole.of_heap (w':=w.forCall tape i) (by rfl) hw
 refine (contract (w.forCall tape i) w.heap.size i.args ds gs before hval hw' hc (hz.weights hw) hsh (hX _ _ _ (by rfl) hx)).mono fun e W' ⟨v,he,hp⟩=>?_
 subst he;exact ChangeSpec.post_blind hp
theorem Tryz.own9:ownKnob Tryz.prog.godebug=none:=by kernel_rfl
theorem Tryz.laidOut9:laidOutB Tryz.prog=true:=by kernel_rfl
def lk : List (String × DataW Unit) := [("math/bits.deBruijn32tab", Rows.laid_math_bits_deBruijn32tab), ("math/bits.deBruijn64tab", Rows.laid_math_bits_deBruijn64tab), ("internal/strconv.uint64pow10", Rows.laid_internal_strconv_uint64pow10), ("unicode/utf8.acceptRanges", Rows.laid_unicode_utf8_acceptRanges), ("errors.errorType", Rows.laid_errors_errorType), ("strconv.ErrRange", Rows.laid_strconv_ErrRange), ("strconv.ErrSyntax", Rows.laid_strconv_ErrSyntax), ("unicode/utf8.first", Rows.laid_unicode_utf8_first)]
def lkP : List (String × DataW Unit) := [("math/bits.deBruijn32tab", Rows.laid_math_bits_deBruijn32tab), ("math/bits.deBruijn64tab", Rows.laid_math_bits_deBruijn64tab), ("internal/strconv.uint64pow10", Rows.laid_internal_strconv_uint64pow10), ("unicode/utf8.acceptRanges", Rows.laid_unicode_utf8_acceptRanges), ("strconv.ErrRange", Rows.laid_strconv_ErrRange), ("strconv.ErrSyntax", Rows.laid_strconv_ErrSyntax), ("unicode/utf8.first", Rows.laid_unicode_utf8_first)]
theorem zzl:lk.filter (fun x=>x.2.handleName?.isNone)=lkP:=by rfl
theorem g_et : Tryz.prog.globalNamed "errors.errorType" = some 0 := by kernel_rfl
theorem g_rt : (Tryz.prog.cutTypes.find? (·.1 == "internal/reflectlite.rtype")).map (·.2) = some 208 := by kernel_rfl
theorem g_row:((List.range Tryz.prog.types.size).filter fun t=>Tryz.prog.rowNamed t [101,114,114,111,114])=[91]:=by kernel_rfl
theorem g_star : "*" ++ "errors.errorString" = "*errors.errorString" := by decide
theorem g_es (u : TypeId) (h : Tryz.prog.typeName? 3 u = some "*errors.errorString") : u = 304 :=
 typeName_ptr_named (nm := "errors.errorString") (by rw [g_star]; kernel_rfl) (by kernel_rfl) (by decide) u (by rw [g_star]; exact h)
theorem g_c1:Tryz.prog.cellsOf 306=1:=by kernel_rfl
theorem g_c2:Tryz.prog.cellsOf 9=1:=by kernel_rfl
theorem glob_of {W:World} (h:laidMetH Tryz.prog lk W) (hsh:W.ShapedOpen Tryz.prog):Glob W:=by
 have h' : laidMet Tryz.prog lkP W ∧ handlesMet Tryz.prog [("errors.errorType", Rows.laid_errors_errorType)] W := h
 obtain ⟨hp,hh⟩:=h';have ht:=hp.tail.tail;have hr:=ht.tail.tail;have hs:=hr.tail;refine ⟨?_,?_,?_,?_,?_⟩
 ·obtain ⟨name,u,ty,e1,e2,e3,e4,e5⟩:=hh _ (List.mem_singleton.2 rfl);have en:name=[101,114,114,111,114]:=(Option.some.inj e1).symm;subst en;obtain rfl:=Option.some.inj (g_rt.symm.trans e2);have hm:ty∈(List.range Tryz.prog.types.size).filter fun t=>Tryz.prog.rowNamed t [101,114,114,111,114]:=List.mem_filter.2 ⟨List.mem_range.2 e3,e4⟩;rw [g_row] at hm;obtain rfl:=List.mem_singleton.1 hm;have hth:typeHandle Tryz.prog 91=.pointer (some ⟨9,91,none⟩):=by kernel_rfl
  rw [hth] at e5;unfold ErrT;simpa using World.var?_cell g_et e5 0
 ·exact cell_of_shapedOpen_int (P:=Tryz.prog) (g:=1) (t:=3) (zero:=#[.int .i64 0]) hsh (of_decide_eq_true (by kernel_rfl)) (by kernel_rfl) rfl (by kernel_rfl) (by kernel_rfl) Tryz.underlying3
 ·obtain ⟨a,_,hv,_,_,_⟩:=laid_sentinel (g:=3) hs (by kernel_rfl) (by kernel_rfl) Tryz.underlying91 g_es Tryz.underlying304 Tryz.underlying306 rfl rfl Tryz.underlying9 g_c1 g_c2
  exact ⟨_,_,by simpa using World.var?_cell (g:=3) (by kernel_rfl) hv 0⟩
 ·obtain ⟨a,_,hv,_,_,_⟩:=laid_sentinel (g:=4) hr (by kernel_rfl) (by kernel_rfl) Tryz.underlying91 g_es Tryz.underlying304 Tryz.underlying306 rfl rfl Tryz.underlying9 g_c1 g_c2
  exact ⟨_,_,by simpa using World.var?_cell (g:=4) (by kernel_rfl) hv 0⟩
 ·exact Lib.tabIs_of_head (k:=.u64) (zs:=Lib.pow10Tab) (g:=2) (t:=271) (e:=240) (n:=20) (by kernel_rfl) (by kernel_rfl) Tryz.underlying271 Tryz.underlying240 (by kernel_rfl) (by kernel_rfl) ht
noncomputable def w9base (os:Os):World:=
 let w0:=World.holding Tryz.prog os ⟨#[],#[],[]⟩
 { w0 with heap:=w0.heap.modify 0 fun
   | .cells _ t frozen=>.cells #[.iface 208 (.agg #[.pointer (some ⟨9,91,none⟩)])] t frozen
   | o=>o }
noncomputable def w9 (os:Os):World:=(w9base os).layVars Tryz.prog lkP
theorem w9_os (os:Os):(w9 os).os=os:=by unfold w9;rw [World.layVars_os];rfl
theorem zpo:(lkP.filter fun x=>(lkP.map (·.1)).contains x.1)=lkP:=List.filter_eq_self.2 fun x hx=>List.contains_iff_mem.2 (List.mem_map.2 ⟨x,hx,rfl⟩)
theorem lkP_none:(lkP.filter fun x=>!(lkP.map (·.1)).contains x.1)=[]:=List.filter_eq_nil_iff.2 fun x hx=>by rw [List.contains_iff_mem.2 (List.mem_map.2 ⟨x,hx,rfl⟩)];simp
theorem w9_plain (os:Os) (args:Array Value):laidMet Tryz.prog lkP ((w9 os).forCall (fun _ _=>0) ⟨#[],args,[]⟩).memory:=by
 have h:laidMet Tryz.prog lkP (w9 os):=laidMet_layVars (w0:=w9base os) (lkP.map (·.1)) [] (by rw [zpo];rfl) (by rw [zpo];kernel_rfl) (by rw [zpo];kernel_rfl) (by rw [lkP_none];exact LaidIn.none)
 exact h.of_heap (by simp [World.memory,World.forCall,Input.heap])
theorem w9_met (os:Os) (args:Array Value):laidMetH Tryz.prog lk ((w9 os).forCall (fun _ _=>0) ⟨#[],args,[]⟩).memory:=
 laidMetH_of_parts3 (fuel:=8) (by rw [zzl];exact w9_plain os args) (by kernel_rfl) (by kernel_rfl)
set_option maxRecDepth 100000
variable {H:Type} {enc:TypeId × Value→H}
theorem arg_text {W:World} {base:Nat} {v:Value} {d:DataW H} {p:List MemPlace} (hv:Value.okWide Tryz.prog W .any base 9 v) (h:DataW.Trod enc Tryz.prog W 0 (fun _=>true) true 9 v d p):∃ s:ByteArray,v=.string s∧s.size≤maxLen:=by
 obtain ⟨s,h1,_,_,h2⟩:=Go.ChangeMaps.open_string Tryz.underlying9 hv h;exact ⟨s,h1,h2⟩
theorem zys {W:World} {base:Nat} {v:Value} {d:DataW H} {p:List MemPlace} (hv:Value.okWide Tryz.prog W .any base 23 v) (h:DataW.Trod enc Tryz.prog W 0 (fun _=>true) true 23 v d p):∃ xs,TextsAt W v xs:=by
 obtain ⟨a0,len,cap,rfl⟩:=okWide_slice Tryz.underlying23 hv;obtain ⟨fuel,hf⟩:=h;rcases open_strings Tryz.underlying23 Tryz.underlying9 (by kernel_rfl) hf with ⟨hcs,hx⟩ | ⟨a,len',cap',zs,hcs,hbb,hl,hm,hz,hx,hcell⟩
 ·simp [Value.cells] at hcs;obtain ⟨rfl,rfl,rfl⟩:=hcs;exact ⟨[],SlcAt.nil _ _ _⟩
 ·simp [Value.cells] at hcs;obtain ⟨rfl,rfl,rfl⟩:=hcs;simp only [if_true] at hz;have hzl:(zs.take len).length=len:=by rw [List.length_take];omega
  refine ⟨zs.take len,some a,cap,by rw [hzl],by rw [hzl];exact hl,by simpa [maxLen] using hm,?_⟩
  by_cases h0:len=0
  ·exact .inl ⟨by rw [h0];rfl,fun h=>by cases h⟩
  ·obtain ⟨b,off,spot⟩:=a;have hc0:=hcell.1 0 (by omega)
   have hs:spot=none:=by
    have:=World.cell?_spot hc0;simpa [Addr.add] using this
   subst hs;have hb:=World.block_lt_of_cell? _ _ hc0;simp only [Addr.add,if_true] at hb;refine .inr ⟨b,off,rfl,hb,?_⟩;intro j x hj i u hu;have hi:i=0:=by
    have:=(List.getElem?_eq_some_iff.1 hu).1;simp [encTx] at this;exact this
   subst hi;simp [encTx] at hu;subst hu;rw [List.getElem?_take] at hj
   split at hj
   ·next hjl=>
    have hc:=hcell.1 j (by omega)
    rw [List.getD_eq_getElem?_getD,hj,Option.getD_some] at hc;rw [Addr.add_lit] at hc;simpa using hc
   ·cases hj
end Go.Proofs.YtmeejlgnhfkeaaaGreatDoor
