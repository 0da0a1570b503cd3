
import Derived.Test.YtmeejlgnhfkeaaaGreatDoorR26
import Derived.Test.YtmeejlgnhfkeaaaGreatDoorR28
import Derived.Test.YtmeejlgnhfkeaaaGreatDoorR04
namespace Go.Proofs.YtmeejlgnhfkeaaaGreatDoor
open Go.RowKit Go.Proofs.Tryz
set_option maxRecDepth 100000
set_option maxHeartbeats 16000000
theorem zlt:∀ (xs:List Int) (lo hi:Int),xs.Pairwise (·<·)→(∀ k∈xs,lo≤k∧k<hi)→(xs.length:Int)≤max 0 (hi - lo)
 | [],_,_,_,_=>by simp;omega
 | x :: r,lo,hi,hp,h=>by
  have h1:=zlt r (x+1) hi (List.pairwise_cons.1 hp).2 (fun k hk=>⟨(List.pairwise_cons.1 hp).1 k hk,(h k (List.mem_cons_of_mem _ hk)).2⟩);have h2:=h x List.mem_cons_self;rw [List.length_cons];omega
theorem OkB.lk8 {s:Bn} (h:OkB s):s.lk.length≤8:=by
 have h1:=zlt s.lk 0 s.tests.length h.asc h.inr;have h2:=h.t8;omega
theorem ztv (xs:List Int) (x:Int):xs.countP (·<x)=rankI xs x:=by unfold rankI;rw [List.countP_eq_length_filter]
theorem rank_le (xs:List Int) (x:Int):rankI xs x≤xs.length:=List.length_filter_le _ _
theorem zxt (xs:List Int) (hs:xs.Pairwise (·<·)) (hl:xs.length<1000000) (v:Value) (w:World) (hv:IntsAt w v xs) (x:Int) (R:Ending→World→Prop)
  (hR:∀ w',Grow w w'→R (.returned (.tuple #[.int .i64 (rankI xs x:Nat),.bool (xs.contains x)])) w') :
  Calls Tryz.prog 167 #[v,.int .i64 x] w R:=by
 have hv':=hv;obtain ⟨a,c,rfl,h1,h2,h3⟩:=hv;rcases h3 with ⟨rfl,_⟩ | ⟨b,o,rfl,hb,hc⟩
 ·refine (Tryz.slices_BinarySearch_int_empty a c x w).mono ?_;rintro e w' ⟨rfl,rfl⟩;exact hR _ (Grow.refl _)
 ·refine (Tryz.slices_BinarySearch_int b o xs.length c xs x w (Nat.le_refl _) (by omega) (fun j hj=>?_) (by rw [List.take_of_length_le (Nat.le_refl _)];exact hs.imp (fun h=>by omega))).mono ?_
  ·obtain ⟨b',o',e,_,h9⟩:=zcu hv' (k:=j) (x:=xs.getD j 0) (by rw [List.getD_eq_getElem?_getD,List.getElem?_eq_getElem hj];rfl)
   injection e with e;injection e with e1 e2;subst e1 e2;exact h9
  ·rintro e w' ⟨rfl,q,rfl⟩;rw [List.take_of_length_le (Nat.le_refl _),ztv];exact hR _ ⟨rfl,rfl,rfl,Nat.le_refl _,fun _ _=>rfl⟩
theorem lock_any (H:Nat→Bool) (N:Nat) (n:Int) (s:Bn) (w:World) (h:SAt H N w s) (ok:OkB s) (R:Ending→World→Prop)
  (hR:∀ w',Chg N w w'→SAt H N w' (lockB s n).2→R (.returned (errV (lockB s n).1)) w') :
  Calls Tryz.prog 122 #[.pointer (some ⟨N,0,none⟩),.int .i64 n] w R:=by
 obtain ⟨V,hb,hs⟩:=h.blk;obtain ⟨c0,c1,c2,c3,c4,c5,c6⟩:=zas hb;have ht8:=ok.t8;have hlk8:s.lk.length<1000000:=by have:=ok.lk8;omega
 have hne:s.progs≠[]:=by intro e;have:=ok.len;rw [e] at this;simp at this
 have HNE:=jH hne;have HASC:=jH ok.asc;have HH:=jH h;have HB:=jH hb;have HS:=jH hs;have HR:=jH hR;have hNl:=lt_of_block hb;clear hR h hb hs ok hne;have hc:stCells V s=#[.slice V.pa s.progs.length V.pc,.slice V.ha s.hist.length V.hc,.slice V.ta s.tests.length V.tc,.slice V.la s.lk.length V.lc,.int .i64 s.fixes,.int .i64 s.checks,.slice V.oa s.orders.length V.oc]:=rfl
 go_enter func122,ntmps122
 by_cases hi0:n<0
 ·have hr:=HR.out w (zcn N w) (by unfold lockB;rw [if_pos (.inl hi0)];exact HH.out)
  unfold lockB at hr;rw [if_pos (.inl hi0)] at hr;have HF:=jH hr;have hi0z:decide (n<0)=true:=by rw [decide_eq_true_eq];exact hi0
  clear hr;go_wp2_with fail;exact HF.out
 have hi0z:decide (n<0)=false:=by rw [decide_eq_false_iff_not];exact hi0
 by_cases hil:(s.tests.length:Int)≤n
 ·have hr:=HR.out w (zcn N w) (by unfold lockB;rw [if_pos (.inr hil)];exact HH.out)
  unfold lockB at hr;rw [if_pos (.inr hil)] at hr;have HF:=jH hr;have hilz:decide (n≥(s.tests.length:Int))=true:=by rw [decide_eq_true_eq];exact hil
  clear hr;go_wp2_with fail;exact HF.out
 have hilz:decide (n≥(s.tests.length:Int))=false:=by rw [decide_eq_false_iff_not];exact hil
 have hv:lockB s n=if s.lk.contains n then (5,s) else if (failB s.prog s.tests).contains n then (8,s) else (0,{ s with lk:=s.lk.take (rankI s.lk n)++n :: s.lk.drop (rankI s.lk n) }):=by
  unfold lockB;rw [if_neg (by omega)]
 rw [hv] at HR;clear hv;go_wp2_with fail;refine zxt s.lk HASC.out hlk8 _ _ HS.out.lk.unhide n _ ?_;intro w1 hg1;obtain ⟨q,hq⟩:∃ q,s.lk.contains n=q:=⟨_,rfl⟩;obtain ⟨rk,hrk⟩:∃ q,rankI s.lk n=q:=⟨_,rfl⟩;have hrl:=rank_le s.lk n;rw [hrk] at hrl;rw [hq,hrk] at HR ⊢;have HRK:=jH hrk;have HG1:=jH hg1;clear hq hrk hg1 c0 c1 c2 c3 c4 c5 c6;cases q with
 | true=>
  rw [if_pos rfl] at HR;have HF:=jH (HR.out w1 (Chg.of_grow HG1.out) (HH.out.grow HG1.out));go_wp2_with fail;exact HF.out
 | false=>
  rw [if_neg (by decide)] at HR
  go_wp2_with fail;refine wp_region_held_drew (S:=fun X=>X.heap[N]?=some (.cells (stCells V s) 86 (0,0))∧Grow w X) (by kernel_rfl) ⟨((HG1.out.trans (Grow.refl w1).drew)).blk HB.out,HG1.out.trans (Grow.refl w1).drew⟩ (fun hH=>?_)
  refine tkA 0 (.pointer (some ⟨N,0,none⟩)) rfl ?_ hH ?_
  ·intro w9 hw9;go_simp
  try simp only [nrm]
  refine tkA 1 (.pointer (some ⟨N,0,none⟩)) rfl ?_ hH ?_
  ·intro w9 hw9;go_simp
  try simp only [nrm]
  refine tkA 2 (.agg #[.slice V.pa s.progs.length V.pc,.slice V.ha s.hist.length V.hc,.slice V.ta s.tests.length V.tc,.slice V.la s.lk.length V.lc,.int .i64 s.fixes,.int .i64 s.checks,.slice V.oa s.orders.length V.oc]) rfl ?_ hH ?_
  ·intro w9 hw9;obtain ⟨d0,d1,d2,d3,d4,d5,d6⟩:=zas hw9.1;go_simp
  try simp only [nrm]
  refine tkA 3 (.pointer (some ⟨N,0,none⟩)) rfl ?_ hH ?_
  ·intro w9 hw9;go_simp
  try simp only [nrm]
  refine tkA 4 (.pointer (some ⟨N,0,none⟩)) rfl ?_ hH ?_
  ·intro w9 hw9;go_simp
  try simp only [nrm]
  refine tkA 5 (.agg #[.slice V.pa s.progs.length V.pc,.slice V.ha s.hist.length V.hc,.slice V.ta s.tests.length V.tc,.slice V.la s.lk.length V.lc,.int .i64 s.fixes,.int .i64 s.checks,.slice V.oa s.orders.length V.oc]) rfl ?_ hH ?_
  ·intro w9 hw9;obtain ⟨d0,d1,d2,d3,d4,d5,d6⟩:=zas hw9.1;go_simp
  try simp only [nrm]
  refine tkA 8 (.int .i64 n) rfl ?_ hH ?_
  ·intro w9 hw9;go_simp
  try simp only [nrm]
  refine tk1 6 rfl fun K hK=>?_;go_simp;refine zcm H V s _ (HS.out.grow (hH.2.hid H)) HNE.out _ ?_;intro w2 pv hg1 hpv;go_wp2_with fail;have HP1:=jH hpv;obtain ⟨pa,pc,rfl,p1,p2,jk1⟩:=hpv;clear jk1;refine hK.out _ _ ⟨hg1.blk hH.1,hH.2.trans hg1⟩ ?_;clear hK K hH;intro hH;try simp only [nrm]
  refine tk1 7 rfl fun K hK=>?_;go_simp;refine zdl H s.prog _ V s _ HP1.out.unhide (HS.out.grow (hH.2.hid H)) _ ?_;intro w3 fv hg2 hfv;go_wp2_with fail;have HFV:=jH (hfv.slc zal);have hfl:=(hfv.slc zal).len_le;obtain ⟨fa,fc,rfl,_,_,jk2⟩:=hfv.slc zal;clear jk2 hfv;refine hK.out _ _ ⟨hg2.blk hH.1,hH.2.trans hg2⟩ ?_;clear hK K hH;intro hH;try simp only [nrm]
  refine tk1 9 rfl fun K hK=>?_;go_simp;refine zfd (failB s.prog s.tests) n _ _ HFV.out _ ?_;obtain ⟨q,hq⟩:∃ q,(failB s.prog s.tests).contains n=q:=⟨_,rfl⟩;rw [hq] at HR ⊢;clear hq;go_wp2_with fail;refine hK.out _ _ hH ?_;clear hK K hH;intro hH;try simp only [nrm]
  refine wpAnyH_done (by kernel_rfl) ?_ _
  have HB3:=jH hH.1;have HG3:=jH hH.2;obtain ⟨e0,e1,e2,e3,e4,e5,e6⟩:=zas hH.1;clear hH hg1 hg2 HFV hfl;cases q with
  | true=>
   rw [if_pos rfl] at HR;have HF:=jH (HR.out _ (Chg.of_grow HG3.out) (HH.out.grow HG3.out));go_wp2_with fail;exact HF.out
  | false=>
   rw [if_neg (by decide)] at HR
   go_wp2_with fail;refine zgw s.lk _ _ (HS.out.lk.grow (HG3.out.hid H)).unhide (by omega) _ ?_
   intro w4 k4 hg4 hk4;have hbs:=hk4;obtain ⟨ca,cc,rfl,q1,q2,jk1⟩:=zaa zal hk4;clear jk1 hbs;have HK4:=jH hk4;have HG34:=jH hg4;have HG4:=jH (HG3.out.trans hg4);have hb4:=hg4.blk HB3.out;clear hg4 hk4 e0 e1 e2 e3 e4 e5 e6;go_wp2_with fail;have HLIT:=jH (heap_alloc_new w4 (.cells #[.int .i64 n] 3));have HGL:=jH ((Grow.refl w4).alloc (.cells #[.int .i64 n] 3));refine insI_any s.lk rk n _ _ w3.heap.size w4.heap.size _ (HGL.out.owns HK4.out) hrl hlk8 rfl HLIT.out ?_ (Nat.le_trans HG34.out.sz HGL.out.sz) _ ?_
   ·intro g o n9 c9 e;injection e with e;have h9:=(HK4.out.lt g (by unfold Value.ownBlock;rw [e])).2
    omega
   intro w5 v5 hb5 hnw hin;have hg35:Grow w3 w5:=Below.trans (show Below w3.heap.size w3 _ from Grow.trans HG34.out HGL.out) hb5;have hg5:=HG3.out.trans hg35;have hin9:=hin;obtain ⟨ia,ic,rfl,i1,i2,jk5⟩:=hin9;have hil9:(s.lk.take rk++n :: s.lk.drop rk).length=s.lk.length+1:=by simp;omega
   rw [hil9];clear jk5 i1;have hb7:=hg35.blk HB3.out;obtain ⟨d0,d1,d2,d3,d4,d5,d6⟩:=zas hb7;have z3:=zac hb7 3;have hb9:=zau hb7 3 (.slice ia (s.lk.length+1) ic);have hc9:Chg N w (w5.setCell ⟨N,3,none⟩ (.slice ia (s.lk.length+1) ic)):=(Chg.of_grow hg5).setCell 3 _;have hh9:hideW H (w5.setCell ⟨N,3,none⟩ (.slice ia (s.lk.length+1) ic))=hideW H w5:=zak (a:=⟨N,3,none⟩) HH.out.hid.hH _;have hs9:=HS.out.grow (hg5.hid H);rw [hc] at hb9;simp only [List.setIfInBounds_toArray,List.set_cons_zero,List.set_cons_succ] at hb9;have hst:StAt (hideW H (w5.setCell ⟨N,3,none⟩ (.slice ia (s.lk.length+1) ic))) { V with la:=ia,lc:=ic } { s with lk:=s.lk.take rk++n :: s.lk.drop rk }:=by
    rw [hh9];refine ⟨hs9.pr,hs9.hi,hs9.ts,?_,hs9.od⟩;dsimp only;rw [hil9] at hin ⊢;exact SlcAt.hide_new hin (by rw [hil9] at hnw;exact hnw) (fun b hb=>HH.out.hid.new b (by have:=HG3.out.sz;omega))
   have hr:=HR.out _ hc9 (HH.out.of_chg hc9 (V':={ V with la:=ia,lc:=ic }) (by rw [hb9];unfold stCells;dsimp only;rw [hil9]) hst)
   rw [show errV 0=Value.nilIface from rfl] at hr;have HF:=jH hr;clear hr hst hb9 hc9 hh9 hs9 hin hnw hb5 hg5 hg35 hil9;go_wp2_with fail;exact HF.out
end Go.Proofs.YtmeejlgnhfkeaaaGreatDoor
