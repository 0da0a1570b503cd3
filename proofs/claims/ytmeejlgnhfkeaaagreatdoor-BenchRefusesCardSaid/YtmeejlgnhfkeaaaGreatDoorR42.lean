/- Parts. -/
import Derived.Test.YtmeejlgnhfkeaaaGreatDoorR35
import Derived.Test.YtmeejlgnhfkeaaaGreatDoorR39
import Derived.Test.YtmeejlgnhfkeaaaGreatDoorR41
import Derived.Test.YtmeejlgnhfkeaaaGreatDoorR04
import Derived.Test.YtmeejlgnhfkeaaaGreatDoorR24
import Derived.Test.YtmeejlgnhfkeaaaGreatDoorR46
import Derived.RegionTactic
import Derived.Deep.RegionHeld3
import Derived.Test.YtmeejlgnhfkeaaaGreatDoorR01
import Derived.Test.YtmeejlgnhfkeaaaGreatDoorR40
import Derived.Test.YtmeejlgnhfkeaaaGreatDoorR27
import Derived.Test.YtmeejlgnhfkeaaaGreatDoorR49
import Derived.Test.YtmeejlgnhfkeaaaGreatDoorR21
namespace Go.Proofs.YtmeejlgnhfkeaaaGreatDoor
open Go.RowKit Go.Proofs.Tryz
set_option maxRecDepth 100000
set_option maxHeartbeats 4000000
theorem OkB.tsz {s:Bn} (ok:OkB s):∀ t∈s.orders,t.size≤1000000:=fun t ht=>by
 have h1:=(Bk.okT_iff.1 (List.all_eq_true.1 ok.okL t ht)).2.1;have h2:(dl t).length=t.size:=(zhl t).symm;omega
theorem zjc (x0 x1 x2 x3 x4 x5 x6:Value) (W:World) :
  (Instr.field 86 (.agg #[x0,x1,x2,x3,x4,x5,x6]) 3).run Tryz.prog W=.ok x3 W∧(Instr.field 86 (.agg #[x0,x1,x2,x3,x4,x5,x6]) 6).run Tryz.prog W=.ok x6 W∧(Instr.field 86 (.agg #[x0,x1,x2,x3,x4,x5,x6]) 2).run Tryz.prog W=.ok x2 W:=
 ⟨by kernel_rfl,by kernel_rfl,by kernel_rfl⟩
theorem zmk (V:V5) (s:Bn):stCells V s=#[.slice V.pa s.progs.length V.pc,.slice V.ha s.hist.length V.hc,.slice V.ta s.tests.length V.tc,.slice V.la s.lk.length V.lc,.int .i64 s.fixes,.int .i64 s.checks,.slice V.oa s.orders.length V.oc]:=rfl
theorem Locked_any (H:Nat→Bool) (B:Nat) (s:Bn) (w:World) (h:BnAt H B w s) (ok:OkB s) (R:Ending→World→Prop)
  (hR:∀ w' v base,Grow w w'→w.heap.size≤base→w'.ownsRow base 3 1 v s.lk.length (s.lk.flatMap encI)→R (.returned v) w') :
  Calls Tryz.prog 28 #[.pointer (some ⟨B,0,none⟩)] w R:=by
 have HR:=jH hR;have HH:=jH h;have HLL:=jH ok.lk8;clear hR h ok
 go_enter func28,ntmps28
 go_wp2_with fail;refine zdr H B s _ HH.out _ ?_;intro w1 V hg1 hs1;have HLK:=jH hs1.unhide.lk;have HG1:=jH hg1;rw [zmk V s];have hfd:=fun x0 x1 x2 x3 x4 x5 x6 W=>(zjc x0 x1 x2 x3 x4 x5 x6 W).1;clear hs1 hg1;go_wp2_with fail;refine zgw s.lk _ _ HLK.out (by have:=HLL.out;omega) _ ?_
 intro w2 v2 hg2 hv2;have HF:=jH (HR.out w2 v2 _ (HG1.out.trans hg2) HG1.out.sz hv2);clear hg2 hv2;go_wp2_with fail;exact HF.out
theorem Failing9_any (H:Nat→Bool) (B:Nat) (s:Bn) (w:World) (h:BnAt H B w s) (ok:OkB s) (R:Ending→World→Prop)
  (hR:∀ w' v base,Grow w w'→w.heap.size≤base→OwnI base w' v (failB s.prog s.tests)→R (.returned v) w') :
  Calls Tryz.prog 29 #[.pointer (some ⟨B,0,none⟩)] w R:=by
 have HR:=jH hR;have HH:=jH h;have HPN:=jH ok.pne;clear hR h ok
 go_enter func29,ntmps29
 go_wp2_with fail;refine zdr H B s _ HH.out _ ?_;intro w1 V hg1 hs1;have HS1:=jH hs1;have HG1:=jH hg1;clear hs1 hg1;rw [zmk V s]
 go_upto_region 2 with fail
 obtain ⟨w2,hw2⟩:∃ z:World,z=w1.alloc (.cells (stCells V s) 86):=⟨_,rfl⟩;change Code.wp _ _ _ _ (w1.alloc (.cells (stCells V s) 86));have hg2:Grow w1 w2:=by rw [hw2];exact (Grow.refl w1).alloc _
 have hb2:w2.heap[w1.heap.size]?=some (.cells (stCells V s) 86 (0,0)):=by rw [hw2];exact heap_alloc_new _ _
 rw [← hw2];obtain ⟨x,hx⟩:∃ z,w1.heap.size=z:=⟨_,rfl⟩;rw [hx] at hb2 ⊢;have HB2:=jH hb2;have HG2:=jH (HG1.out.trans hg2);have HS2:=jH (HS1.out.grow (hg2.hid H));clear hw2 hg2 hb2 hx;go_wp2_with fail;refine wp_region_held_drew (S:=fun X=>Grow w2 X) (by kernel_rfl) ((Grow.refl w2).drew) (fun hH=>?_)
 refine tkA 0 (.agg #[.slice V.pa s.progs.length V.pc,.slice V.ha s.hist.length V.hc,.slice V.ta s.tests.length V.tc,.slice V.la s.lk.length V.lc,.int .i64 s.fixes,.int .i64 s.checks,.slice V.oa s.orders.length V.oc]) rfl ?_ hH ?_
 ·intro w9 hw9;obtain ⟨c0,c1,c2,c3,c4,c5,c6⟩:=zas (Grow.blk hw9 HB2.out);go_simp
 try simp only [nrm]
 refine tkA 1 (.agg #[.slice V.pa s.progs.length V.pc,.slice V.ha s.hist.length V.hc,.slice V.ta s.tests.length V.tc,.slice V.la s.lk.length V.lc,.int .i64 s.fixes,.int .i64 s.checks,.slice V.oa s.orders.length V.oc]) rfl ?_ hH ?_
 ·intro w9 hw9;obtain ⟨c0,c1,c2,c3,c4,c5,c6⟩:=zas (Grow.blk hw9 HB2.out);go_simp
 try simp only [nrm]
 refine tk1 2 rfl fun K hK=>?_;go_simp;refine zcm H V s _ (HS2.out.grow (hH.hid H)) HPN.out _ ?_;intro w3 pv hg3 hpv;have HPV:=jH hpv.unhide;go_wp2_with fail;refine hK.out _ _ (hH.trans hg3) ?_;clear hK K hH;intro hH;try simp only [nrm]
 clear hg3 hpv;refine tk1 3 rfl fun K hK=>?_;go_simp;refine zdl H s.prog pv V s _ HPV.out (HS2.out.grow (hH.hid H)) _ ?_;intro w4 x4 hg4 hx4;have HX4:=jH (hx4.mono hH.sz);go_wp2_with fail;refine hK.out _ _ (hH.trans hg4) ?_;clear hK K hH;intro hH;try simp only [nrm]
 clear hg4 hx4;refine tkA 4 (x4) rfl ?_ hH ?_
 ·intro w9 hw9;go_simp
 try simp only [nrm]
 refine wpAnyH_done (by kernel_rfl) ?_ _
 have HF:=jH (HR.out _ x4 _ (HG2.out.trans hH) HG2.out.sz HX4.out);clear hH;go_wp2_with fail;exact HF.out
theorem Counts_any (H:Nat→Bool) (B:Nat) (s:Bn) (w:World) (h:BnAt H B w s) (R:Ending→World→Prop)
  (hR:∀ w',Grow w w'→R (.returned (.tuple #[.int .i64 s.fixes,.int .i64 s.checks])) w') :
  Calls Tryz.prog 27 #[.pointer (some ⟨B,0,none⟩)] w R:=by
 have HR:=jH hR;have HH:=jH h;clear hR h
 go_enter func27,ntmps27
 go_wp2_with fail;refine zdr H B s _ HH.out _ ?_;intro w1 V hg1 hs1;have HG1:=jH hg1;clear hs1 hg1;rw [zmk V s]
 go_upto_region 2 with fail
 obtain ⟨w2,hw2⟩:∃ z:World,z=w1.alloc (.cells (stCells V s) 86):=⟨_,rfl⟩;change Code.wp _ _ _ _ (w1.alloc (.cells (stCells V s) 86));have hg2:Grow w1 w2:=by rw [hw2];exact (Grow.refl w1).alloc _
 have hb2:w2.heap[w1.heap.size]?=some (.cells (stCells V s) 86 (0,0)):=by rw [hw2];exact heap_alloc_new _ _
 rw [← hw2];obtain ⟨x,hx⟩:∃ z,w1.heap.size=z:=⟨_,rfl⟩;rw [hx] at hb2 ⊢;have HG2:=jH (HG1.out.trans hg2);obtain ⟨c0,c1,c2,c3,c4,c5,c6⟩:=zas hb2;have HF:=jH (fun W (g:Grow w2 W)=>HR.out W (HG2.out.trans g));clear hw2 hg2 hb2 hx;go_wp2_with (go_quiet (fail));exact HF.out _ ((Grow.refl _).drewN _)
theorem Book_any (H:Nat→Bool) (B:Nat) (s:Bn) (w:World) (hg:Glob w) (h:BnAt H B w s) (ok:OkB s) (R:Ending→World→Prop)
  (hR:∀ w',Grow w w'→R (.returned (.string (tb (bkS s.orders)))) w') :
  Calls Tryz.prog 19 #[.pointer (some ⟨B,0,none⟩)] w R:=by
 have HR:=jH hR;have HG:=jH hg;have HH:=jH h;have HSZ:=jH ok.tsz;have HOL:=jH ok.ord;clear hR hg h ok
 go_enter func19,ntmps19
 go_wp2_with fail;refine zdr H B s _ HH.out _ ?_;intro w1 V hg1 hs1;have HOD:=jH hs1.unhide.od;have HG1:=jH hg1;rw [zmk V s];have hfd:=fun x0 x1 x2 x3 x4 x5 x6 W=>(zjc x0 x1 x2 x3 x4 x5 x6 W).2.1;clear hs1 hg1;go_wp2_with fail;refine zow s.orders _ _ (HG.out.grow HG1.out) HOD.out HSZ.out (by have:=HOL.out;omega) _ ?_
 intro w2 hg2;have HF:=jH (HR.out w2 (HG1.out.trans hg2));clear hg2;go_wp2_with fail;exact HF.out
theorem Chg.slc {α:Type} {k:Nat} {enc:α→List Value} {w w':World} {v:Value} {xs:List α} {B:Nat} (c:Chg B w w') (h:SlcAt k enc w v xs) (hB:∀ a n m,v=.slice (some a) n m→a.block≠B):SlcAt k enc w' v xs:=
 ((SlcAt.hide h (H:=fun k=>k == B) fun _ _ n m e=>.inl (beq_eq_false_iff_ne.2 (hB _ n m e))).grow c).unhide
theorem BnAt.more {H:Nat→Bool} {B N:Nat} {w w':World} {s s2:Bn} (h:BnAt H B w s) (g:Grow w w') (hN:w.heap.size≤N) (h2:BnAt (fun k=>k == N) N w' s2):BnAt (hidN H N) B w' s:=by
 obtain ⟨V,hb,hs⟩:=h.blk;have hNl:=h2.hid.bd N (by simp)
 refine ⟨⟨by unfold hidN;rw [h.hid.hH];rfl,fun k hk=>?_⟩,V,g.blk hb,hs.grow (g.hidN hN)⟩
 unfold hidN at hk;rw [Bool.or_eq_true] at hk;rcases hk with hk | hk
 ·exact Nat.lt_of_lt_of_le (h.hid.bd k hk) g.sz
 ·have:=beq_iff_eq.1 hk;omega
theorem BnAt.only {H:Nat→Bool} {B:Nat} {w:World} {s:Bn} (h:BnAt H B w s):BnAt (fun k=>k == B) B w s:=by
 obtain ⟨V,hb,hs⟩:=h.blk;refine ⟨⟨by simp,fun k hk=>by obtain rfl:=beq_iff_eq.1 hk;exact h.hid.bd _ h.hid.hH⟩,V,hb,?_⟩
 have e:hideW H w=hideW H (hideW (fun k=>k == B) w):=by
  rw [zot]
  congr 1
  funext k
  by_cases hk:k=B
  ·subst hk;rw [h.hid.hH];simp
  ·rw [show (k == B)=false by simpa using hk,Bool.false_or]
 rw [e] at hs;exact hs.unhide
theorem BnAt.row {H:Nat→Bool} {B:Nat} {w w':World} {s:Bn} {v v':Value} (h:BnAt H B w s) (hv:∀ b,v.ownBlock=some b→H b=true∧b≠B) (hgr:w.grownBy w' v.ownBlock) (hlt:∀ b,v'.ownBlock=some b→b<w'.heap.size) (hat:v'.ownBlock=v.ownBlock∨v'.ownBlock=some w.heap.size) :
  ∃ H',BnAt H' B w' s∧∀ b,v'.ownBlock=some b→H' b=true∧b≠B:=by
 obtain ⟨V,hb,hs⟩:=h.blk;have hBl:=h.hid.bd B h.hid.hH;have hb':w'.heap[B]?=some (.cells (bnCells V s) 88 (0,0)):=by
  rw [hgr.block B hBl (fun e=>(hv B e.symm).2 rfl)];exact hb
 have hsz:=hgr.size;have g:∀ H':Nat→Bool,(∀ k,k<w.heap.size→H' k=H k)→Grow (hideW H w) (hideW H' w'):=fun H' hH'=>by
  refine ⟨hgr.os,hgr.tape,hgr.output,by rw [zav,zav];exact hsz,fun k hk=>?_⟩
  rw [zav] at hk;rw [zbk,zbk,hH' k hk];by_cases hne:some k≠v.ownBlock
  ·rw [hgr.block k hk hne]
  ·have hk2:H k=true:=(hv k (Classical.not_not.1 hne).symm).1;rw [hk2,Array.getElem?_eq_getElem hk,Array.getElem?_eq_getElem (Nat.lt_of_lt_of_le hk hsz)];rfl
 refine ⟨fun k=>H k || (v'.ownBlock == some k),⟨⟨by rw [h.hid.hH];rfl,fun k hk=>?_⟩,V,hb',hs.grow (g _ fun k hk=>?_)⟩,fun b hb2=>⟨by rw [hb2];simp,?_⟩⟩
 ·rw [Bool.or_eq_true] at hk;rcases hk with hk | hk
  ·exact Nat.lt_of_lt_of_le (h.hid.bd k hk) hsz
  ·exact hlt k (beq_iff_eq.1 hk)
 ·cases hh:H k with
  | true=>rfl
  | false=>
   show (false || (v'.ownBlock == some k))=false
   rw [Bool.false_or,beq_eq_false_iff_ne];intro e;rcases hat with h1 | h1
   ·rw [h1] at e;rw [(hv k e).1] at hh;cases hh
   ·rw [h1] at e;have:=Option.some.inj e;omega
 ·rcases hat with h1 | h1
  ·rw [h1] at hb2;exact (hv b hb2).2
  ·rw [h1] at hb2;have:=Option.some.inj hb2;omega
set_option maxRecDepth 100000
set_option maxHeartbeats 8000000
theorem sn_sum:Bk.sumL 0 (dl Sn.o1)=821069:=by kernel_rfl
theorem sn_book:bkS [Sn.o1]=[56,50,49,48,54,57,32,99,104,101,99,107,10]:=by
 unfold bkS
 show Bk.lineL (Bk.sumL 0 (dl Sn.o1)) (dl Sn.o1)++[]=_
 rw [sn_sum];unfold Bk.lineL;simp [Lib.itoa,Lib.decDigits,dl,Sn.o1]
theorem sn_wr:tb (wrS [Sn.o1])=⟨#[56,50,49,48,54,57,32,99,104,101,99,107,10]⟩∧wrE [Sn.o1]=0:=by
 have h:okL [Sn.o1]=true:=by decide +kernel
 constructor
 ·unfold wrS;rw [if_neg (by decide),h,if_pos rfl,sn_book];rfl
 ·unfold wrE;rw [if_neg (by decide),h,if_pos rfl]
theorem zwj (w:World) (xs:List Ln) (T:TypeId) (hl:xs.length≤1000):LinesAt (w.alloc (.cells (xs.flatMap encL).toArray T)) (.slice (some ⟨w.heap.size,0,none⟩) xs.length xs.length) xs:=by
 refine ⟨_,xs.length,rfl,Nat.le_refl _,by omega,.inr ⟨w.heap.size,0,rfl,by simp,fun j x hj i u hu=>?_⟩⟩
 rw [World.cell?_alloc_new,List.getElem?_toArray,Nat.zero_add];have hi:i<4:=by
  have:=(List.getElem?_eq_some_iff.1 hu).1
  rwa [zab] at this
 clear hl
 induction xs generalizing j with
 | nil=>simp at hj
 | cons y r ih=>
  rw [List.flatMap_cons];cases j with
  | zero=>
   simp at hj;subst hj;rw [Nat.zero_mul,Nat.zero_add,List.getElem?_append_left (by rw [zab];exact hi)]
   exact hu
  | succ j=>
   rw [List.getElem?_append_right (by rw [zab];omega),zab,show (j+1) * 4+i - 4=j * 4+i by omega]
   exact ih j (by simpa using hj)
def snT:Array Value:=(Sn.ords.map Value.string).toArray
def snE:Array Value:=(Sn.wants.map (Value.int .i64)).toArray
theorem zfy (w:World) (hg:Glob w) (R:Ending→World→Prop) (hR:∀ w',Grow w w'→R (.returned (.bool true)) w') :
  Calls Tryz.prog 10 #[] w R:=by
 have HR:=jH hR;have HG:=jH hg;have hsz:=hg.size;clear hR hg
 go_enter func10,ntmps10
 go_wp2_with fail;refine New_any Sn.p0 _ _ (zwj w Sn.p0 57 (by decide)) (by decide) _ ?_ ?_
 ·intro hne;exact absurd Sn.val0 hne
 ·intro _ w1 B hg1 hB hbn;rw [World.size_alloc] at hB;have hgw1:Grow w w1:=((Grow.refl w).alloc _).trans hg1;have hBl:=hbn.hid.bd B (by simp)
  have HG1:=jH hgw1;have HBN:=jH hbn;clear hg1 hbn hgw1
  go_upto_region 6 with fail
  change Code.wp _ _ _ _ ((w1.alloc (.cells snT 9)).alloc (.cells snE 33));have hg13:Grow w1 ((w1.alloc (.cells snT 9)).alloc (.cells snE 33)):=((Grow.refl w1).alloc _).alloc _;have hT:((w1.alloc (.cells snT 9)).alloc (.cells snE 33)).heap[w1.heap.size]?=some (.cells snT 9 (0,0)):=((Grow.refl _).alloc _).blk (heap_alloc_new w1 (.cells snT 9));have hE:((w1.alloc (.cells snT 9)).alloc (.cells snE 33)).heap[w1.heap.size+1]?=some (.cells snE 33 (0,0)):=by
   have:=heap_alloc_new (w1.alloc (.cells snT 9)) (.cells snE 33);rw [World.size_alloc] at this;exact this
  obtain ⟨w3,hw3⟩:∃ z:World,z=(w1.alloc (.cells snT 9)).alloc (.cells snE 33):=⟨_,rfl⟩;rw [← hw3] at hg13 hT hE ⊢;obtain ⟨nT,hnT⟩:∃ z,w1.heap.size=z:=⟨_,rfl⟩;obtain ⟨nE,hnE⟩:∃ z,w1.heap.size+1=z:=⟨_,rfl⟩;rw [hnE] at hE ⊢;rw [hnT] at hT ⊢;have HB3:=jH (HBN.out.grow hg13);have HG3:=jH (HG1.out.trans hg13);have HT:=jH hT;have HE:=jH hE;have hTB:nT≠B:=by omega
  have hEB:nE≠B:=by omega
  have hB4:4<B:=by omega
  have hwB:w.heap.size≤B:=by omega
  clear hw3 hg13 hT hE hnT hnE hBl HBN HG1;go_wp2_with fail
  go_loopw [5] (fun s5 wr=>∃ k:Nat,k≤7∧s5=.int .i64 k∧Chg B w3 wr∧BnAt (fun k=>k == B) B wr (Sn.stN k)) (fun s5 _=>7 - (intOf s5).toNat)
  case atStart=>exact ⟨0,by decide,rfl,zcn B w3,HB3.out⟩
  case round=>
   obtain ⟨k,hk,rfl,hc,hbn⟩:=hrel;have HC:=jH hc;have HBN:=jH hbn;clear hc hbn;by_cases hlt:k<7
   ·have hltz:(k:Int)<7:=by omega
    obtain ⟨t,ht⟩:∃ t,Sn.ords[k]?=some t:=⟨_,List.getElem?_eq_getElem (by show k<7;omega)⟩
    obtain ⟨e,he⟩:∃ e,Sn.wants[k]?=some e:=⟨_,List.getElem?_eq_getElem (by show k<7;omega)⟩
    have hts:t.size<4294967281:=by
     have:∀ u∈Sn.ords,u.size<4294967281:=by decide +kernel
     exact this t (List.mem_of_getElem? ht)
    have HDO:=jH (Sn.do_at k t e ht he);have HTK:=jH (show snT[k]?=some (Value.string t) by unfold snT;rw [List.getElem?_toArray,List.getElem?_map,ht];rfl)
    have HEK:=jH (show snE[k]?=some (Value.int .i64 e) by unfold snE;rw [List.getElem?_toArray,List.getElem?_map,he];rfl)
    have HOK:=jH (Sn.okN k hk);clear ht he;go_wp2_with fail;refine wp_region_held_drew (S:=fun X=>Chg B w3 X) (by kernel_rfl) (HC.out.trans (Chg.of_grow (Grow.refl wr).drew)) (fun hH=>?_)
    refine tkA 0 (.pointer (some ⟨B,0,none⟩)) rfl ?_ hH ?_
    ·intro w9 hw9;go_simp
    try simp only [nrm]
    refine tkA 1 (.slice (some ⟨nT,0,none⟩) 7 7) rfl ?_ hH ?_
    ·intro w9 hw9;go_simp
    try simp only [nrm]
    refine tkA 2 (.int .i64 k) rfl ?_ hH ?_
    ·intro w9 hw9;go_simp
    try simp only [nrm]
    refine tkA 3 (.pointer (some ⟨nT,k,none⟩)) rfl ?_ hH ?_
    ·intro w9 hw9;go_simp
    try simp only [nrm]
    refine tkA 4 (.string t) rfl ?_ hH ?_
    ·intro w9 hw9;have y9:=cellOf (Chg.blk hw9 hTB HT.out) k HTK.out;go_simp
    try simp only [nrm]
    refine tkA 6 (.slice (some ⟨nE,0,none⟩) 7 7) rfl ?_ hH ?_
    ·intro w9 hw9;go_simp
    try simp only [nrm]
    refine tkA 7 (.int .i64 k) rfl ?_ hH ?_
    ·intro w9 hw9;go_simp
    try simp only [nrm]
    refine tkA 8 (.pointer (some ⟨nE,k,none⟩)) rfl ?_ hH ?_
    ·intro w9 hw9;go_simp
    try simp only [nrm]
    refine tkA 9 (.int .i64 e) rfl ?_ hH ?_
    ·intro w9 hw9;have y9:=cellOf (Chg.blk hw9 hEB HE.out) k HEK.out;go_simp
    try simp only [nrm]
    refine tk1 5 rfl fun K hK=>?_;go_simp;refine zqo (fun k=>k == B) B t hts (Sn.stN k) _ ((HG.out.grow HG3.out).chg hH hB4) (HBN.out.grow (Grow.refl wr).drew) HOK.out hB4 _ ?_;intro w5 hc5 hb5;rw [HDO.out] at hb5 ⊢;dsimp only at hb5 ⊢;go_wp2_with fail;have HB5:=jH hb5;refine hK.out _ _ (hH.trans hc5) ?_;clear hK K hH;intro hH;try simp only [nrm]
    clear hb5 hc5;refine tkA 10 (.bool false) rfl ?_ hH ?_
    ·intro w9 hw9;go_simp
    try simp only [nrm]
    refine wpAnyH_done (by kernel_rfl) ?_ _
    have HC5:=jH hH;clear hH;go_wp2_with fail;go_roundw
    case rel=>exact ⟨k+1,by omega,by go_num,HC5.out,HB5.out⟩
    case measure=>simp [intOf];omega
   ·obtain rfl:k=7:=by omega
    have HGW:=jH (zmp HG3.out HC.out hwB);go_wp2_with fail;refine Program_any (fun k=>k == B) B (Sn.stN 7) _ HBN.out (Sn.okN 7 (by decide)) _ ?_
    intro w5 pv base hg5 hbs hpo;rw [Sn.prog7] at hpo;have hpl:=zaa (xs:=Sn.p1) zab hpo;obtain ⟨pa,pc,rfl,p1,p2,jk⟩:=hpl;have HPL:=jH (zaa (xs:=Sn.p1) zab hpo);have HG5:=jH (HGW.out.trans hg5);rw [show Sn.p1.length=2 from rfl] at p1 HPL ⊢;clear hg5 hpo jk;go_wp2_with fail;refine Write_any [Sn.o1] _ _ (HG.out.grow (HG5.out.alloc _)) (zom w5 [Sn.o1] 9 (by decide)) (by decide +kernel) _ ?_
    intro w6 hg6;rw [sn_wr.1,sn_wr.2];obtain ⟨b,o,rfl,hb,y0,y1,y2,y3⟩:=zbr (HPL.out.grow (((Grow.refl w5).alloc (.cells (([Sn.o1]:List ByteArray).map Value.string).toArray 9)).trans hg6)) (k:=0) (op:=1) (d:=0) (x:=4) (y:=0) rfl;rw [show o+0 * 4=o by omega] at y0 y1 y2 y3
    have HF:=jH (HR.out w6 ((HG5.out.alloc _).trans hg6));clear hg6;go_wp2_with fail;exact HF.out
set_option maxRecDepth 100000
set_option maxHeartbeats 4000000
theorem zny (p:List Ln) (v:Value) (w:World) (hp:LinesAt w v p) (hn:p.length<10000000000) (R:Ending→World→Prop)
  (hno:valP p≠0→∀ w',Grow w w'→R (.returned (.tuple #[.pointer none,.int .i64 (valP p)])) w')
  (hok:valP p=0→∀ w' a,Grow w w'→R (.returned (.tuple #[.pointer (some a),.int .i64 0])) w') :
  Calls Tryz.prog 32 #[v] w R:=by
 have HNO:=jH hno;have HOK:=jH hok;have HP:=jH hp;clear hno hok hp
 go_enter func32,ntmps32
 go_wp2_with fail;refine zbs p v _ HP.out _ ?_;intro w1 hg1;have HG1:=jH hg1;clear hg1;by_cases h0:valP p=0;rotate_left
 ·have HF:=jH (HNO.out h0 w1 HG1.out);have hz:(valP p != 0)=true:=by simpa using h0
  obtain ⟨e,he⟩:∃ e,valP p=e:=⟨_,rfl⟩;rw [he] at HF hz h0 ⊢;clear he;go_wp2_with fail;exact HF.out
 have HF:=jH (HOK.out h0);rw [h0];go_wp2_with (at_builtin;refine Classical.byContradiction (fun hcon=>?_));refine hcon ?_;clear hcon;refine zay _ rfl (.tmp 10) (.tmp 11) 22 rfl w1.heap.size 57 underlying22 zhg rfl (by decide) (by decide) encL zab zaj _ [] rfl (zah w1 4 _ _ _ (Nat.le_refl _)) _ p rfl (HP.out.grow (HG1.out.alloc _)) (by simp;omega) (by simp) ?_
 intro v2 w2 hown2 hgr2;have hg2:Grow w1 w2:=zae (zah (α:=Ln) w1 4 57 encL _ (Nat.le_refl _)) hgr2 (Nat.le_refl _) (by simp) ((Grow.refl w1).alloc _)
 have HG2:=jH (HG1.out.trans hg2);obtain ⟨a,c,rfl,q1,q2,jk⟩:=zaa zab (xs:=p) (by simpa using hown2)
 have HFF:=jH (fun o1 o2 a=>HF.out ((w2.alloc o1).alloc o2) a ((HG2.out.alloc o1).alloc o2));clear hown2 hgr2 hg2 jk;go_wp2_with fail;exact HFF.out _ _ _
theorem zpt (p:List Ln) (v:Value) (w:World) (hg:Glob w) (hp:LinesAt w v p) (hn:p.length<10000000000) (h0:valP p≠0) (R:Ending→World→Prop) (hR:∀ w',Grow w w'→R (.returned (.bool true)) w') :
  Calls Tryz.prog 12 #[v] w R:=by
 have HR:=jH hR;have HP:=jH hp;have HG:=jH hg;have H0:=jH h0;have hz:(valP p != 0)=true:=by simpa using h0
 obtain ⟨e,he⟩:∃ e,valP p=e:=⟨_,rfl⟩;have HE:=jH he;rw [he] at hz;clear hR hp hg h0 he
 go_enter func12,ntmps12
 go_wp2_with fail;refine New_any p v _ HP.out hn _ ?_ ?_;rotate_left
 ·intro h;exact absurd h H0.out
 intro _ w1 hg1;have HG1:=jH hg1;rw [HE.out];clear hg1;go_wp2_with fail;refine zny p v _ (HP.out.grow HG1.out) hn _ ?_ ?_;rotate_left
 ·intro h;exact absurd h H0.out
 intro _ w2 hg2;have HG2:=jH (HG1.out.trans hg2);rw [HE.out];clear hg2;go_wp2_with fail;refine zfy _ (HG.out.grow HG2.out) _ ?_;intro w3 hg3;have HF:=jH (HR.out w3 (HG2.out.trans hg3));clear hg3;go_wp2_with fail;exact HF.out
theorem few_any (l:List ByteArray) (v:Value) (w:World) (hl:TextsAt w v l) (R:Ending→World→Prop)
  (hR:∀ w' v',Grow w w'→TextsAt w' v' (l.take 24)→(v'=v∨NewS w.heap.size v')→R (.returned v') w') :
  Calls Tryz.prog 13 #[v] w R:=by
 have HR:=jH hR;have HL:=jH hl;obtain ⟨va,vc,rfl,v1,v2,jk⟩:=hl;clear hR jk
 go_enter func13,ntmps13
 by_cases h24:24<l.length
 ·have hz:decide ((l.length:Int) > 24)=true:=by rw [decide_eq_true_eq];omega
  obtain ⟨t,ht⟩:∃ t,l[0]?=some t:=⟨_,List.getElem?_eq_getElem (by omega)⟩
  obtain ⟨b,o,rfl,_,_⟩:=zcq HL.out ht;have h24c:(24:Nat)≤vc:=by omega
  clear ht;go_wp2_with (at_builtin;refine Classical.byContradiction (fun hcon=>?_));refine hcon ?_;clear hcon;refine zay _ rfl (.tmp 6) (.tmp 8) 23 rfl w.heap.size 9 underlying23 zdt rfl (by decide) (by decide) encTx zbi zcz _ [] rfl (zah w 1 _ _ _ (Nat.le_refl _)) _ (l.take 24) rfl ((HL.out.take (m:=24) (by omega)).grow ((Grow.refl w).alloc _)) (by simp;omega) (by simp) ?_
  intro v2 w2 hown2 hgr2;have hg2:Grow w w2:=zae (zah (α:=ByteArray) w 1 9 encTx _ (Nat.le_refl _)) hgr2 (Nat.le_refl _) (by simp) ((Grow.refl w).alloc _)
  have HF:=jH (HR.out w2 v2 hg2 (zaa zbi (by simpa using hown2)) (.inr (NewS.of_own (show Own 1 encTx _ w2 v2 (l.take 24) from ⟨_,by simpa using hown2⟩))))
  clear hown2 hgr2 hg2;go_wp2_with fail;exact HF.out
 ·have hz:decide ((l.length:Int) > 24)=false:=by rw [decide_eq_false_iff_not];omega
  have HF:=jH (HR.out w _ (Grow.refl w) (by rw [List.take_of_length_le (by omega)];exact HL.out) (.inl rfl))
  go_wp2_with fail;exact HF.out
theorem ztm (p:List Ln) (v:Value) (w:World) (hp:LinesAt w v p) (R:Ending→World→Prop) (hR:R (.returned (.bool (decide (100<p.length)))) w) :
  Calls Tryz.prog 8 #[v,.slice none 0 0] w R:=by
 obtain ⟨a,c,rfl,h1,h2,_⟩:=hp;by_cases h:100<p.length
 ·rw [decide_eq_true h] at hR;have t1:(p.length:Int) > 100:=by omega
  go_enter func8,ntmps8
  go_wp2
  simpa using hR
 ·rw [decide_eq_false h] at hR;have t1:¬ (p.length:Int) > 100:=by omega
  go_enter func8,ntmps8
  go_wp2
  simpa using hR
theorem zoo (l:List ByteArray):(l.map dl).map tb=l:=by
 rw [List.map_map];have:(tb ∘ dl)=id:=by funext t;exact tb_of t
 rw [this,List.map_id]
theorem zpg {l:List ByteArray} (hok:okL l=true) (hl:l.length≤80):Bk.readL 80 0 (tb (bkS l)).data.toList=(l.map dl,[]):=by
 rw [zbt];refine Bk.readL_book (l.map dl) 80 0 ?_ (by rw [List.length_map];exact hl)
 intro t ht;obtain ⟨u,hu,rfl⟩:=List.mem_map.1 ht;exact List.all_eq_true.1 hok u hu
noncomputable def stopB (s:Bn):List ByteArray→Option (Nat × Int)
 | []=>none
 | t :: r=>if (doB s t).1≠0 then some (0,(doB s t).1) else (stopB (doB s t).2 r).map fun q=>(q.1+1,q.2)
noncomputable def ordB (t:ByteArray):List ByteArray:=(Bk.readL 80 0 t.data.toList).1.map tb
noncomputable def repB (p:List Ln) (t:ByteArray):Option Bn × Int × Int:=
 if valP p≠0 then (none,0,valP p)
 else if (Bk.readL 80 0 t.data.toList).2≠[] then (none,0,10)
 else match stopB (newB p) (ordB t) with
  | some q=>(none,(q.1:Nat),q.2)
  | none=>(some (dosB (newB p) (ordB t)),((ordB t).length:Nat),0)
theorem zzc:∀ {l:List ByteArray} {s:Bn} {k:Nat} {t:ByteArray},stopB s (l.take k)=none→l[k]?=some t→(doB (dosB s (l.take k)) t).1=0→stopB s (l.take (k+1))=none
 | [],_,_,_,_,h,_=>by simp at h
 | a :: l,s,0,t,_,h,hne=>by
  simp at h;subst h;have hne':(doB s a).1=0:=hne;rw [List.take_succ_cons,List.take_zero];unfold stopB stopB;rw [if_neg (by rw [hne'];simp)];rfl
 | a :: l,s,k+1,t,h1,h2,h3=>by
  rw [List.take_succ_cons] at h1 h3 ⊢;unfold stopB at h1 ⊢;by_cases ha:(doB s a).1≠0
  ·rw [if_pos ha] at h1;cases h1
  ·rw [if_neg ha] at h1 ⊢;have h4:stopB (doB s a).2 (l.take k)=none:=by
    cases h:stopB (doB s a).2 (l.take k) with
    | none=>rfl
    | some q=>rw [h] at h1;cases h1
   rw [zzc h4 (by simpa using h2) h3];rfl
theorem dos_snoc {l:List ByteArray} {s:Bn} {k:Nat} {t:ByteArray} (h:l[k]?=some t):dosB s (l.take (k+1))=(doB (dosB s (l.take k)) t).2:=by
 rw [List.take_add_one,h,Option.toList_some,zke];rfl
set_option maxRecDepth 100000
set_option maxHeartbeats 8000000
theorem Tests_any (H:Nat→Bool) (B:Nat) (s:Bn) (w:World) (h:BnAt H B w s) (ok:OkB s) (R:Ending→World→Prop)
  (hR:∀ w' v base L,Grow w w'→w.heap.size≤base→TqOwn base w' v L→L.map Tq.p=s.tests→R (.returned v) w') :
  Calls Tryz.prog 24 #[.pointer (some ⟨B,0,none⟩)] w R:=by
 have HR:=jH hR;have HH:=jH h;have H8:=jH ok.t8;have HX4:=jH (fun (t:Tst) (ht:t∈s.tests)=>show t.xs.length=4 from (zqz.1 (Tst.ok_iff.1 ((zcs.1 ok.tst).2 t ht)).1).1);clear hR h ok
 go_enter func24,ntmps24
 go_wp2_with fail;refine zdr H B s _ HH.out _ ?_;intro w1 V hg1 hs1;obtain ⟨M,hM,hMx⟩:=hs1.unhide.ts;have hMl:M.length=s.tests.length:=by rw [← hMx];simp
 have HG1:=jH hg1;have HM:=jH hM;have HMX:=jH hMx;rw [zmk V s];have hfd:=fun x0 x1 x2 x3 x4 x5 x6 W=>(zjc x0 x1 x2 x3 x4 x5 x6 W).2.2;clear hs1 hM hMx;go_wp2_with fail
 go_loopw [3,10] (fun out i wr=>∃ (k:Nat) (L:List Tq),k≤s.tests.length∧i=.int .i64 k∧Grow w1 wr∧TqOwn w1.heap.size wr out L∧L.map Tq.p=s.tests.take k) (fun _ i _=>s.tests.length - (intOf i).toNat)
 case atStart=>exact ⟨0,[],Nat.zero_le _,rfl,Grow.refl _,TqOwn.nil _ _,rfl⟩
 case round=>
  obtain ⟨k,L,hk,rfl,hg,how,hLx⟩:=hrel;have HG:=jH hg;have HOW:=jH how;have HLX:=jH hLx;have hzw:=hg.sz;have hLk:L.length=k:=by have:=congrArg List.length hLx;simp at this;omega
  clear hg how hLx;by_cases hlt:k<s.tests.length
  ·have hlt2:(k:Int)<(s.tests.length:Int):=by omega
   have hk8:k<8:=by have:=H8.out;omega
   obtain ⟨q,hq⟩:∃ q,M[k]?=some q:=⟨_,List.getElem?_eq_getElem (by omega)⟩
   obtain ⟨mb,mo,hta,hmb,m0,m1,m2⟩:=tq_at (HM.out.grow HG.out).at_ hq;have hqk:s.tests[k]?=some q.p:=by rw [← HMX.out,List.getElem?_map,hq];rfl
   have hx4:=HX4.out q.p (List.mem_of_getElem? hqk);have HI:=jH ((HM.out.grow HG.out).ins q (List.mem_of_getElem? hq));have HLN:=jH (show s.tests.take (k+1)=s.tests.take k++[q.p] by rw [List.take_add_one,hqk];rfl)
   have HLE:=jH (show L.length<100000000000 by have:=H8.out;omega)
   have hx4':q.xs.length=4:=hx4;rw [hta];clear hqk hq hLk hta hx4;obtain ⟨qa,qn,qc,qx,qo,qw⟩:=q;dsimp only at m0 m1 m2 HI HLN hx4';have HXQ:=jH hx4';clear hx4'
   go_upto_region 5 with fail
   obtain ⟨w2,hw2⟩:∃ z:World,z=wr.alloc (.cells #[.slice qa qn qc,.int .i64 qo,.int .i64 qw] 63):=⟨_,rfl⟩;change Code.wp _ _ _ _ (wr.alloc (.cells #[.slice qa qn qc,.int .i64 qo,.int .i64 qw] 63));have hg2:Grow wr w2:=by rw [hw2];exact (Grow.refl wr).alloc _
   have hb2:w2.heap[wr.heap.size]?=some (.cells #[.slice qa qn qc,.int .i64 qo,.int .i64 qw] 63 (0,0)):=by rw [hw2];exact heap_alloc_new _ _
   rw [← hw2];obtain ⟨x,hx⟩:∃ z,wr.heap.size=z:=⟨_,rfl⟩;have hx1:w1.heap.size≤x:=by omega
   rw [hx] at hb2 ⊢;have HB2:=jH hb2;have HI2:=jH (HI.out.grow hg2);have HG2:=jH (HG.out.trans hg2);have HO2:=jH (HOW.out.grow hg2);have HOWL:=jH (fun b (hb:u3.ownBlock=some b)=>show b<x from by rw [← hx];exact HOW.out.lt hb)
   have hbase2:w1.heap.size≤w2.heap.size:=HG2.out.sz;clear hw2 hg2 hb2 hx m0 m1 m2 HOW HI;go_wp2_with fail;refine wp_region_held_drew (S:=fun X=>X.heap[x]?=some (.cells #[.slice qa qn qc,.int .i64 qo,.int .i64 qw] 63 (0,0))∧Grow w1 X) (by kernel_rfl) ⟨(Grow.refl w2).drew.blk HB2.out,HG2.out.trans (Grow.refl w2).drew⟩ (fun hH=>?_)
   refine tkA 0 (u3) rfl ?_ hH ?_
   ·intro w9 hw9;go_simp
   try simp only [nrm]
   refine tkA 1 (.pointer (some ⟨x,0,none⟩)) rfl ?_ hH ?_
   ·intro w9 hw9;go_simp
   try simp only [nrm]
   refine tkA 2 (.slice qa qn qc) rfl ?_ hH ?_
   ·intro w9 hw9;obtain ⟨y0,y1,y2⟩:=box3 hw9.1;go_simp
   try simp only [nrm]
   refine tkA 4 (.pointer (some ⟨x,1,none⟩)) rfl ?_ hH ?_
   ·intro w9 hw9;go_simp
   try simp only [nrm]
   refine tkA 5 (.int .i64 qo) rfl ?_ hH ?_
   ·intro w9 hw9;obtain ⟨y0,y1,y2⟩:=box3 hw9.1;go_simp
   try simp only [nrm]
   refine tkA 6 (.pointer (some ⟨x,2,none⟩)) rfl ?_ hH ?_
   ·intro w9 hw9;go_simp
   try simp only [nrm]
   refine tkA 7 (.int .i64 qw) rfl ?_ hH ?_
   ·intro w9 hw9;obtain ⟨y0,y1,y2⟩:=box3 hw9.1;go_simp
   try simp only [nrm]
   refine tk1 3 rfl fun K hK=>?_;go_simp;refine zgw qx _ _ (HI2.out.grow (Grow.refl w2).drew) (by have:=HXQ.out;omega) _ ?_
   intro w3 v3 hg3 hv3;go_wp2_with fail;have HG3:=jH (show Grow w2 w3 from (Grow.refl w2).drew.trans hg3);have HO3:=jH (show Own 1 encI w2.heap.size w3 v3 qx from ⟨_,hv3⟩);obtain ⟨a3,c3,rfl,q1,q2,jk3⟩:=HO3.out.slc zal;have HS3:=jH (HO3.out.slc zal);have HB1:=jH (HO2.out.new hbase2 HO3.out);clear jk3 hv3;refine hK.out _ _ ⟨hg3.blk hH.1,hH.2.trans hg3⟩ ?_;clear hK K hH;intro hH;try simp only [nrm]
   clear hg3;refine tkA 8 (.agg #[.slice a3 qx.length c3,.int .i64 qo,.int .i64 qw]) rfl ?_ hH ?_
   ·intro w9 hw9;go_simp
   try simp only [nrm]
   refine tk1 9 rfl fun K hK=>?_;go_simp;refine hK.out _ _ ⟨((Grow.refl w3).alloc _).blk hH.1,hH.2.alloc _⟩ ?_;clear hK K hH;intro hH;try simp only [nrm]
   have hg34:Grow w3 (w3.alloc (.cells #[.slice a3 qx.length c3,.int .i64 qo,.int .i64 qw] 63)):=(Grow.refl w3).alloc _;have HO4:=jH (HO2.out.grow (HG3.out.trans hg34));refine tk1 10 rfl fun K hK=>?_;refine zew rfl (.tmp 14) (.tmp 23) 42 rfl w1.heap.size 63 underlying42 zbz rfl (by decide) (by decide) encTq zat zcb u3 L (by simp [Act.eval]) HO4.out.row ⟨w3.heap.size,0,none⟩ (⟨a3,qx.length,c3,qx,qo,qw⟩:Tq) 1 (by simp [Act.eval]<;>rfl) (zhf (heap_alloc_new w3 (.cells #[.slice a3 qx.length c3,.int .i64 qo,.int .i64 qw] 63))) HLE.out hH.2.sz ?_
   intro v6 w6 hown6 hgr6 hat6;have HG6:=jH (show Grow w1 w6 from zae HO4.out.row hgr6 (Nat.le_refl _) hH.2.sz hH.2);have hkx:w6.heap[x]?=some (.cells #[.slice qa qn qc,.int .i64 qo,.int .i64 qw] 63 (0,0)):=by
    rw [hgr6.block x (lt_of_block hH.1) (fun e=>by have h1:=HOWL.out x e.symm;omega)]
    exact hH.1
   have HO6:=jH (HO4.out.app (t:=(⟨a3,qx.length,c3,qx,qo,qw⟩:Tq)) hgr6 hown6 hat6 (HS3.out.grow hg34) fun b o s hb=>⟨(HB1.out b o s hb).1,Nat.lt_of_lt_of_le (HB1.out b o s hb).2.1 hg34.sz,(HB1.out b o s hb).2.2⟩);clear hown6 hgr6 hat6 hg34;refine hK.out _ _ ⟨hkx,HG6.out⟩ ?_;clear hK K hH;intro hH;try simp only [nrm]
   clear hkx;refine tkA 11 (v6) rfl ?_ hH ?_
   ·intro w9 hw9;go_simp
   try simp only [nrm]
   refine wpAnyH_done (by kernel_rfl) ?_ _
   clear hH;go_wp2_with fail;go_roundw
   case rel=>exact ⟨k+1,L++[⟨a3,qx.length,c3,qx,qo,qw⟩],by omega,by go_num,HG6.out,HO6.out,by rw [HLN.out,List.map_append,HLX.out];rfl⟩
   case measure=>simp [intOf];omega
  ·obtain rfl:k=s.tests.length:=by omega
   have hltz:¬ (s.tests.length:Int)<(s.tests.length:Int):=by omega
   have hLx:=HLX.out;rw [List.take_length] at hLx;have HF:=jH (HR.out wr _ w1.heap.size L (HG1.out.trans HG.out) HG1.out.sz HOW.out hLx);clear hLx;go_wp2_with fail;exact HF.out
set_option maxRecDepth 100000
set_option maxHeartbeats 8000000
theorem zlc (ts:List Tst) (X Y:List Tq) (v u:Value) (w:World) (hx:TqAt w v X) (hy:TqAt w u Y) (hX:X.map Tq.p=ts) (hY:Y.map Tq.p=ts) (R:Ending→World→Prop) (hR:∀ w',Grow w w'→R (.returned (.bool true)) w') :
  Calls Tryz.prog 42 #[v,u] w R:=by
 have HR:=jH hR;have hxl:X.length=ts.length:=by rw [← hX];simp
 have hyl:Y.length=ts.length:=by rw [← hY];simp
 obtain ⟨xa,xc,rfl,x1,x2,jk1⟩:=hx.at_;obtain ⟨ya,yc,rfl,y1,y2,jk2⟩:=hy.at_;rw [hxl] at x1 hx ⊢;rw [hyl] at y1 hy ⊢;have HX3:=jH hx;have HY3:=jH hy;have HPA:=jH (fun (k:Nat) (hk:k<ts.length)=>zxb hX hY hk);clear hR hx hy hX hY jk1 jk2 hxl hyl
 go_enter func42,ntmps42
 go_wp2_with fail
 go_loopw [5] (fun s7 wr=>∃ k:Nat,k≤ts.length∧s7=.int .i64 k∧Grow w wr) (fun s7 _=>ts.length - (intOf s7).toNat)
 case atStart=>exact ⟨0,Nat.zero_le _,rfl,Grow.refl _⟩
 case round=>
 obtain ⟨k,hk,rfl,hgr⟩:=hrel;have HGR:=jH hgr;clear hgr;by_cases hlt:k<ts.length
 ·have hltz:(k:Int)<(ts.length:Int):=by omega
  obtain ⟨q,r,hq,hr,hqr⟩:=HPA.out k hlt;obtain ⟨b,o,rfl,hb,c0,c1,c2⟩:=tq_at (HX3.out.grow HGR.out).at_ hq;obtain ⟨b2,o2,rfl,hb2,d0,d1,d2⟩:=tq_at (HY3.out.grow HGR.out).at_ hr;have HI:=jH ((HX3.out.grow HGR.out).ins q (List.mem_of_getElem? hq));have HJ:=jH ((HY3.out.grow HGR.out).ins r (List.mem_of_getElem? hr));obtain ⟨qa,qn,qc,qx,qo,qw⟩:=q;obtain ⟨ra,rn,rc,rx,ro,rw_⟩:=r;dsimp only at c0 c1 c2 d0 d1 d2 HI HJ;unfold Tq.p at hqr;injection hqr with _ e2 e3 e4;dsimp only at e2 e3 e4;subst e2 e3 e4;clear hq hr;go_wp2_with fail;refine wp_region_held_drew (S:=fun X=>Grow wr X) (by kernel_rfl) ((Grow.refl wr).drew) (fun hH=>?_)
  refine tkA 0 (.slice (some ⟨b,o,none⟩) ts.length xc) rfl ?_ hH ?_
  ·intro w9 hw9;go_simp
  try simp only [nrm]
  refine tkA 1 (.int .i64 (k:Nat)) rfl ?_ hH ?_
  ·intro w9 hw9;go_simp
  try simp only [nrm]
  refine tkA 2 (.pointer (some ⟨b,o+k * 3,none⟩)) rfl ?_ hH ?_
  ·intro w9 hw9;go_simp
  try simp only [nrm]
  refine tkA 3 (.pointer (some ⟨b,o+k * 3+1,none⟩)) rfl ?_ hH ?_
  ·intro w9 hw9;go_simp
  try simp only [nrm]
  refine tkA 4 (.int .i64 qo) rfl ?_ hH ?_
  ·intro w9 hw9;have z9:=Grow.cell hw9 c1;go_simp
  try simp only [nrm]
  refine tkA 5 (.slice (some ⟨b2,o2,none⟩) ts.length yc) rfl ?_ hH ?_
  ·intro w9 hw9;go_simp
  try simp only [nrm]
  refine tkA 6 (.int .i64 (k:Nat)) rfl ?_ hH ?_
  ·intro w9 hw9;go_simp
  try simp only [nrm]
  refine tkA 7 (.pointer (some ⟨b2,o2+k * 3,none⟩)) rfl ?_ hH ?_
  ·intro w9 hw9;go_simp
  try simp only [nrm]
  refine tkA 8 (.pointer (some ⟨b2,o2+k * 3+1,none⟩)) rfl ?_ hH ?_
  ·intro w9 hw9;go_simp
  try simp only [nrm]
  refine tkA 9 (.int .i64 qo) rfl ?_ hH ?_
  ·intro w9 hw9;have z9:=Grow.cell hw9 d1;go_simp
  try simp only [nrm]
  refine tkA 10 (.bool false) rfl ?_ hH ?_
  ·intro w9 hw9;go_simp
  try simp only [nrm]
  refine tkA 11 (.bool false) rfl ?_ hH ?_
  ·intro w9 hw9;go_simp
  try simp only [nrm]
  refine tkA 12 (.slice (some ⟨b,o,none⟩) ts.length xc) rfl ?_ hH ?_
  ·intro w9 hw9;go_simp
  try simp only [nrm]
  refine tkA 13 (.int .i64 (k:Nat)) rfl ?_ hH ?_
  ·intro w9 hw9;go_simp
  try simp only [nrm]
  refine tkA 14 (.pointer (some ⟨b,o+k * 3,none⟩)) rfl ?_ hH ?_
  ·intro w9 hw9;go_simp
  try simp only [nrm]
  refine tkA 15 (.pointer (some ⟨b,o+k * 3+2,none⟩)) rfl ?_ hH ?_
  ·intro w9 hw9;go_simp
  try simp only [nrm]
  refine tkA 16 (.int .i64 qw) rfl ?_ hH ?_
  ·intro w9 hw9;have z9:=Grow.cell hw9 c2;go_simp
  try simp only [nrm]
  refine tkA 17 (.slice (some ⟨b2,o2,none⟩) ts.length yc) rfl ?_ hH ?_
  ·intro w9 hw9;go_simp
  try simp only [nrm]
  refine tkA 18 (.int .i64 (k:Nat)) rfl ?_ hH ?_
  ·intro w9 hw9;go_simp
  try simp only [nrm]
  refine tkA 19 (.pointer (some ⟨b2,o2+k * 3,none⟩)) rfl ?_ hH ?_
  ·intro w9 hw9;go_simp
  try simp only [nrm]
  refine tkA 20 (.pointer (some ⟨b2,o2+k * 3+2,none⟩)) rfl ?_ hH ?_
  ·intro w9 hw9;go_simp
  try simp only [nrm]
  refine tkA 21 (.int .i64 qw) rfl ?_ hH ?_
  ·intro w9 hw9;have z9:=Grow.cell hw9 d2;go_simp
  try simp only [nrm]
  refine tkA 22 (.bool false) rfl ?_ hH ?_
  ·intro w9 hw9;go_simp
  try simp only [nrm]
  refine tkA 23 (.bool false) rfl ?_ hH ?_
  ·intro w9 hw9;go_simp
  try simp only [nrm]
  refine tkA 24 (.bool false) rfl ?_ hH ?_
  ·intro w9 hw9;go_simp
  try simp only [nrm]
  refine tkA 25 (.slice (some ⟨b,o,none⟩) ts.length xc) rfl ?_ hH ?_
  ·intro w9 hw9;go_simp
  try simp only [nrm]
  refine tkA 26 (.int .i64 (k:Nat)) rfl ?_ hH ?_
  ·intro w9 hw9;go_simp
  try simp only [nrm]
  refine tkA 27 (.pointer (some ⟨b,o+k * 3,none⟩)) rfl ?_ hH ?_
  ·intro w9 hw9;go_simp
  try simp only [nrm]
  refine tkA 28 (.pointer (some ⟨b,o+k * 3,none⟩)) rfl ?_ hH ?_
  ·intro w9 hw9;go_simp
  try simp only [nrm]
  refine tkA 29 (.slice qa qn qc) rfl ?_ hH ?_
  ·intro w9 hw9;have z9:=Grow.cell hw9 c0;go_simp
  try simp only [nrm]
  refine tkA 30 (.slice (some ⟨b2,o2,none⟩) ts.length yc) rfl ?_ hH ?_
  ·intro w9 hw9;go_simp
  try simp only [nrm]
  refine tkA 31 (.int .i64 (k:Nat)) rfl ?_ hH ?_
  ·intro w9 hw9;go_simp
  try simp only [nrm]
  refine tkA 32 (.pointer (some ⟨b2,o2+k * 3,none⟩)) rfl ?_ hH ?_
  ·intro w9 hw9;go_simp
  try simp only [nrm]
  refine tkA 33 (.pointer (some ⟨b2,o2+k * 3,none⟩)) rfl ?_ hH ?_
  ·intro w9 hw9;go_simp
  try simp only [nrm]
  refine tkA 34 (.slice ra rn rc) rfl ?_ hH ?_
  ·intro w9 hw9;have z9:=Grow.cell hw9 d0;go_simp
  try simp only [nrm]
  refine tk1 35 rfl fun K hK=>?_;go_simp;refine zgx qx qx _ _ _ (HI.out.grow hH) (HJ.out.grow hH) _ ?_;intro w3 hg3;rw [decide_eq_true (rfl:qx=qx)];go_wp2_with fail;refine hK.out _ _ (hH.trans hg3) ?_;clear hK K hH;intro hH;try simp only [nrm]
  clear hg3;refine tkA 36 (.bool false) rfl ?_ hH ?_
  ·intro w9 hw9;go_simp
  try simp only [nrm]
  refine tkA 37 (.bool false) rfl ?_ hH ?_
  ·intro w9 hw9;go_simp
  try simp only [nrm]
  refine wpAnyH_done (by kernel_rfl) ?_ _
  have HG3:=jH (HGR.out.trans hH);clear hH c0 c1 c2 d0 d1 d2;go_wp2_with fail;go_roundw
  case rel=>exact ⟨k+1,by omega,by go_num,HG3.out⟩
  case measure=>simp [intOf];omega
 ·obtain rfl:k=ts.length:=by omega
  have hltz:¬ (ts.length:Int)<(ts.length:Int):=by omega
  have HF:=jH (HR.out wr HGR.out);go_wp2_with fail;exact HF.out
theorem RepB.val {p:List Ln} {s:Bn} (ok:OkB s) (h:s.progs[0]?=some p):valP p=0:=ok.val p (List.mem_of_getElem? h)
theorem RepB.stop {p:List Ln} {s:Bn} (h:RepB p s):∀ k,k≤s.orders.length→stopB (newB p) (s.orders.take k)=none
 | 0,_=>rfl
 | k+1,hk=>by
  obtain ⟨t,ht⟩:∃ t,s.orders[k]?=some t:=⟨_,List.getElem?_eq_getElem (by omega)⟩
  exact zzc (h.stop k (by omega)) ht (h.2 k t ht)
theorem okL_take {l:List ByteArray} (h:okL l=true) (k:Nat):okL (l.take k)=true:=
 List.all_eq_true.2 fun t ht=>List.all_eq_true.1 h t (List.mem_of_mem_take ht)
theorem bk_bound {s:Bn} (ok:OkB s):(bkS s.orders).length≤100000000:=by
 have h1:=zja s.orders ok.tsz s.orders.length (Nat.le_refl _);rw [List.take_length] at h1;have:=ok.ord;omega
theorem RepB.take {p:List Ln} {s:Bn} (ok:OkB s) (h:RepB p s) (hp:valP p=0) {k:Nat} (hk:k≤s.orders.length) :
  repB p (tb (bkS (s.orders.take k)))=(some (dosB (newB p) (s.orders.take k)),((k:Nat):Int),(0:Int)):=by
 have hl:(s.orders.take k).length=k:=by rw [List.length_take];omega
 unfold repB ordB;rw [if_neg (by rw [hp];simp),zpg (okL_take ok.okL k) (by rw [hl];have:=ok.ord;omega)]
 dsimp only;rw [if_neg (by simp),zoo,h.stop k hk,hl]
set_option maxRecDepth 100000
set_option maxHeartbeats 8000000
def Wl (T:TypeId) (k:Nat) (w:World) (a:Option Addr) (n:Nat):Prop:=∀ ad,a=some ad→∃ g cs,ad=⟨g,0,none⟩∧w.heap[g]?=some (.cells cs T (0,0))∧n * k≤cs.size
theorem Wl.of_owns {T:TypeId} {k n c base:Nat} {w:World} {a:Option Addr} {xs:List Value} (h:w.ownsRow base T k (.slice a n c) n xs):Wl T k w a n:=by
 intro ad e;rcases h.2 with ⟨hv,_⟩ | ⟨g,cap,cur,hv,hg,hh,a1,a2,a3,a4⟩
 ·cases hv;cases e
 ·cases hv;cases e;exact ⟨g,cur,rfl,hh,by rw [a3];exact Nat.mul_le_mul_right _ a1⟩
theorem Wl.grow {T:TypeId} {k n:Nat} {w w':World} {a:Option Addr} (h:Wl T k w a n) (g:Grow w w'):Wl T k w' a n:=fun ad e=>let ⟨b,cs,h1,h2,h3⟩:=h ad e;⟨b,cs,h1,g.blk h2,h3⟩
theorem Wl.grown {T:TypeId} {k n:Nat} {w w':World} {a:Option Addr} {row:Option Nat} (h:Wl T k w a n) (g:w.grownBy w' row) (hne:∀ b o s,a=some ⟨b,o,s⟩→row≠some b):Wl T k w' a n:=fun ad e=>by
 obtain ⟨b,cs,rfl,h2,h3⟩:=h ad e;exact ⟨b,cs,rfl,by rw [g.block b (lt_of_block h2) (fun h=>hne b 0 none e h.symm)];exact h2,h3⟩
theorem Wl.set {T:TypeId} {k n:Nat} {w:World} {a:Option Addr} (h:Wl T k w a n) (b i:Nat) (u:Value):Wl T k (w.setCell ⟨b,i,none⟩ u) a n:=fun ad e=>by
 obtain ⟨g,cs,rfl,h2,h3⟩:=h ad e;by_cases hgb:g=b
 ·subst hgb;exact ⟨g,_,rfl,heap_setCell_same _ _ _ _ _ _ h2,by simpa using h3⟩
 ·exact ⟨g,cs,rfl,by rw [Below.heap_setCell _ _ _ _ (by exact hgb)];exact h2,h3⟩
theorem Wl.cell {T:TypeId} {k n:Nat} {w:World} {ad:Addr} (h:Wl T k w (some ad) n) {j:Nat} (hj:j<n * k):∃ g,ad=⟨g,0,none⟩∧w.frozen? ⟨g,j,none⟩=false∧(∃ u,w.cell? ⟨g,j,none⟩=some u)∧∃ cs,w.heap[g]?=some (.cells cs T (0,0)):=by
 obtain ⟨g,cs,rfl,h2,h3⟩:=h ad rfl;exact ⟨g,rfl,zac h2 j,⟨cs[j]'(by omega),by rw [cell_of_row w g j cs T (0,0) h2];exact Array.getElem?_eq_getElem (by omega)⟩,cs,h2⟩
theorem HistoryW_any (H:Nat→Bool) (B:Nat) (s:Bn) (w:World) (h:BnAt H B w s) (ok:OkB s) (R:Ending→World→Prop)
  (hR:∀ w' v base L,Grow w w'→w.heap.size≤base→(NewS base v∧∀ t∈L,NewS base t.v)→(LoOwn base 58 5 encE w' v L∧∀ t∈L,Wl 60 5 w' t.a t.n)→L.map Lo.x=s.hist→R (.returned v) w') :
  Calls Tryz.prog 23 #[.pointer (some ⟨B,0,none⟩)] w R:=by
 have HR:=jH hR;have HH:=jH h;have H8:=jH ok.h8;have HXL:=jH (fun (x:List Ed) (hx:x∈s.hist)=>show x.length≤4 from by
  obtain ⟨i,hi⟩:=List.getElem?_of_mem hx;have hil:=(List.getElem?_eq_some_iff.1 hi).1;have hlen:=ok.len;obtain ⟨p,hp⟩:∃ p,s.progs[i]?=some p:=⟨_,List.getElem?_eq_getElem (by omega)⟩
  obtain ⟨q,hq⟩:∃ q,s.progs[i+1]?=some q:=⟨_,List.getElem?_eq_getElem (by omega)⟩
  have h1:=(zdn.1 (ok.step i p x q hp hi hq).1).2.1;unfold valX at h1;by_cases h4:4<x.length
  ·rw [if_pos h4] at h1;cases h1
  ·omega)
 clear hR h ok
 go_enter func23,ntmps23
 go_wp2_with fail;refine zdr H B s _ HH.out _ ?_;intro w1 V hg1 hs1;obtain ⟨M,hM,hMx⟩:=hs1.unhide.hi;have hMl:M.length=s.hist.length:=by rw [← hMx];simp
 have HG1:=jH hg1;have HM:=jH hM;have HMX:=jH hMx;have hc:stCells V s=#[.slice V.pa s.progs.length V.pc,.slice V.ha s.hist.length V.hc,.slice V.ta s.tests.length V.tc,.slice V.la s.lk.length V.lc,.int .i64 s.fixes,.int .i64 s.checks,.slice V.oa s.orders.length V.oc]:=rfl;rw [hc];have hfd:∀ (x0 x1 x2 x3 x4 x5 x6:Value) (W:World),(Instr.field 86 (.agg #[x0,x1,x2,x3,x4,x5,x6]) 1).run Tryz.prog W=.ok x1 W:=fun _ _ _ _ _ _ _ _=>by kernel_rfl
 clear hs1 hM hMx hc;go_wp2_with fail
 go_loopw [3,10] (fun out i wr=>∃ (k:Nat) (L:List (Lo Ed)),k≤s.hist.length∧i=.int .i64 k∧Grow w1 wr∧LoOwn w1.heap.size 58 5 encE wr out L∧L.map Lo.x=s.hist.take k∧(∀ t∈L,NewS w1.heap.size t.v)∧∀ t∈L,Wl 60 5 wr t.a t.n) (fun _ i _=>s.hist.length - (intOf i).toNat)
 case atStart=>exact ⟨0,[],Nat.zero_le _,rfl,Grow.refl _,LoOwn.nil _ _ _ _ _,rfl,by simp,by simp⟩
 case round=>
  obtain ⟨k,L,hk,rfl,hg,how,hLx,hNL,hWL⟩:=hrel;have HWL:=jH hWL;clear hWL;have HNL:=jH hNL;clear hNL;have HG:=jH hg;have HOW:=jH how;have HLX:=jH hLx;have hzw:=hg.sz;have hLk:L.length=k:=by have:=congrArg List.length hLx;simp at this;omega
  clear hg how hLx;by_cases hlt:k<s.hist.length
  ·have hlt2:(k:Int)<(s.hist.length:Int):=by omega
   have hk8:k<8:=by have:=H8.out;omega
   obtain ⟨t,ht⟩:∃ t,M[k]?=some t:=⟨_,List.getElem?_eq_getElem (by omega)⟩
   obtain ⟨mb,mo,hha,hmb,m0⟩:=lo_at (HM.out.grow HG.out).at_ ht;have hxk:s.hist[k]?=some t.x:=by rw [← HMX.out,List.getElem?_map,ht];rfl
   have hx4:=HXL.out t.x (List.mem_of_getElem? hxk);have HI:=jH ((HM.out.grow HG.out).ins t (List.mem_of_getElem? ht));have HLN:=jH (show s.hist.take (k+1)=s.hist.take k++[t.x] by rw [List.take_add_one,hxk];rfl)
   have HLE:=jH (show L.length<100000000000 by have:=H8.out;omega)
   rw [hha];clear hxk ht hLk hha;go_wp2_with fail;refine zwg t.x _ _ HI.out (by omega) _ ?_
   intro w2 v2 hg2 hv2;have HO2:=jH (show Own 5 encE wr.heap.size w2 v2 t.x from ⟨_,hv2⟩);have HX2:=jH (HO2.out.slc zbh);have HN2:=jH ((NewS.of_own HO2.out).mono hzw);obtain ⟨a1,c1,rfl,q1,q2,jk5⟩:=HO2.out.slc zbh;have HB1:=jH (HOW.out.new HO2.out);have HG2:=jH (HG.out.trans hg2);have HO1:=jH (HOW.out.grow hg2);have HW2:=jH (fun u (hu:u∈L)=>(HWL.out u hu).grow hg2);have HW1:=jH (show Wl 60 5 w2 a1 t.x.length from Wl.of_owns hv2);have hz1:=(HG.out.trans hg2).sz;clear hg2 hv2 HOW jk5 m0;go_wp2_with (at_builtin;refine zdj _ rfl (.tmp 14) (.tmp 17) 44 rfl w1.heap.size 58 underlying44 zdv rfl (by decide) (by decide) encLo zaz zce _ L rfl (((Grow.refl w2).alloc _).owns HO1.out.row) _ (⟨a1,t.x.length,c1,t.x⟩:Lo Ed) 1 rfl (newsG _ _ (by simp) (encLo (⟨a1,t.x.length,c1,t.x⟩:Lo Ed)) _) HLE.out (by simp;omega) ?_;intro out2 w5 hown5 hgr5 hat5)
   have HG5:=jH (show Grow w1 w5 from zae HO1.out.row hgr5 (Nat.le_refl _) (by simp;omega) (HG2.out.alloc _))
   have HO5:=jH ((HO1.out.grow ((Grow.refl w2).alloc _)).app (t:=⟨a1,t.x.length,c1,t.x⟩) hgr5 hown5 hat5 (HX2.out.grow ((Grow.refl w2).alloc _)) fun b o s hb=>⟨(HB1.out b o s hb).1,Nat.lt_of_lt_of_le (HB1.out b o s hb).2 ((Grow.refl w2).alloc _).sz⟩);have HW5:=jH (show ∀ u∈L++[(⟨a1,t.x.length,c1,t.x⟩:Lo Ed)],Wl 60 5 w5 u.a u.n from fun u hu=>by
    rcases List.mem_append.1 hu with hu | hu
    ·exact ((HW2.out u hu).grow ((Grow.refl w2).alloc _)).grown hgr5 (fun b o s hb=>(HO1.out.off u hu b o s hb).1)
    ·rw [List.mem_singleton] at hu;subst hu;exact (HW1.out.grow ((Grow.refl w2).alloc _)).grown hgr5 (fun b o s hb=>(HB1.out b o s hb).1))
   clear hown5 hgr5 hat5;go_roundw
   case rel=>exact ⟨k+1,L++[⟨a1,t.x.length,c1,t.x⟩],by omega,by go_num,HG5.out,HO5.out,by rw [HLN.out,List.map_append,HLX.out];rfl,fun u hu=>by
    rcases List.mem_append.1 hu with hu | hu
    ·exact HNL.out u hu
    ·simp at hu;subst hu;exact HN2.out,HW5.out⟩
   case measure=>simp [intOf];omega
  ·obtain rfl:k=s.hist.length:=by omega
   have hltz:¬ (s.hist.length:Int)<(s.hist.length:Int):=by omega
   have hLx:=HLX.out;rw [List.take_length] at hLx;have HF:=jH (HR.out wr _ w1.heap.size L (HG1.out.trans HG.out) HG1.out.sz ⟨zyr HOW.out.row,HNL.out⟩ ⟨HOW.out,HWL.out⟩ hLx);clear hLx;go_wp2_with fail;exact HF.out
theorem TestsW_any (H:Nat→Bool) (B:Nat) (s:Bn) (w:World) (h:BnAt H B w s) (ok:OkB s) (R:Ending→World→Prop)
  (hR:∀ w' v base L,Grow w w'→w.heap.size≤base→(TqOwn base w' v L∧∀ q∈L,Wl 3 1 w' q.a q.n)→L.map Tq.p=s.tests→R (.returned v) w') :
  Calls Tryz.prog 24 #[.pointer (some ⟨B,0,none⟩)] w R:=by
 have HR:=jH hR;have HH:=jH h;have H8:=jH ok.t8;have HX4:=jH (fun (t:Tst) (ht:t∈s.tests)=>show t.xs.length=4 from (zqz.1 (Tst.ok_iff.1 ((zcs.1 ok.tst).2 t ht)).1).1);clear hR h ok
 go_enter func24,ntmps24
 go_wp2_with fail;refine zdr H B s _ HH.out _ ?_;intro w1 V hg1 hs1;obtain ⟨M,hM,hMx⟩:=hs1.unhide.ts;have hMl:M.length=s.tests.length:=by rw [← hMx];simp
 have HG1:=jH hg1;have HM:=jH hM;have HMX:=jH hMx;rw [zmk V s];have hfd:=fun x0 x1 x2 x3 x4 x5 x6 W=>(zjc x0 x1 x2 x3 x4 x5 x6 W).2.2;clear hs1 hM hMx;go_wp2_with fail
 go_loopw [3,10] (fun out i wr=>∃ (k:Nat) (L:List Tq),k≤s.tests.length∧i=.int .i64 k∧Grow w1 wr∧TqOwn w1.heap.size wr out L∧L.map Tq.p=s.tests.take k∧∀ q∈L,Wl 3 1 wr q.a q.n) (fun _ i _=>s.tests.length - (intOf i).toNat)
 case atStart=>exact ⟨0,[],Nat.zero_le _,rfl,Grow.refl _,TqOwn.nil _ _,rfl,by simp⟩
 case round=>
  obtain ⟨k,L,hk,rfl,hg,how,hLx,hWL⟩:=hrel;have HWL:=jH hWL;clear hWL;have HG:=jH hg;have HOW:=jH how;have HLX:=jH hLx;have hzw:=hg.sz;have hLk:L.length=k:=by have:=congrArg List.length hLx;simp at this;omega
  clear hg how hLx;by_cases hlt:k<s.tests.length
  ·have hlt2:(k:Int)<(s.tests.length:Int):=by omega
   have hk8:k<8:=by have:=H8.out;omega
   obtain ⟨q,hq⟩:∃ q,M[k]?=some q:=⟨_,List.getElem?_eq_getElem (by omega)⟩
   obtain ⟨mb,mo,hta,hmb,m0,m1,m2⟩:=tq_at (HM.out.grow HG.out).at_ hq;have hqk:s.tests[k]?=some q.p:=by rw [← HMX.out,List.getElem?_map,hq];rfl
   have hx4:=HX4.out q.p (List.mem_of_getElem? hqk);have HI:=jH ((HM.out.grow HG.out).ins q (List.mem_of_getElem? hq));have HLN:=jH (show s.tests.take (k+1)=s.tests.take k++[q.p] by rw [List.take_add_one,hqk];rfl)
   have HLE:=jH (show L.length<100000000000 by have:=H8.out;omega)
   have hx4':q.xs.length=4:=hx4;rw [hta];clear hqk hq hLk hta hx4;obtain ⟨qa,qn,qc,qx,qo,qw⟩:=q;dsimp only at m0 m1 m2 HI HLN hx4';have HXQ:=jH hx4';clear hx4'
   go_upto_region 5 with fail
   obtain ⟨w2,hw2⟩:∃ z:World,z=wr.alloc (.cells #[.slice qa qn qc,.int .i64 qo,.int .i64 qw] 63):=⟨_,rfl⟩;change Code.wp _ _ _ _ (wr.alloc (.cells #[.slice qa qn qc,.int .i64 qo,.int .i64 qw] 63));have hg2:Grow wr w2:=by rw [hw2];exact (Grow.refl wr).alloc _
   have hb2:w2.heap[wr.heap.size]?=some (.cells #[.slice qa qn qc,.int .i64 qo,.int .i64 qw] 63 (0,0)):=by rw [hw2];exact heap_alloc_new _ _
   rw [← hw2];obtain ⟨x,hx⟩:∃ z,wr.heap.size=z:=⟨_,rfl⟩;have hx1:w1.heap.size≤x:=by omega
   rw [hx] at hb2 ⊢;have HB2:=jH hb2;have HI2:=jH (HI.out.grow hg2);have HG2:=jH (HG.out.trans hg2);have HO2:=jH (HOW.out.grow hg2);have HW2:=jH (fun u (hu:u∈L)=>(HWL.out u hu).grow hg2);have HOWL:=jH (fun b (hb:u3.ownBlock=some b)=>show b<x from by rw [← hx];exact HOW.out.lt hb)
   have hbase2:w1.heap.size≤w2.heap.size:=HG2.out.sz;clear hw2 hg2 hb2 hx m0 m1 m2 HOW HI;go_wp2_with fail;refine wp_region_held_drew (S:=fun X=>X.heap[x]?=some (.cells #[.slice qa qn qc,.int .i64 qo,.int .i64 qw] 63 (0,0))∧Grow w1 X) (by kernel_rfl) ⟨(Grow.refl w2).drew.blk HB2.out,HG2.out.trans (Grow.refl w2).drew⟩ (fun hH=>?_)
   refine tkA 0 (u3) rfl ?_ hH ?_
   ·intro w9 hw9;go_simp
   try simp only [nrm]
   refine tkA 1 (.pointer (some ⟨x,0,none⟩)) rfl ?_ hH ?_
   ·intro w9 hw9;go_simp
   try simp only [nrm]
   refine tkA 2 (.slice qa qn qc) rfl ?_ hH ?_
   ·intro w9 hw9;obtain ⟨y0,y1,y2⟩:=box3 hw9.1;go_simp
   try simp only [nrm]
   refine tkA 4 (.pointer (some ⟨x,1,none⟩)) rfl ?_ hH ?_
   ·intro w9 hw9;go_simp
   try simp only [nrm]
   refine tkA 5 (.int .i64 qo) rfl ?_ hH ?_
   ·intro w9 hw9;obtain ⟨y0,y1,y2⟩:=box3 hw9.1;go_simp
   try simp only [nrm]
   refine tkA 6 (.pointer (some ⟨x,2,none⟩)) rfl ?_ hH ?_
   ·intro w9 hw9;go_simp
   try simp only [nrm]
   refine tkA 7 (.int .i64 qw) rfl ?_ hH ?_
   ·intro w9 hw9;obtain ⟨y0,y1,y2⟩:=box3 hw9.1;go_simp
   try simp only [nrm]
   refine tk1 3 rfl fun K hK=>?_;go_simp;refine zgw qx _ _ (HI2.out.grow (Grow.refl w2).drew) (by have:=HXQ.out;omega) _ ?_
   intro w3 v3 hg3 hv3;go_wp2_with fail;have HG3:=jH (show Grow w2 w3 from (Grow.refl w2).drew.trans hg3);have HO3:=jH (show Own 1 encI w2.heap.size w3 v3 qx from ⟨_,hv3⟩);obtain ⟨a3,c3,rfl,q1,q2,jk3⟩:=HO3.out.slc zal;have HS3:=jH (HO3.out.slc zal);have HW3:=jH (show Wl 3 1 w3 a3 qx.length from Wl.of_owns hv3);have HB1:=jH (HO2.out.new hbase2 HO3.out);clear jk3 hv3;refine hK.out _ _ ⟨hg3.blk hH.1,hH.2.trans hg3⟩ ?_;clear hK K hH;intro hH;try simp only [nrm]
   clear hg3;refine tkA 8 (.agg #[.slice a3 qx.length c3,.int .i64 qo,.int .i64 qw]) rfl ?_ hH ?_
   ·intro w9 hw9;go_simp
   try simp only [nrm]
   refine tk1 9 rfl fun K hK=>?_;go_simp;refine hK.out _ _ ⟨((Grow.refl w3).alloc _).blk hH.1,hH.2.alloc _⟩ ?_;clear hK K hH;intro hH;try simp only [nrm]
   have hg34:Grow w3 (w3.alloc (.cells #[.slice a3 qx.length c3,.int .i64 qo,.int .i64 qw] 63)):=(Grow.refl w3).alloc _;have HO4:=jH (HO2.out.grow (HG3.out.trans hg34));refine tk1 10 rfl fun K hK=>?_;refine zew rfl (.tmp 14) (.tmp 23) 42 rfl w1.heap.size 63 underlying42 zbz rfl (by decide) (by decide) encTq zat zcb u3 L (by simp [Act.eval]) HO4.out.row ⟨w3.heap.size,0,none⟩ (⟨a3,qx.length,c3,qx,qo,qw⟩:Tq) 1 (by simp [Act.eval]<;>rfl) (zhf (heap_alloc_new w3 (.cells #[.slice a3 qx.length c3,.int .i64 qo,.int .i64 qw] 63))) HLE.out hH.2.sz ?_
   intro v6 w6 hown6 hgr6 hat6;have HG6:=jH (show Grow w1 w6 from zae HO4.out.row hgr6 (Nat.le_refl _) hH.2.sz hH.2);have hkx:w6.heap[x]?=some (.cells #[.slice qa qn qc,.int .i64 qo,.int .i64 qw] 63 (0,0)):=by
    rw [hgr6.block x (lt_of_block hH.1) (fun e=>by have h1:=HOWL.out x e.symm;omega)]
    exact hH.1
   have HO6:=jH (HO4.out.app (t:=(⟨a3,qx.length,c3,qx,qo,qw⟩:Tq)) hgr6 hown6 hat6 (HS3.out.grow hg34) fun b o s hb=>⟨(HB1.out b o s hb).1,Nat.lt_of_lt_of_le (HB1.out b o s hb).2.1 hg34.sz,(HB1.out b o s hb).2.2⟩);have HW6:=jH (show ∀ u∈L++[(⟨a3,qx.length,c3,qx,qo,qw⟩:Tq)],Wl 3 1 w6 u.a u.n from fun u hu=>by
    rcases List.mem_append.1 hu with hu | hu
    ·exact ((HW2.out u hu).grow (HG3.out.trans hg34)).grown hgr6 (fun b o s hb=>(HO4.out.off u hu b o s hb).1)
    ·rw [List.mem_singleton] at hu;subst hu;exact (HW3.out.grow hg34).grown hgr6 (fun b o s hb=>(HB1.out b o s hb).1))
   clear hown6 hgr6 hat6 hg34;refine hK.out _ _ ⟨hkx,HG6.out⟩ ?_;clear hK K hH;intro hH;try simp only [nrm]
   clear hkx;refine tkA 11 (v6) rfl ?_ hH ?_
   ·intro w9 hw9;go_simp
   try simp only [nrm]
   refine wpAnyH_done (by kernel_rfl) ?_ _
   clear hH;go_wp2_with fail;go_roundw
   case rel=>exact ⟨k+1,L++[⟨a3,qx.length,c3,qx,qo,qw⟩],by omega,by go_num,HG6.out,HO6.out,by rw [HLN.out,List.map_append,HLX.out];rfl,HW6.out⟩
   case measure=>simp [intOf];omega
  ·obtain rfl:k=s.tests.length:=by omega
   have hltz:¬ (s.tests.length:Int)<(s.tests.length:Int):=by omega
   have hLx:=HLX.out;rw [List.take_length] at hLx;have HF:=jH (HR.out wr _ w1.heap.size L (HG1.out.trans HG.out) HG1.out.sz ⟨HOW.out,HWL.out⟩ hLx);clear hLx;go_wp2_with fail;exact HF.out
theorem RepB.dos {p:List Ln} {s:Bn} (h:RepB p s):∀ l,RepB p (dosB s l)
 | []=>h
 | t :: r=>(h.do t).dos r
end Go.Proofs.YtmeejlgnhfkeaaaGreatDoor
