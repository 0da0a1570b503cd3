/- Parts. -/
import Derived.Test.YtmeejlgnhfkeaaaGreatDoorR24
import Derived.Test.YtmeejlgnhfkeaaaGreatDoorR25
import Derived.Test.YtmeejlgnhfkeaaaGreatDoorR21
import Derived.Deep.RegionHeld3
import Derived.Test.YtmeejlgnhfkeaaaGreatDoorR04
import Derived.RegionTactic
import Derived.BigRegion
import Derived.Test.YtmeejlgnhfkeaaaGreatDoorR03
import Derived.Test.YtmeejlgnhfkeaaaGreatDoorR27
namespace Go.Proofs.YtmeejlgnhfkeaaaGreatDoor
open Go.RowKit Go.Proofs.Tryz
set_option maxRecDepth 100000
set_option maxHeartbeats 8000000
theorem zcn (B:Nat) (w:World):Chg B w w:=Grow.refl _
theorem zac {w:World} {N:Nat} {cs:Array Value} {T:TypeId} (hb:w.heap[N]?=some (.cells cs T (0,0))) (i:Nat):w.frozen? ⟨N,i,none⟩=false:=by
 unfold World.frozen?;rw [hb];simp
theorem SAt.of_chg {H:Nat→Bool} {N:Nat} {w w':World} {s s':Bn} {V':V5} (h:SAt H N w s) (g:Chg N w w') (hb:w'.heap[N]?=some (.cells (stCells V' s') 86 (0,0))) (hs:StAt (hideW H w') V' s'):SAt H N w' s':=
 ⟨⟨h.hid.hH,fun k hk=>Nat.lt_of_lt_of_le (h.hid.bd k hk) g.sz⟩,V',hb,hs⟩
theorem LlAt.snoc {α:Type} {k:Nat} {enc:α→List Value} {w:World} {v:Value} {L:List (Lo α)} {t:Lo α} (h:SlcAt 1 encLo w v (L++[t])) (hL:∀ u∈L,SlcAt k enc w u.v u.x) (ht:SlcAt k enc w t.v t.x):LlAt k enc w v (L++[t]):=
 ⟨h,fun u hu=>by
  rcases List.mem_append.1 hu with hu | hu
  ·exact hL u hu
  ·simp at hu;subst hu;exact ht⟩
theorem zit {α:Type} {k:Nat} {enc:α→List Value} {H:Nat→Bool} {w:World} {base:Nat} {T:TypeId} {v:Value} {L:List (Lo α)} {t:Lo α} (hown:w.ownsRow base T 1 v (L++[t]).length ((L++[t]).flatMap encLo)) (hL:∀ u∈L,SlcAt k enc (hideW H w) u.v u.x) (ht:SlcAt k enc (hideW H w) t.v t.x) (hH:∀ b,base≤b→H b=false):LlAt k enc (hideW H w) v (L++[t]):=
 LlAt.snoc ((zaa zaz hown).hide_new (NewS.of_own (show Own 1 encLo base w v (L++[t]) from ⟨T,hown⟩)) hH) hL ht
theorem zau {w:World} {N:Nat} {cs:Array Value} {T:TypeId} (hb:w.heap[N]?=some (.cells cs T (0,0))) (i:Nat) (v:Value):(w.setCell ⟨N,i,none⟩ v).heap[N]?=some (.cells (cs.setIfInBounds i v) T (0,0)):=heap_setCell_same w N i cs T v hb
theorem zml (H:Nat→Bool) (N:Nat) (x:List Ed) (xv:Value) (s:Bn) (w:World) (hx:EditsAt (hideW H w) xv x) (h:SAt H N w s) (ok:OkB s) (R:Ending→World→Prop)
  (hR:∀ w',Chg N w w'→SAt H N w' (repairB s x).2→R (.returned (errV (repairB s x).1)) w') :
  Calls Tryz.prog 162 #[.pointer (some ⟨N,0,none⟩),xv] w R:=by
 obtain ⟨V,hb,hs⟩:=h.blk;obtain ⟨c0,c1,c2,c3,c4,c5,c6⟩:=zas hb;have hne:s.progs≠[]:=by intro e;have:=ok.len;rw [e] at this;simp at this
 have hh8:=ok.h8;have hp9:s.progs.length≤9:=by have:=ok.len;omega
 have HH:=jH h;have HB:=jH hb;have HS:=jH hs;have HX:=jH hx;have HR:=jH hR;have HNE:=jH hne;have hNl:=lt_of_block hb;obtain ⟨xa,xc,rfl,_,_,jk⟩:=hx;clear hR h hb hs hne jk ok;have hc:stCells V s=#[.slice V.pa s.progs.length V.pc,.slice V.ha s.hist.length V.hc,.slice V.ta s.tests.length V.tc,.slice V.la s.lk.length V.lc,.int .i64 s.fixes,.int .i64 s.checks,.slice V.oa s.orders.length V.oc]:=rfl;by_cases h8:s.hist.length=8
 ·have hr:=HR.out w (zcn N w) (by unfold repairB;rw [if_pos h8];exact HH.out)
  unfold repairB at hr;rw [if_pos h8] at hr;have HF:=jH hr;have h8z:(s.hist.length:Int)=8:=by omega
  clear hr
  go_enter func162,ntmps162
  go_wp2_with fail;exact HF.out
 have h8z:((s.hist.length:Int) == 8)=false:=by rw [beq_eq_false_iff_ne];omega
 have hv:repairB s x=if doE s.prog x≠0 then (doE s.prog x,s) else if brkB (doM s.prog x) s.tests s.lk then (6,s) else (0,{ s with progs:=s.progs++[doM s.prog x],hist:=s.hist++[x] }):=by unfold repairB;rw [if_neg h8]
 rw [hv] at HR;clear hv
 go_enter func162,ntmps162
 go_wp2_with fail;refine zcm H V s w HS.out HNE.out _ ?_;intro w1 pv hg1 hpv;have HP1:=jH hpv;have HG1:=jH hg1;obtain ⟨pa,pc,rfl,p1,p2,jk1⟩:=hpv;clear hg1 jk1;go_wp2_with fail;refine Do_any s.prog x _ _ _ HP1.out.unhide (HX.out.grow (HG1.out.hid H)).unhide _ ?_;intro w2 qv hg2 hnq hqv;have HNQ:=jH (hnq.mono HG1.out.sz);clear hnq;obtain ⟨e,he⟩:∃ e,chkX s.prog x []=e:=⟨_,rfl⟩;rw [show doE s.prog x=e from he] at HR;rw [he] at hqv ⊢;have HQ:=jH hqv;have HG2:=jH (HG1.out.trans hg2);have HE:=jH he;obtain ⟨qa,qc,rfl,q1,q2,jk2⟩:=hqv;clear hg2 jk2 he;by_cases h0:e=0;rotate_left
 ·rw [if_pos h0] at HR;have hr:=HR.out w2 (Chg.of_grow HG2.out) (HH.out.grow HG2.out);unfold errV at hr;rw [if_neg h0] at hr;have HF:=jH hr;have t1:(e != 0)=true:=by simpa using h0
  rw [if_neg h0] at q1 ⊢;clear hr h0 HQ HNQ;go_wp2_with fail;exact HF.out
 subst h0;rw [if_neg (by simp)] at HR
 rw [if_pos rfl] at HQ HNQ q1 ⊢;have hcs:=zas (HG2.out.blk HB.out);obtain ⟨d0,d1,d2,d3,d4,d5,d6⟩:=hcs;go_wp2_with fail;refine zlo H (doM s.prog x) _ V s _ HQ.out (HS.out.grow (HG2.out.hid H)) _ ?_;intro w3 hg3;have HG3:=jH (HG2.out.trans hg3);have HQ3:=jH (HQ.out.grow hg3);obtain ⟨bb,hbb⟩:∃ b,brkB (doM s.prog x) s.tests s.lk=b:=⟨_,rfl⟩;rw [hbb] at HR ⊢;have hcs:=zas (HG3.out.blk HB.out);obtain ⟨e0,e1,e2,e3,e4,e5,e6⟩:=hcs;have hz3:=HG3.out.sz;clear hg3 hbb d0 d1 d2 d3 d4 d5 d6;cases bb with
 | true=>
  rw [if_pos rfl] at HR;have HF:=jH (HR.out w3 (Chg.of_grow HG3.out) (HH.out.grow HG3.out));go_wp2_with fail;exact HF.out
 | false=>
  rw [if_neg (by simp)] at HR
  obtain ⟨L1,hL1,hLx1⟩:=HS.out.pr;obtain ⟨L2,hL2,hLx2⟩:=HS.out.hi;have hl1:L1.length=s.progs.length:=by rw [← hLx1];simp
  have hl2:L2.length=s.hist.length:=by rw [← hLx2];simp
  go_wp2_with fail;refine znn L1 _ _ ?_ (by omega) _ ?_
  ·exact (hL1.unhide.at_).grow HG3.out
  intro w4 k4 hg4 hk4;have HG34:=jH hg4;have HG4:=jH (HG3.out.trans hg4);have HK4:=jH hk4;have hz4:=hg4.sz;obtain ⟨ka,kc,rfl,k1,k2,jk4⟩:=zaa zaz hk4;clear hg4 hk4 jk4;have hk4v:w4.ownsRow w3.heap.size 22 1 (.slice ka s.progs.length kc) L1.length (L1.flatMap encLo):=by rw [← hl1];exact HK4.out
  have HK4V:=jH hk4v;rw [hl1] at k1 ⊢;have hLp:L1.length<100000000000:=by omega
  have hcs:=zas (HG4.out.blk HB.out);obtain ⟨f0,f1,f2,f3,f4,f5,f6⟩:=hcs;clear e0 e1 e2 e3 e4 e5 e6 hk4v;go_wp2_with (at_builtin;refine Classical.byContradiction (fun hcon=>?_));refine hcon ?_;clear hcon;refine zad _ rfl (.tmp 41) (.tmp 43) 41 rfl w3.heap.size 22 underlying41 zfz rfl (by decide) (by decide) encLo zaz zce (.slice ka s.progs.length kc) L1 rfl (((Grow.refl w4).alloc _).owns HK4V.out) _ (⟨qa,(doM s.prog x).length,qc,doM s.prog x⟩:Lo Ln) 1 rfl (zbj w4 (encLo (⟨qa,(doM s.prog x).length,qc,doM s.prog x⟩:Lo Ln)) 22) hLp (by simp;omega) ?_
  intro v5 w5 hown5 hgr5;have hg35:Grow w3 w5:=zae (((Grow.refl w4).alloc (.cells (encLo (⟨qa,(doM s.prog x).length,qc,doM s.prog x⟩:Lo Ln)).toArray 22)).owns HK4V.out) hgr5 (Nat.le_refl _) (by simp;omega) ((show Grow w3 w4 from HG34.out).alloc _)
  obtain ⟨a5,n5,c5,rfl,hn5⟩:∃ a n c,v5=.slice a n c∧n=s.progs.length+1:=by
   rcases hown5.2 with ⟨hv,h0⟩ | ⟨g,cap,cur,hv,_⟩
   ·simp at h0
   ·exact ⟨some ⟨g,0,none⟩,_,cap,hv,by simp [hl1]⟩
  subst hn5;have HO5:=jH hown5;have HG5:=jH (HG3.out.trans hg35);have HG35:=jH hg35;have hb5:=HG5.out.blk HB.out;have HB5:=jH hb5;obtain ⟨g0,g1,g2,g3,g4,g5,g6⟩:=zas hb5;have z0:=zac hb5 0;clear hown5 hgr5 hg35 hb5 f0 f1 f2 f3 f4 f5 f6;have hHn:∀ b,w3.heap.size≤b→H b=false:=fun b hb=>HH.out.hid.new b (by omega)
  have hpr:LlAt 4 encL (hideW H w5) (.slice a5 (s.progs.length+1) c5) (L1++[(⟨qa,(doM s.prog x).length,qc,doM s.prog x⟩:Lo Ln)]):=
   zit (by have h:=HO5.out;exact h) (fun u hu=>(hL1.ins u hu).grow (HG5.out.hid H)) ((HQ3.out.grow HG35.out).hide_new HNQ.out (fun b hb=>HH.out.hid.new b hb)) hHn
  have HPR:=jH hpr;have hc6:Chg N w (w5.setCell ⟨N,0,none⟩ (.slice a5 (s.progs.length+1) c5)):=(Chg.of_grow HG5.out).setCell 0 _;have hb6:=zau HB5.out 0 (.slice a5 (s.progs.length+1) c5);have hh6:hideW H (w5.setCell ⟨N,0,none⟩ (.slice a5 (s.progs.length+1) c5))=hideW H w5:=zak (a:=⟨N,0,none⟩) HH.out.hid.hH _;rw [hc] at hb6;simp only [List.setIfInBounds_toArray,List.set_cons_zero] at hb6;go_wp2_with fail;clear g0 g1 g2 g3 g4 g5 g6 z0 hpr hHn;generalize w5.setCell ⟨N,0,none⟩ (.slice a5 (s.progs.length+1) c5)=w6 at hc6 hb6 hh6 ⊢;rw [← hh6] at HPR;have HC6:=jH hc6;have HB6:=jH hb6;have hz6:=hc6.sz;clear hc6 hb6 hh6;refine znr L2 _ _ ?_ (by omega) _ ?_
  ·exact (hL2.grow (HC6.out.hide HH.out.hid.hH)).unhide.at_
  intro w7 k7 hg7 hk7;have HG67:=jH hg7;have hz7:=hg7.sz;obtain ⟨ra,rc,rfl,r1,r2,jk7⟩:=zaa zaz hk7;have hk7v:w7.ownsRow w6.heap.size 58 1 (.slice ra s.hist.length rc) L2.length (L2.flatMap encLo):=by rw [← hl2];exact hk7
  have HK7V:=jH hk7v;rw [hl2] at r1 ⊢;have hLq:L2.length<100000000000:=by omega
  clear hg7 hk7 jk7 hk7v;go_wp2_with (at_builtin;refine Classical.byContradiction (fun hcon=>?_));refine hcon ?_;clear hcon;refine zad _ rfl (.tmp 52) (.tmp 54) 44 rfl w6.heap.size 58 underlying44 zdv rfl (by decide) (by decide) encLo zaz zce (.slice ra s.hist.length rc) L2 rfl (((Grow.refl w7).alloc _).owns HK7V.out) _ (⟨xa,x.length,xc,x⟩:Lo Ed) 1 rfl (zbj w7 (encLo (⟨xa,x.length,xc,x⟩:Lo Ed)) 58) hLq (by simp;omega) ?_
  intro v8 w8 hown8 hgr8;have hg68:Grow w6 w8:=zae (((Grow.refl w7).alloc (.cells (encLo (⟨xa,x.length,xc,x⟩:Lo Ed)).toArray 58)).owns HK7V.out) hgr8 (Nat.le_refl _) (by simp;omega) ((show Grow w6 w7 from HG67.out).alloc _)
  obtain ⟨a8,n8,c8,rfl,hn8⟩:∃ a n c,v8=.slice a n c∧n=s.hist.length+1:=by
   rcases hown8.2 with ⟨hv,h0⟩ | ⟨g,cap,cur,hv,_⟩
   ·simp at h0
   ·exact ⟨some ⟨g,0,none⟩,_,cap,hv,by simp [hl2]⟩
  subst hn8;have hb8:=hg68.blk HB6.out;have g1:w8.cell? ⟨N,1,none⟩=some (.slice V.ha s.hist.length V.hc):=by unfold World.cell?;rw [hb8];rfl
  have z1:=zac hb8 1;have hHn:∀ b,w6.heap.size≤b→H b=false:=fun b hb=>HH.out.hid.new b (by omega)
  have hhi:LlAt 5 encE (hideW H w8) (.slice a8 (s.hist.length+1) c8) (L2++[(⟨xa,x.length,xc,x⟩:Lo Ed)]):=
   zit hown8 (fun u hu=>((hL2.ins u hu).grow (HC6.out.hide HH.out.hid.hH)).grow (hg68.hid H)) ((HX.out.grow (HC6.out.hide HH.out.hid.hH)).grow (hg68.hid H)) hHn
  have hh9:hideW H (w8.setCell ⟨N,1,none⟩ (.slice a8 (s.hist.length+1) c8))=hideW H w8:=zak (a:=⟨N,1,none⟩) HH.out.hid.hH _;have hb9:=zau hb8 1 (.slice a8 (s.hist.length+1) c8);simp only [List.setIfInBounds_toArray,List.set_cons_zero,List.set_cons_succ] at hb9;have hc9:Chg N w (w8.setCell ⟨N,1,none⟩ (.slice a8 (s.hist.length+1) c8)):=(HC6.out.trans (Chg.of_grow hg68)).setCell 1 _;have hst:StAt (hideW H (w8.setCell ⟨N,1,none⟩ (.slice a8 (s.hist.length+1) c8))) { V with pa:=a5,pc:=c5,ha:=a8,hc:=c8 } { s with progs:=s.progs++[doM s.prog x],hist:=s.hist++[x] }:=by
   have hs8:=HS.out.grow ((HC6.out.trans (Chg.of_grow hg68)).hide HH.out.hid.hH);rw [hh9];refine ⟨⟨L1++[(⟨qa,(doM s.prog x).length,qc,doM s.prog x⟩:Lo Ln)],?_,?_⟩,⟨L2++[(⟨xa,x.length,xc,x⟩:Lo Ed)],?_,?_⟩,hs8.ts,hs8.lk,hs8.od⟩
   ·have h:=HPR.out.grow (hg68.hid H);simpa using h
   ·rw [List.map_append,hLx1];rfl
   ·simpa using hhi
   ·rw [List.map_append,hLx2];rfl
  have hr:=HR.out _ hc9 (HH.out.of_chg hc9 (V':={ V with pa:=a5,pc:=c5,ha:=a8,hc:=c8 }) (by rw [hb9];unfold stCells;simp) hst)
  rw [show errV 0=Value.nilIface from rfl] at hr;have HF:=jH hr;clear hr hst hb9 hc9 hh9 hhi hHn hown8 hgr8 hg68 hb8;go_wp2_with fail;exact HF.out
set_option maxRecDepth 100000
set_option maxHeartbeats 8000000
theorem ztj (H:Nat→Bool) (N:Nat) (s:Bn) (w:World) (h:SAt H N w s) (ok:OkB s) (R:Ending→World→Prop)
  (hR:∀ w',Chg N w w'→SAt H N w' (verifyB s).2→R (.returned (errV (verifyB s).1)) w') :
  Calls Tryz.prog 124 #[.pointer (some ⟨N,0,none⟩)] w R:=by
 obtain ⟨V,hb,hs⟩:=h.blk;obtain ⟨c0,c1,c2,c3,c4,c5,c6⟩:=zas hb;have hne:s.progs≠[]:=by intro e;have:=ok.len;rw [e] at this;simp at this
 have hck:0≤s.checks∧s.checks≤80:=by have:=ok.ck;have:=ok.ord;omega
 have ht8:=ok.t8;have HH:=jH h;have HB:=jH hb;have HS:=jH hs;have HR:=jH hR;have HNE:=jH hne;have hNl:=lt_of_block hb;clear hR h hb hs hne ok;have hc:stCells V s=#[.slice V.pa s.progs.length V.pc,.slice V.ha s.hist.length V.hc,.slice V.ta s.tests.length V.tc,.slice V.la s.lk.length V.lc,.int .i64 s.fixes,.int .i64 s.checks,.slice V.oa s.orders.length V.oc]:=rfl;by_cases h8:s.tests.length=0
 ·have hr:=HR.out w (zcn N w) (by unfold verifyB;rw [if_pos h8];exact HH.out)
  unfold verifyB at hr;rw [if_pos h8] at hr;have HF:=jH hr;rw [h8] at c2;clear hr
  go_enter func124,ntmps124
  go_wp2_with fail;exact HF.out
 have h8z:((s.tests.length:Int) == 0)=false:=by rw [beq_eq_false_iff_ne];omega
 have hv:verifyB s=if 0<(failB s.prog s.tests).length then (7,s) else (0,{ s with checks:=s.checks+1 }):=by unfold verifyB;rw [if_neg h8]
 rw [hv] at HR;clear hv
 go_enter func124,ntmps124
 go_wp2_with fail;refine wp_region_held_drew (S:=fun X=>X.heap[N]?=some (.cells (stCells V s) 86 (0,0))∧Grow w X) (by kernel_rfl) ⟨((Grow.refl w).drew).blk HB.out,(Grow.refl w).drew⟩ (fun hH=>?_)
 refine tkA 0 (.pointer (some ⟨N,0,none⟩)) rfl ?_ hH ?_
 ·intro w9 hw9;go_simp
 try simp only [nrm]
 refine tkA 1 (.pointer (some ⟨N,0,none⟩)) rfl ?_ hH ?_
 ·intro w9 hw9;go_simp
 try simp only [nrm]
 refine tkA 2 (.agg #[.slice V.pa s.progs.length V.pc,.slice V.ha s.hist.length V.hc,.slice V.ta s.tests.length V.tc,.slice V.la s.lk.length V.lc,.int .i64 s.fixes,.int .i64 s.checks,.slice V.oa s.orders.length V.oc]) rfl ?_ hH ?_
 ·intro w9 hw9;obtain ⟨d0,d1,d2,d3,d4,d5,d6⟩:=zas hw9.1;go_simp
 try simp only [nrm]
 refine tkA 3 (.pointer (some ⟨N,0,none⟩)) rfl ?_ hH ?_
 ·intro w9 hw9;go_simp
 try simp only [nrm]
 refine tkA 4 (.pointer (some ⟨N,0,none⟩)) rfl ?_ hH ?_
 ·intro w9 hw9;go_simp
 try simp only [nrm]
 refine tkA 5 (.agg #[.slice V.pa s.progs.length V.pc,.slice V.ha s.hist.length V.hc,.slice V.ta s.tests.length V.tc,.slice V.la s.lk.length V.lc,.int .i64 s.fixes,.int .i64 s.checks,.slice V.oa s.orders.length V.oc]) rfl ?_ hH ?_
 ·intro w9 hw9;obtain ⟨d0,d1,d2,d3,d4,d5,d6⟩:=zas hw9.1;go_simp
 try simp only [nrm]
 refine tk1 6 rfl fun K hK=>?_;go_simp;refine zcm H V s _ (HS.out.grow (hH.2.hid H)) HNE.out _ ?_;intro w1 pv hg1 hpv;go_wp2_with fail;have HP1:=jH hpv;obtain ⟨pa,pc,rfl,p1,p2,jk1⟩:=hpv;clear jk1;refine hK.out _ _ ⟨hg1.blk hH.1,hH.2.trans hg1⟩ ?_;clear hK K hH;intro hH;try simp only [nrm]
 refine tk1 7 rfl fun K hK=>?_;go_simp;refine zdl H s.prog _ V s _ HP1.out.unhide (HS.out.grow (hH.2.hid H)) _ ?_;intro w2 fv hg2 hfv;go_wp2_with fail;have HFV:=jH (hfv.slc zal);have hfl:=(hfv.slc zal).len_le;obtain ⟨fa,fc,rfl,_,_,jk2⟩:=hfv.slc zal;clear jk2 hfv;refine hK.out _ _ ⟨hg2.blk hH.1,hH.2.trans hg2⟩ ?_;clear hK K hH;intro hH;try simp only [nrm]
 refine tkA 8 (.int .i64 (failB s.prog s.tests).length) rfl ?_ hH ?_
 ·intro w9 hw9;go_simp
 try simp only [nrm]
 refine tkA 9 (.bool (decide ((0:Int)<((failB s.prog s.tests).length:Int)))) rfl ?_ hH ?_
 ·intro w9 hw9;go_simp
 try simp only [nrm]
 refine wpAnyH_done (by kernel_rfl) ?_ _
 obtain ⟨e0,e1,e2,e3,e4,e5,e6⟩:=zas hH.1;have z5:=zac hH.1 5;have HB2:=jH hH.1;have HG2:=jH hH.2;clear hH hg1 hg2 c0 c1 c2 c3 c4 c5 c6;obtain ⟨n,hn⟩:∃ n,(failB s.prog s.tests).length=n:=⟨_,rfl⟩;rw [hn] at HR HFV hfl ⊢;clear hn HFV;by_cases h0:0<n
 ·rw [if_pos h0] at HR;have h0z:(0:Int)<(n:Int):=by omega
  have HF:=jH (HR.out _ (Chg.of_grow HG2.out) (HH.out.grow HG2.out));go_wp2_with fail;exact HF.out
 ·rw [if_neg h0] at HR;have h0z:¬ (0:Int)<(n:Int):=by omega
  go_wp2_with fail;have hh9:hideW H (w2.setCell ⟨N,5,none⟩ (.int .i64 (s.checks+1)))=hideW H w2:=zak (a:=⟨N,5,none⟩) HH.out.hid.hH _;have hc9:Chg N w (w2.setCell ⟨N,5,none⟩ (.int .i64 (s.checks+1))):=(Chg.of_grow HG2.out).setCell 5 _;have hb9:=zau HB2.out 5 (.int .i64 (s.checks+1));exact HR.out _ hc9 (HH.out.of_chg hc9 (V':=V) (by rw [hb9];unfold stCells;simp) (by rw [hh9];have h9:=HS.out.grow (HG2.out.hid H);exact ⟨h9.pr,h9.hi,h9.ts,h9.lk,h9.od⟩))
theorem zqi {s:Bn} {x:List Ed} (h:(repairB s x).1≠0):(repairB s x).2=s:=by
 unfold repairB at h ⊢
 repeat' split
 all_goals first | rfl | (exfalso;simp_all)
theorem zqt (p:List Ln) (ts:List Tst):allPass p (ts.map noV)=allPass p ts:=by unfold allPass;rw [List.all_map];rfl
theorem zrn (p:List Ln) (x:List Ed) (ts:List Tst):chkX p x (ts.map noV)=chkX p x ts:=by unfold chkX;rw [zjb]
theorem zos (p:List Ln) (x:List Ed) (ts:List Tst):goodM p x (ts.map noV)=goodM p x ts:=by unfold goodM;rw [List.all_map];rfl
theorem zng (p:List Ln) (ts:List Tst) (k:Int):sgtE p (ts.map noV) k=sgtE p ts k:=by unfold sgtE;rw [zsm,zqt]
theorem zvb (p:List Ln) (ts:List Tst) (C:Nat→List Ln) (k:Nat):everyN p (ts.map noV) C k=everyN p ts C k:=by
 unfold everyN fixE fixB;simp only [zrn,zos]
theorem dblB_noV (p:List Ln) (ts:List Tst) (x y:Ed):dblB p (ts.map noV) x y=dblB p ts x y:=by unfold dblB;rw [zrn,zos]
theorem zmd (p:List Ln) (ts:List Tst):∀ l:List Ed,pairsL p (ts.map noV) l=pairsL p ts l
 | []=>rfl
 | x :: r=>by
  unfold pairsL;rw [zmd p ts r];unfold pairX;rw [show dblB p (ts.map noV) x=dblB p ts x from funext fun y=>dblB_noV p ts x y]
theorem sngl_noV {p:List Ln} {ts:List Tst} {k:Int} {e:Ed} {ok:Bool}:SnglP p (ts.map noV) k e ok↔SnglP p ts k e ok:=by unfold SnglP;rw [zng,zvb]
theorem dbl_noV {p:List Ln} {ts:List Tst} {x:List Ed} {ok:Bool}:DblP p (ts.map noV) x ok↔DblP p ts x ok:=by unfold DblP;rw [zng,zmd]
theorem zxj {p:List Ln} {ts:List Tst} {x:List Ed} {n:Int} {ok:Bool} (h:RepP p ts x n ok):RepP p (ts.map noV) x n ok:=by
 unfold RepP at h ⊢;simp only [zng,sngl_noV,dbl_noV];exact h
theorem fix_any (H:Nat→Bool) (N:Nat) (s:Bn) (w:World) (h:SAt H N w s) (ok:OkB s) (R:Ending→World→Prop)
  (hR:∀ w',Chg N w w'→SAt H N w' (fixBn s).2→R (.returned (errV (fixBn s).1)) w') :
  Calls Tryz.prog 123 #[.pointer (some ⟨N,0,none⟩)] w R:=by
 obtain ⟨V,hb,hs⟩:=h.blk;obtain ⟨c0,c1,c2,c3,c4,c5,c6⟩:=zas hb;have hne:s.progs≠[]:=by intro e;have:=ok.len;rw [e] at this;simp at this
 have hck:0≤s.fixes∧s.fixes≤80:=by have:=ok.fx;have:=ok.ord;omega
 have ht8:=ok.t8;have hh8:=ok.h8;have HOKB:=jH ok;have HH:=jH h;have HB:=jH hb;have HS:=jH hs;have HR:=jH hR;have HNE:=jH hne;have hNl:=lt_of_block hb;clear hR h hb hs hne ok;have hc:stCells V s=#[.slice V.pa s.progs.length V.pc,.slice V.ha s.hist.length V.hc,.slice V.ta s.tests.length V.tc,.slice V.la s.lk.length V.lc,.int .i64 s.fixes,.int .i64 s.checks,.slice V.oa s.orders.length V.oc]:=rfl
 go_enter func123,ntmps123
 go_wp2_with fail;refine wp_region_held_drew (S:=fun X=>X.heap[N]?=some (.cells (stCells V s) 86 (0,0))∧Grow w X) (by kernel_rfl) ⟨((Grow.refl w).drew).blk HB.out,(Grow.refl w).drew⟩ (fun hH=>?_)
 refine tkA 0 (.pointer (some ⟨N,0,none⟩)) rfl ?_ hH ?_
 ·intro w9 hw9;go_simp
 try simp only [nrm]
 refine tkA 1 (.pointer (some ⟨N,0,none⟩)) rfl ?_ hH ?_
 ·intro w9 hw9;go_simp
 try simp only [nrm]
 refine tkA 2 (.agg #[.slice V.pa s.progs.length V.pc,.slice V.ha s.hist.length V.hc,.slice V.ta s.tests.length V.tc,.slice V.la s.lk.length V.lc,.int .i64 s.fixes,.int .i64 s.checks,.slice V.oa s.orders.length V.oc]) rfl ?_ hH ?_
 ·intro w9 hw9;obtain ⟨d0,d1,d2,d3,d4,d5,d6⟩:=zas hw9.1;go_simp
 try simp only [nrm]
 refine tkA 3 (.pointer (some ⟨N,0,none⟩)) rfl ?_ hH ?_
 ·intro w9 hw9;go_simp
 try simp only [nrm]
 refine tkA 4 (.pointer (some ⟨N,0,none⟩)) rfl ?_ hH ?_
 ·intro w9 hw9;go_simp
 try simp only [nrm]
 refine tkA 5 (.agg #[.slice V.pa s.progs.length V.pc,.slice V.ha s.hist.length V.hc,.slice V.ta s.tests.length V.tc,.slice V.la s.lk.length V.lc,.int .i64 s.fixes,.int .i64 s.checks,.slice V.oa s.orders.length V.oc]) rfl ?_ hH ?_
 ·intro w9 hw9;obtain ⟨d0,d1,d2,d3,d4,d5,d6⟩:=zas hw9.1;go_simp
 try simp only [nrm]
 refine tk1 6 rfl fun K hK=>?_;go_simp;refine zcm H V s _ (HS.out.grow (hH.2.hid H)) HNE.out _ ?_;intro w1 pv hg1 hpv;go_wp2_with fail;have HP1:=jH hpv;obtain ⟨pa,pc,rfl,p1,p2,jk1⟩:=hpv;clear jk1;refine hK.out _ _ ⟨hg1.blk hH.1,hH.2.trans hg1⟩ ?_;clear hK K hH;intro hH;try simp only [nrm]
 refine tk1 7 rfl fun K hK=>?_;go_simp;refine zdl H s.prog _ V s _ HP1.out.unhide (HS.out.grow (hH.2.hid H)) _ ?_;intro w2 fv hg2 hfv;go_wp2_with fail;have HFV:=jH (hfv.slc zal);have hfl:=(hfv.slc zal).len_le;obtain ⟨fa,fc,rfl,_,_,jk2⟩:=hfv.slc zal;clear jk2 hfv;refine hK.out _ _ ⟨hg2.blk hH.1,hH.2.trans hg2⟩ ?_;clear hK K hH;intro hH;try simp only [nrm]
 refine tkA 8 (.int .i64 (failB s.prog s.tests).length) rfl ?_ hH ?_
 ·intro w9 hw9;go_simp
 try simp only [nrm]
 refine tkA 9 (.bool (((failB s.prog s.tests).length:Int) == (0:Int))) rfl ?_ hH ?_
 ·intro w9 hw9;go_simp
 try simp only [nrm]
 refine wpAnyH_done (by kernel_rfl) ?_ _
 obtain ⟨e0,e1,e2,e3,e4,e5,e6⟩:=zas hH.1;have HB2:=jH hH.1;have HG2:=jH hH.2;clear hH hg1 hg2 c0 c1 c2 c3 c4 c5 c6;obtain ⟨n,hn⟩:∃ n,(failB s.prog s.tests).length=n:=⟨_,rfl⟩;have hv:fixBn s=if n=0 then (8,s) else if s.hist.length=8 then (3,s) else match fixX s.prog s.tests with | none=>(4,s) | some x=>if (repairB s x).1≠0 then ((repairB s x).1,s) else (0,{ (repairB s x).2 with fixes:=(repairB s x).2.fixes+1 }):=by unfold fixBn;rw [hn];rfl
 rw [hv] at HR;rw [hn] at HFV hfl ⊢;clear hn HFV hv;by_cases h0:n=0
 ·subst h0;rw [if_pos rfl] at HR;have HF:=jH (HR.out _ (Chg.of_grow HG2.out) (HH.out.grow HG2.out));go_wp2_with fail;exact HF.out
 rw [if_neg h0] at HR;have h0z:((n:Int) == 0)=false:=by rw [beq_eq_false_iff_ne];omega
 clear h0;by_cases h8:s.hist.length=8
 ·rw [if_pos h8] at HR;have HF:=jH (HR.out _ (Chg.of_grow HG2.out) (HH.out.grow HG2.out));rw [h8] at e1;go_wp2_with fail;exact HF.out
 rw [if_neg h8] at HR;have h8z:((s.hist.length:Int) == 8)=false:=by rw [beq_eq_false_iff_ne];omega
 go_wp2_with fail;obtain ⟨T,hT,hTx⟩:=HS.out.ts;have HT:=jH hT;have HTX:=jH hTx;clear hT hTx;refine wp_region_held_drew (S:=fun X=>X.heap[N]?=some (.cells (stCells V s) 86 (0,0))∧Grow w X) (by kernel_rfl) ⟨((Grow.refl w2).drew).blk HB2.out,HG2.out.trans (Grow.refl w2).drew⟩ (fun hH=>?_)
 refine tkA 0 (.pointer (some ⟨N,0,none⟩)) rfl ?_ hH ?_
 ·intro w9 hw9;go_simp
 try simp only [nrm]
 refine tkA 1 (.pointer (some ⟨N,0,none⟩)) rfl ?_ hH ?_
 ·intro w9 hw9;go_simp
 try simp only [nrm]
 refine tkA 2 (.agg #[.slice V.pa s.progs.length V.pc,.slice V.ha s.hist.length V.hc,.slice V.ta s.tests.length V.tc,.slice V.la s.lk.length V.lc,.int .i64 s.fixes,.int .i64 s.checks,.slice V.oa s.orders.length V.oc]) rfl ?_ hH ?_
 ·intro w9 hw9;obtain ⟨d0,d1,d2,d3,d4,d5,d6⟩:=zas hw9.1;go_simp
 try simp only [nrm]
 refine tkA 4 (.pointer (some ⟨N,0,none⟩)) rfl ?_ hH ?_
 ·intro w9 hw9;go_simp
 try simp only [nrm]
 refine tkA 5 (.pointer (some ⟨N,0,none⟩)) rfl ?_ hH ?_
 ·intro w9 hw9;go_simp
 try simp only [nrm]
 refine tkA 6 (.pointer (some ⟨N,2,none⟩)) rfl ?_ hH ?_
 ·intro w9 hw9;go_simp
 try simp only [nrm]
 refine tkA 7 (.slice V.ta s.tests.length V.tc) rfl ?_ hH ?_
 ·intro w9 hw9;obtain ⟨d0,d1,d2,d3,d4,d5,d6⟩:=zas hw9.1;go_simp
 try simp only [nrm]
 refine tk1 3 rfl fun K hK=>?_;go_simp;refine zcm H V s _ (HS.out.grow (hH.2.hid H)) HNE.out _ ?_;intro w3 pv hg3 hpv;go_wp2_with fail;have HP3:=jH hpv;obtain ⟨pa3,pc3,rfl,p13,p23,jk3⟩:=hpv;clear jk3;refine hK.out _ _ ⟨hg3.blk hH.1,hH.2.trans hg3⟩ ?_;clear hK K hH;intro hH;try simp only [nrm]
 refine tk1 8 rfl fun K hK=>?_;go_simp;refine Repair_any s.prog (T.map Tq.t) _ _ _ HP3.out.unhide (HT.out.grow (hH.2.hid H)).unhide.tests _ ?_;intro w4 xv x rn okb hg4 hxv hnx hrep;have HNX:=jH (hnx.mono hH.2.sz);clear hnx;go_wp2_with fail;have HXV:=jH hxv;have hrep2:=zxj hrep;rw [noV_t,HTX.out] at hrep2;have HFX:=jH (zql hrep2);obtain ⟨xa,xc,rfl,_,_,jk4⟩:=hxv;obtain ⟨er,her⟩:∃ e,sgtE s.prog (T.map Tq.t) 0=e:=⟨_,rfl⟩;rw [her];clear jk4 hrep hrep2 her;refine hK.out _ _ ⟨hg4.blk hH.1,hH.2.trans hg4⟩ ?_;clear hK K hH;intro hH;try simp only [nrm]
 refine tkA 9 (.tuple #[.slice xa x.length xc,.int .i64 rn,.bool okb,.int .i64 er]) rfl ?_ hH ?_
 ·intro w9 hw9;go_simp
 try simp only [nrm]
 refine tkA 10 (.slice xa x.length xc) rfl ?_ hH ?_
 ·intro w9 hw9;go_simp
 try simp only [nrm]
 refine tkA 11 (.int .i64 rn) rfl ?_ hH ?_
 ·intro w9 hw9;go_simp
 try simp only [nrm]
 refine tkA 12 (.bool okb) rfl ?_ hH ?_
 ·intro w9 hw9;go_simp
 try simp only [nrm]
 refine tkA 13 (.int .i64 er) rfl ?_ hH ?_
 ·intro w9 hw9;go_simp
 try simp only [nrm]
 refine tkA 14 (.slice xa x.length xc) rfl ?_ hH ?_
 ·intro w9 hw9;go_simp
 try simp only [nrm]
 refine tkA 15 (.int .i64 rn) rfl ?_ hH ?_
 ·intro w9 hw9;go_simp
 try simp only [nrm]
 refine tkA 16 (.bool okb) rfl ?_ hH ?_
 ·intro w9 hw9;go_simp
 try simp only [nrm]
 refine tkA 17 (.int .i64 er) rfl ?_ hH ?_
 ·intro w9 hw9;go_simp
 try simp only [nrm]
 refine wpAnyH_done (by kernel_rfl) ?_ _
 have hh4:=HH.out.grow hH.2;obtain ⟨f0,f1,f2,f3,f4,f5,f6⟩:=zas hH.1;have HG4:=jH hH.2;have HH4:=jH hh4;have HX4:=jH (HXV.out.hide_new HNX.out (fun b hb=>HH.out.hid.new b hb));clear hH hg3 hg4 hh4 e0 e1 e2 e3 e4 e5 e6;rw [HFX.out] at HR;cases okb with
 | false=>
  rw [if_neg (by decide)] at HR
  have HF:=jH (HR.out _ (Chg.of_grow HG4.out) HH4.out);go_wp2_with fail;exact HF.out
 | true=>
  rw [if_pos rfl] at HR;dsimp only at HR;go_wp2_with fail;refine zml H N x _ s _ HX4.out HH4.out HOKB.out _ ?_;intro w5 hc5 hs5;obtain ⟨e,he⟩:∃ e,(repairB s x).1=e:=⟨_,rfl⟩;rw [he] at HR ⊢;have hrest:=ziq s x;have hsame:e≠0→(repairB s x).2=s:=fun h=>zqi (by rw [he];exact h)
  obtain ⟨V5,hb5,hst5⟩:=hs5.blk;obtain ⟨g0,g1,g2,g3,g4,g5,g6⟩:=zas hb5;have hfx:(repairB s x).2.fixes=s.fixes:=hrest.1;rw [hfx] at g4;have HC5:=jH ((Chg.of_grow HG4.out).trans hc5);have HS5:=jH hs5;have HB5:=jH hb5;have HST5:=jH hst5;have HFX5:=jH hfx;have z4:=zac hb5 4;clear hc5 hs5 hb5 hst5 hrest hfx he f0 f1 f2 f3 f4 f5 f6;by_cases h0:e=0;rotate_left
  ·rw [if_pos h0] at HR;have hr:=HR.out _ HC5.out (by have:=HS5.out;rw [hsame h0] at this;exact this)
   have HF:=jH hr;unfold errV at HF;rw [if_neg h0] at HF;unfold errV;rw [if_neg h0];clear hr h0;go_wp2_with fail;exact HF.out
  subst h0;rw [if_neg (by simp)] at HR
  rw [show errV 0=Value.nilIface from rfl] at HR ⊢;clear hsame;go_wp2_with fail;have hh9:hideW H (w5.setCell ⟨N,4,none⟩ (.int .i64 (s.fixes+1)))=hideW H w5:=zak (a:=⟨N,4,none⟩) HH.out.hid.hH _;have hc9:Chg N w (w5.setCell ⟨N,4,none⟩ (.int .i64 (s.fixes+1))):=HC5.out.setCell 4 _;have hb9:=zau HB5.out 4 (.int .i64 (s.fixes+1));exact HR.out _ hc9 (HH.out.of_chg hc9 (V':=V5) (by rw [hb9];unfold stCells;simp [HFX5.out]) (by rw [hh9];have h9:=HST5.out;exact ⟨h9.pr,h9.hi,h9.ts,h9.lk,h9.od⟩))
set_option maxRecDepth 100000
set_option maxHeartbeats 8000000
theorem Chg.cell {B:Nat} {w w':World} (h:Chg B w w') {a:Addr} {v:Value} (ha:a.block≠B) (hc:w.cell? a=some v):w'.cell? a=some v:=by
 have hlt:=World.block_lt_of_cell? _ _ hc;obtain ⟨o,ho⟩:∃ o,w.heap[a.block]?=some o:=⟨_,Array.getElem?_eq_getElem hlt⟩;rw [World.cell?_of_block (w:=w) (w':=w') (a:=a) ((h.blk ha ho).trans ho.symm)];exact hc
theorem put_any (H:Nat→Bool) (N:Nat) (l:List Int) (i op d a b:Int) (lv:Value) (s:Bn) (w:World) (hl:IntsAt w lv l) (hle:l=[i,op,d,a,b]) (hlN:∀ bb oo n c,lv=.slice (some ⟨bb,oo,none⟩) n c→bb≠N) (h:SAt H N w s) (ok:OkB s) (R:Ending→World→Prop)
  (hR:∀ w',Chg N w w'→SAt H N w' (putB s i ⟨op,d,a,b⟩).2→R (.returned (errV (putB s i ⟨op,d,a,b⟩).1)) w') :
  Calls Tryz.prog 118 #[.pointer (some ⟨N,0,none⟩),lv] w R:=by
 obtain ⟨V,hb,hs⟩:=h.blk;obtain ⟨c0,c1,c2,c3,c4,c5,c6⟩:=zas hb;have hne:s.progs≠[]:=by intro e;have:=ok.len;rw [e] at this;simp at this
 have HOKB:=jH ok;have HH:=jH h;have HB:=jH hb;have HS:=jH hs;have HR:=jH hR;have HNE:=jH hne;have hNl:=lt_of_block hb;have hli:=hl;obtain ⟨la,lc,rfl,l1,l2,jk⟩:=hli;obtain ⟨lb,lo,rfl,hlb,x0⟩:=zcu hl (k:=0) (x:=i) (by rw [hle];rfl)
 obtain ⟨_,_,e1,_,x1⟩:=zcu hl (k:=1) (x:=op) (by rw [hle];rfl)
 cases e1;obtain ⟨_,_,e1,_,x2⟩:=zcu hl (k:=2) (x:=d) (by rw [hle];rfl)
 cases e1;obtain ⟨_,_,e1,_,x3⟩:=zcu hl (k:=3) (x:=a) (by rw [hle];rfl)
 cases e1;obtain ⟨_,_,e1,_,x4⟩:=zcu hl (k:=4) (x:=b) (by rw [hle];rfl)
 cases e1;rw [Nat.add_zero] at x0;have hlbN:=hlN _ _ _ _ rfl;clear hlN;have hll:l.length=5:=by rw [hle];rfl
 rw [hll] at l1 ⊢;clear hR h hb hs hne ok jk hl hll hle;have hc:stCells V s=#[.slice V.pa s.progs.length V.pc,.slice V.ha s.hist.length V.hc,.slice V.ta s.tests.length V.tc,.slice V.la s.lk.length V.lc,.int .i64 s.fixes,.int .i64 s.checks,.slice V.oa s.orders.length V.oc]:=rfl
 go_enter func118,ntmps118
 go_wp2_with fail
 go_region
 have hbx:=heap_alloc_new w (.cells #[.int .i64 op,.int .i64 d,.int .i64 a,.int .i64 b] 57);have hgx:=(Grow.refl w).alloc (.cells #[.int .i64 op,.int .i64 d,.int .i64 a,.int .i64 b] 57);have hbx2:((w.alloc (.cells #[.int .i64 op,.int .i64 d,.int .i64 a,.int .i64 b] 57)).drew).heap[w.heap.size]?=some (.cells #[.int .i64 op,.int .i64 d,.int .i64 a,.int .i64 b] 57 (0,0)):=hbx;have hgx2:=hgx.drew;go_wp2_with fail;refine zcm H V s _ (HS.out.grow (hgx2.hid H)) HNE.out _ ?_;intro w2 pv hg2 hpv;have HP:=jH hpv;have HPU:=jH hpv.unhide;have hgw:=hgx2.trans hg2;have HG:=jH hgw;have HBX:=jH (hg2.blk hbx2);have y0:=hgw.cell x0;have hz:=hgw.sz;obtain ⟨pa,pc,rfl,p1,p2,jk1⟩:=hpv;clear hgw hg2 hgx2 hgx hbx hbx2 jk1 c0 c1 c2 c3 c4 c5 c6 x0 x1 x2 x3 x4;by_cases hi0:i<0
 ·have hr:=HR.out w2 (Chg.of_grow HG.out) (by unfold putB;rw [if_pos (.inl hi0)];exact HH.out.grow HG.out)
  unfold putB at hr;rw [if_pos (.inl hi0)] at hr;have HF:=jH hr;have hi0z:decide (i<0)=true:=by rw [decide_eq_true_eq];exact hi0
  clear hr;go_wp2_with fail;exact HF.out
 have hi0z:decide (i<0)=false:=by rw [decide_eq_false_iff_not];exact hi0
 by_cases hil:(s.prog.length:Int)≤i
 ·have hr:=HR.out w2 (Chg.of_grow HG.out) (by unfold putB;rw [if_pos (.inr hil)];exact HH.out.grow HG.out)
  unfold putB at hr;rw [if_pos (.inr hil)] at hr;have HF:=jH hr;have hilz:decide (i≥(s.prog.length:Int))=true:=by rw [decide_eq_true_eq];exact hil
  clear hr;go_wp2_with fail;exact HF.out
 have hilz:decide (i≥(s.prog.length:Int))=false:=by rw [decide_eq_false_iff_not];exact hil
 have hv:putB s i ⟨op,d,a,b⟩=if vL op d a b=false then (1,s) else if lineAt s.prog i=⟨op,d,a,b⟩ then (5,s) else repairB s [⟨i,⟨op,d,a,b⟩⟩]:=by
  unfold putB;rw [if_neg (by omega)];rfl
 rw [hv] at HR;clear hv;obtain ⟨e0,e1,e2,e3⟩:=box4 HBX.out;go_wp2_with fail;refine zbe op d a b _ _ ?_;intro w3 hg3;obtain ⟨bb,hbb⟩:∃ q,vL op d a b=q:=⟨_,rfl⟩;rw [hbb] at HR ⊢;have HG3:=jH (HG.out.trans hg3);have HG23:=jH hg3;clear hbb hg3;cases bb with
 | false=>
  rw [if_pos rfl] at HR;have HF:=jH (HR.out w3 (Chg.of_grow HG3.out) (HH.out.grow HG3.out));have t1:(errB false != 0)=true:=rfl;have t2:errB false=1:=rfl;rw [t2];go_wp2_with fail;exact HF.out
 | true=>
  rw [if_neg (by decide)] at HR
  obtain ⟨k,rfl⟩:∃ k:Nat,i=k:=⟨i.toNat,by omega⟩
  obtain ⟨⟨p0,px1,px2,px3⟩,hpk⟩:∃ x,s.prog[k]?=some x:=⟨_,List.getElem?_eq_getElem (by omega)⟩
  have hla:lineAt s.prog (k:Int)=⟨p0,px1,px2,px3⟩:=by unfold lineAt;rw [Int.toNat_natCast,hpk];rfl
  rw [hla] at HR;obtain ⟨pb,po,hpa,hpb,f0,f1,f2,f3⟩:=zbr (HPU.out.grow HG23.out) hpk;subst hpa;have hkl:(k:Int)<(s.prog.length:Int):=by omega
  have y3:=HG23.out.cell y0;have HBX3:=jH (HG23.out.blk HBX.out);rw [show errB true=0 from rfl];clear hpk hla e0 e1 e2 e3;obtain ⟨e0,e1,e2,e3⟩:=box4 HBX3.out;go_wp2_with fail;by_cases heq:(⟨p0,px1,px2,px3⟩:Ln)=⟨op,d,a,b⟩
  ·rw [if_pos heq] at HR;injection heq with q0 q1 q2 q3;subst q0 q1 q2 q3;refine wp_region_held_drew (S:=fun X=>Grow w3 X) (by kernel_rfl) ((Grow.refl w3).drew) (fun hH=>?_)
   refine tkA 0 (.slice (some ⟨pb,po,none⟩) s.prog.length pc) rfl ?_ hH ?_
   ·intro w9 hw9;go_simp
   try simp only [nrm]
   refine tkA 1 (.slice (some ⟨lb,lo,none⟩) 5 lc) rfl ?_ hH ?_
   ·intro w9 hw9;go_simp
   try simp only [nrm]
   refine tkA 2 (.pointer (some ⟨lb,lo,none⟩)) rfl ?_ hH ?_
   ·intro w9 hw9;go_simp
   try simp only [nrm]
   refine tkA 3 (.int .i64 (k:Int)) rfl ?_ hH ?_
   ·intro w9 hw9;have y9:=Grow.cell hw9 y3;go_simp
   try simp only [nrm]
   refine tkA 4 (.pointer (some ⟨pb,po+k * 4,none⟩)) rfl ?_ hH ?_
   ·intro w9 hw9;go_simp
   try simp only [nrm]
   refine tkA 5 (.agg #[.int .i64 p0,.int .i64 px1,.int .i64 px2,.int .i64 px3]) rfl ?_ hH ?_
   ·intro w9 hw9;have g0:=Grow.cell hw9 f0;have g1:=Grow.cell hw9 f1;have g2:=Grow.cell hw9 f2;have g3:=Grow.cell hw9 f3;go_simp
   try simp only [nrm]
   refine tkA 6 (.agg #[.int .i64 p0,.int .i64 px1,.int .i64 px2,.int .i64 px3]) rfl ?_ hH ?_
   ·intro w9 hw9;have g0:=Grow.cell hw9 e0;have g1:=Grow.cell hw9 e1;have g2:=Grow.cell hw9 e2;have g3:=Grow.cell hw9 e3;go_simp
   try simp only [nrm]
   refine tkA 7 (.bool true) rfl ?_ hH ?_
   ·intro w9 hw9;go_simp
   try simp only [nrm]
   refine tkA 8 (.bool true) rfl ?_ hH ?_
   ·intro w9 hw9;go_simp
   try simp only [nrm]
   refine wpAnyH_done (by kernel_rfl) ?_ _
   have HF:=jH (HR.out _ (Chg.of_grow (HG3.out.trans hH)) (HH.out.grow (HG3.out.trans hH)));clear hH;go_wp2_with fail;exact HF.out
  ·rw [if_neg heq] at HR;refine wp_region_held_drew (S:=fun X=>Grow w3 X) (by kernel_rfl) ((Grow.refl w3).drew) (fun hH=>?_)
   refine tkA 0 (.slice (some ⟨pb,po,none⟩) s.prog.length pc) rfl ?_ hH ?_
   ·intro w9 hw9;go_simp
   try simp only [nrm]
   refine tkA 1 (.slice (some ⟨lb,lo,none⟩) 5 lc) rfl ?_ hH ?_
   ·intro w9 hw9;go_simp
   try simp only [nrm]
   refine tkA 2 (.pointer (some ⟨lb,lo,none⟩)) rfl ?_ hH ?_
   ·intro w9 hw9;go_simp
   try simp only [nrm]
   refine tkA 3 (.int .i64 (k:Int)) rfl ?_ hH ?_
   ·intro w9 hw9;have y9:=Grow.cell hw9 y3;go_simp
   try simp only [nrm]
   refine tkA 4 (.pointer (some ⟨pb,po+k * 4,none⟩)) rfl ?_ hH ?_
   ·intro w9 hw9;go_simp
   try simp only [nrm]
   refine tkA 5 (.agg #[.int .i64 p0,.int .i64 px1,.int .i64 px2,.int .i64 px3]) rfl ?_ hH ?_
   ·intro w9 hw9;have g0:=Grow.cell hw9 f0;have g1:=Grow.cell hw9 f1;have g2:=Grow.cell hw9 f2;have g3:=Grow.cell hw9 f3;go_simp
   try simp only [nrm]
   refine tkA 6 (.agg #[.int .i64 op,.int .i64 d,.int .i64 a,.int .i64 b]) rfl ?_ hH ?_
   ·intro w9 hw9;have g0:=Grow.cell hw9 e0;have g1:=Grow.cell hw9 e1;have g2:=Grow.cell hw9 e2;have g3:=Grow.cell hw9 e3;go_simp
   try simp only [nrm]
   have hun:p0≠op∨px1≠d∨px2≠a∨px3≠b:=by
    by_cases q0:p0=op
    ·by_cases q1:px1=d
     ·by_cases q2:px2=a
      ·by_cases q3:px3=b
       ·subst q0 q1 q2 q3;exact absurd rfl heq
       ·exact .inr (.inr (.inr q3))
      ·exact .inr (.inr (.inl q2))
     ·exact .inr (.inl q1)
    ·exact .inl q0
   refine tkA 7 (.bool false) rfl ?_ hH ?_
   ·intro w9 hw9;rcases hun with q | q | q | q<;>(have t1:=beq_eq_false_iff_ne.2 q;go_simp)
   try simp only [nrm]
   refine tkA 8 (.bool false) rfl ?_ hH ?_
   ·intro w9 hw9;go_simp
   try simp only [nrm]
   refine wpAnyH_done (by kernel_rfl) ?_ _
   clear hun;have HG4:=jH (HG3.out.trans hH);have y4:=Grow.cell hH y3;have HBX4:=jH (Grow.blk hH HBX3.out);clear hH f0 f1 f2 f3 e0 e1 e2 e3;go_wp2_with fail;generalize w3.drew=w4 at HG4 y4 HBX4 ⊢;have hNb:w.heap.size≠N:=by omega
   refine wp_region_held_drew (S:=fun X=>Chg N w4 X) (by kernel_rfl) (Chg.of_grow (Grow.refl w4).drew) (fun hH=>?_)
   refine tkA 0 (.pointer (some ⟨N,0,none⟩)) rfl ?_ hH ?_
   ·intro w9 hw9;go_simp
   try simp only [nrm]
   refine tkA 1 (.slice (some ⟨lb,lo,none⟩) 5 lc) rfl ?_ hH ?_
   ·intro w9 hw9;go_simp
   try simp only [nrm]
   refine tkA 2 (.pointer (some ⟨lb,lo,none⟩)) rfl ?_ hH ?_
   ·intro w9 hw9;go_simp
   try simp only [nrm]
   refine tkA 3 (.int .i64 (k:Int)) rfl ?_ hH ?_
   ·intro w9 hw9;have y9:=Chg.cell hw9 hlbN y4;go_simp
   try simp only [nrm]
   refine tkA 4 (.agg #[.int .i64 op,.int .i64 d,.int .i64 a,.int .i64 b]) rfl ?_ hH ?_
   ·intro w9 hw9;obtain ⟨g0,g1,g2,g3⟩:=box4 (Chg.blk hw9 hNb HBX4);go_simp
   try simp only [nrm]
   refine tkA 5 (.agg #[.int .i64 (k:Int),.int .i64 op,.int .i64 d,.int .i64 a,.int .i64 b]) rfl ?_ hH ?_
   ·intro w9 hw9;go_simp
   try simp only [nrm]
   refine tk1 6 rfl fun K hK=>?_;go_simp;refine hK.out _ _ (Chg.of_grow ((Grow.refl w4).drew.alloc _)) ?_;clear hK K hH;intro hH;try simp only [nrm]
   refine tk1 7 rfl fun K hK=>?_;go_simp;have hgl:=HG4.trans ((Grow.refl w4).drew.alloc (.cells #[.int .i64 (k:Int),.int .i64 op,.int .i64 d,.int .i64 a,.int .i64 b] 60));have hhl:=HH.out.grow hgl;refine zml H N [⟨(k:Int),⟨op,d,a,b⟩⟩] _ s _ ((zfq w4.drew (k:Int) op d a b 60).hide_new (base:=w4.drew.heap.size) (fun a9 n9 c9 e9=>by cases e9;exact Nat.le_refl _) (fun b9 hb9=>(HH.out.grow (HG4.trans (Grow.refl w4).drew)).hid.new b9 hb9)) hhl HOKB.out _ ?_
   intro w5 hc5 hs5;have HF:=jH (HR.out w5 ((Chg.of_grow hgl).trans hc5) hs5);clear hs5 hhl;obtain ⟨ev,hev⟩:∃ v,errV (repairB s [⟨(k:Int),⟨op,d,a,b⟩⟩]).1=v:=⟨_,rfl⟩;rw [hev] at HF ⊢;clear hev;go_wp2_with fail;refine hK.out _ _ ((Chg.of_grow ((Grow.refl w4).drew.alloc _)).trans hc5) ?_;clear hK K hH;intro hH;try simp only [nrm]
   refine tkA 8 (ev) rfl ?_ hH ?_
   ·intro w9 hw9;go_simp
   try simp only [nrm]
   refine wpAnyH_done (by kernel_rfl) ?_ _
   clear hH hc5 hgl;go_wp2_with fail;exact HF.out
set_option maxRecDepth 100000
set_option maxHeartbeats 8000000
theorem zmw {α:Type} {k:Nat} {enc:α→List Value} {H:Nat→Bool} {w:World} {base:Nat} {T:TypeId} {v:Value} {L:List (Lo α)} (hown:w.ownsRow base T 1 v L.length (L.flatMap encLo)) (hL:∀ u∈L,SlcAt k enc (hideW H w) u.v u.x) (hH:∀ b,base≤b→H b=false):LlAt k enc (hideW H w) v L:=
 ⟨(zaa zaz hown).hide_new (NewS.of_own (show Own 1 encLo base w v L from ⟨T,hown⟩)) hH,hL⟩
theorem SlcAt.take {α:Type} {k:Nat} {enc:α→List Value} {w:World} {a:Option Addr} {n c:Nat} {xs:List α} (h:SlcAt k enc w (.slice a n c) xs) {m:Nat} (hm:m≤xs.length):SlcAt k enc w (.slice a m c) (xs.take m):=by
 obtain ⟨a',c',e,h2,h3,h4⟩:=h;cases e;have hl:(xs.take m).length=m:=by rw [List.length_take];omega
 refine ⟨a,c,by rw [hl],by rw [hl];omega,h3,?_⟩
 rcases h4 with ⟨h4,h5⟩ | ⟨b,o,e,hb,hc⟩
 ·exact .inl ⟨by rw [h4];simp,h5⟩
 ·refine .inr ⟨b,o,e,hb,fun j x hx i u hu=>?_⟩;rw [List.getElem?_take] at hx
  split at hx
  ·exact hc j x hx i u hu
  ·cases hx
theorem st7 {w:World} {N:Nat} {v0 v1 v2 v3 v4 v5 v6:Value} {T:TypeId} (hb:w.heap[N]?=some (.cells #[v0,v1,v2,v3,v4,v5,v6] T (0,0))) :
  w.cell? ⟨N,0,none⟩=some v0∧w.cell? ⟨N,1,none⟩=some v1∧w.cell? ⟨N,2,none⟩=some v2∧w.cell? ⟨N,3,none⟩=some v3∧w.cell? ⟨N,4,none⟩=some v4∧w.cell? ⟨N,5,none⟩=some v5∧w.cell? ⟨N,6,none⟩=some v6:=by
 unfold World.cell?;rw [hb];exact ⟨rfl,rfl,rfl,rfl,rfl,rfl,rfl⟩
theorem zge {G C:Prop} (pf:G) (use:Hid G→C):C:=use pf
theorem undo_any (H:Nat→Bool) (N:Nat) (s:Bn) (w:World) (h:SAt H N w s) (ok:OkB s) (R:Ending→World→Prop)
  (hR:∀ w',Chg N w w'→SAt H N w' (undoB s).2→R (.returned (errV (undoB s).1)) w') :
  Calls Tryz.prog 119 #[.pointer (some ⟨N,0,none⟩)] w R:=by
 obtain ⟨V,hb,hs⟩:=h.blk;obtain ⟨c0,c1,c2,c3,c4,c5,c6⟩:=zas hb;have hh8:=ok.h8;have hpl:=ok.len;have HH:=jH h;have HB:=jH hb;have HS:=jH hs;have HR:=jH hR;have hNl:=lt_of_block hb;clear hR h hb hs ok;have hc:stCells V s=#[.slice V.pa s.progs.length V.pc,.slice V.ha s.hist.length V.hc,.slice V.ta s.tests.length V.tc,.slice V.la s.lk.length V.lc,.int .i64 s.fixes,.int .i64 s.checks,.slice V.oa s.orders.length V.oc]:=rfl;by_cases h0:s.hist.length=0
 ·have hr:=HR.out w (zcn N w) (by unfold undoB;rw [if_pos h0];exact HH.out)
  unfold undoB at hr;rw [if_pos h0] at hr;have HF:=jH hr;rw [h0] at c1;clear hr hpl
  go_enter func119,ntmps119
  go_wp2_with fail;exact HF.out
 have hv:undoB s=if brkB ((s.progs[s.hist.length - 1]?).getD []) s.tests s.lk then (6,s) else (0,{ s with progs:=s.progs.take s.hist.length,hist:=s.hist.take (s.hist.length - 1) }):=by unfold undoB;rw [if_neg h0]
 rw [hv] at HR;clear hv;obtain ⟨L1,hL1,hLx1⟩:=HS.out.pr;obtain ⟨L2,hL2,hLx2⟩:=HS.out.hi;have hl1:L1.length=s.progs.length:=by rw [← hLx1];simp
 have hl2:L2.length=s.hist.length:=by rw [← hLx2];simp
 obtain ⟨m,hm⟩:∃ m,s.hist.length=m+1:=⟨s.hist.length - 1,by omega⟩
 have hp2:s.progs.length=m+2:=by omega
 obtain ⟨⟨ta,tn,tc,tx⟩,ht⟩:∃ t,L1[m]?=some t:=⟨_,List.getElem?_eq_getElem (by omega)⟩
 have htx:(s.progs[m]?).getD []=tx:=by rw [← hLx1,List.getElem?_map,ht];rfl
 have hti:=hL1.ins _ (List.mem_of_getElem? ht);obtain ⟨b,o,hpa,hpb,e0⟩:=lo_at hL1.unhide.at_ ht;rw [hm,Nat.add_sub_cancel,htx] at HR;rw [hm] at c1 hh8;rw [hp2] at c0;rw [hm,hp2] at hc;rw [hpa] at c0 hc;have HL1:=jH hL1;have HL2:=jH hL2;have HTI:=jH (show LinesAt (hideW H w) (.slice ta tn tc) tx from hti);have HLX1:=jH hLx1;have HLX2:=jH hLx2;have HM:=jH hm;have HPA:=jH hpa;have HP2:=jH hp2;have hcp:m+2≤V.pc:=by
  obtain ⟨_,c',e,h2,_⟩:=HL1.out.at_;injection e with e1 e2 e3;have:=HP2.out;omega
 have hch:m+1≤V.hc:=by
  obtain ⟨_,c',e,h2,_⟩:=HL2.out.at_;injection e with e1 e2 e3;have:=HM.out;omega
 have hmz:(((m:Int)+1) == 0)=false:=by rw [beq_eq_false_iff_ne];omega
 have hm8:m≤7:=by omega
 have hB2:=HB.out;rw [hc] at hB2;have HBC:=jH hB2;clear hL1 hL2 hti hLx1 hLx2 hm hpa hp2 hpl h0 hl1 hl2 ht htx hh8 hB2
 go_enter func119,ntmps119
 go_wp2_with fail;refine wp_region_held_drew (S:=fun X=>X.heap[N]?=some (.cells #[.slice (some ⟨b,o,none⟩) (m+2) V.pc,.slice V.ha (m+1) V.hc,.slice V.ta s.tests.length V.tc,.slice V.la s.lk.length V.lc,.int .i64 s.fixes,.int .i64 s.checks,.slice V.oa s.orders.length V.oc] 86 (0,0))∧Grow w X) (by kernel_rfl) ⟨((Grow.refl w).drew).blk HBC.out,(Grow.refl w).drew⟩ (fun hH=>?_)
 refine tkA 0 (.pointer (some ⟨N,0,none⟩)) rfl ?_ hH ?_
 ·intro w9 hw9;go_simp
 try simp only [nrm]
 refine tkA 1 (.pointer (some ⟨N,0,none⟩)) rfl ?_ hH ?_
 ·intro w9 hw9;go_simp
 try simp only [nrm]
 refine tkA 2 (.agg #[.slice (some ⟨b,o,none⟩) (m+2) V.pc,.slice V.ha (m+1) V.hc,.slice V.ta s.tests.length V.tc,.slice V.la s.lk.length V.lc,.int .i64 s.fixes,.int .i64 s.checks,.slice V.oa s.orders.length V.oc]) rfl ?_ hH ?_
 ·intro w9 hw9;have hcc:=st7 hw9.1;obtain ⟨d0,d1,d2,d3,d4,d5,d6⟩:=hcc;go_simp
 try simp only [nrm]
 refine tkA 3 (.pointer (some ⟨N,0,none⟩)) rfl ?_ hH ?_
 ·intro w9 hw9;go_simp
 try simp only [nrm]
 refine tkA 4 (.pointer (some ⟨N,0,none⟩)) rfl ?_ hH ?_
 ·intro w9 hw9;go_simp
 try simp only [nrm]
 refine tkA 5 (.pointer (some ⟨N,0,none⟩)) rfl ?_ hH ?_
 ·intro w9 hw9;go_simp
 try simp only [nrm]
 refine tkA 6 (.slice (some ⟨b,o,none⟩) (m+2) V.pc) rfl ?_ hH ?_
 ·intro w9 hw9;have hcc:=st7 hw9.1;obtain ⟨d0,d1,d2,d3,d4,d5,d6⟩:=hcc;go_simp
 try simp only [nrm]
 refine tkA 7 (.int .i64 ((m:Int)+1)) rfl ?_ hH ?_
 ·intro w9 hw9;go_simp
 try simp only [nrm]
 refine tkA 8 (.int .i64 (m:Int)) rfl ?_ hH ?_
 ·intro w9 hw9;go_simp;rw [IntWalk.i64_left];exact IntWalk.wrap64_in _ (by omega)
 try simp only [nrm]
 refine tkA 9 (.pointer (some ⟨b,o+m,none⟩)) rfl ?_ hH ?_
 ·intro w9 hw9;go_simp;intro hbad;omega
 try simp only [nrm]
 refine tkA 10 (.slice ta tn tc) rfl ?_ hH ?_
 ·intro w9 hw9;have g0:=Grow.cell hw9.2 e0;go_simp
 try simp only [nrm]
 refine tk1 11 rfl fun K hK=>?_;go_simp;rw [← hc];refine zlo H tx _ V s _ (HTI.out.grow (hH.2.hid H)).unhide (HS.out.grow (hH.2.hid H)) _ ?_;intro w1 hg1;obtain ⟨bb,hbb⟩:∃ q,brkB tx s.tests s.lk=q:=⟨_,rfl⟩;rw [hbb] at HR ⊢;rw [hc];clear hbb;go_wp2_with fail;refine hK.out _ _ ⟨hg1.blk hH.1,hH.2.trans hg1⟩ ?_;clear hK K hH;intro hH;try simp only [nrm]
 refine wpAnyH_done (by kernel_rfl) ?_ _
 have HG1:=jH hH.2;have HB1:=jH hH.1;clear hH hg1 c0 c1 c2 c3 c4 c5 c6 e0;cases bb with
 | true=>
  rw [if_pos rfl] at HR;have HF:=jH (HR.out _ (Chg.of_grow HG1.out) (HH.out.grow HG1.out));go_wp2_with fail;exact HF.out
 | false=>
  rw [if_neg (by decide)] at HR
  go_wp2_with fail;have hm1:m≤L2.length:=by have h1:=congrArg List.length HLX2.out;rw [List.length_map] at h1;have:=HM.out;omega
  have hm2:m+1≤L1.length:=by have h1:=congrArg List.length HLX1.out;rw [List.length_map] at h1;have:=HP2.out;omega
  have hhd:=HB1.out;have hgd:=HG1.out;generalize w1=W0 at hhd hgd ⊢;have HBW:=jH hhd;have HGW:=jH hgd;obtain ⟨d0,d1,_⟩:=st7 hhd;have hz0:=hgd.sz;clear hhd hgd HB1 HG1;refine wp_region_held_drew (S:=fun X=>Chg N w X) (by kernel_rfl) (Chg.of_grow HGW.out.drew) (fun hH=>?_)
  refine tkA 0 (.pointer (some ⟨N,0,none⟩)) rfl ?_ hH ?_
  ·intro w9 hw9;go_simp
  try simp only [nrm]
  refine tkA 1 (.pointer (some ⟨N,0,none⟩)) rfl ?_ hH ?_
  ·intro w9 hw9;go_simp
  try simp only [nrm]
  refine tkA 2 (.pointer (some ⟨N,0,none⟩)) rfl ?_ hH ?_
  ·intro w9 hw9;go_simp
  try simp only [nrm]
  refine tkA 3 (.pointer (some ⟨N,0,none⟩)) rfl ?_ hH ?_
  ·intro w9 hw9;go_simp
  try simp only [nrm]
  refine tkA 4 (.pointer (some ⟨N,1,none⟩)) rfl ?_ hH ?_
  ·intro w9 hw9;go_simp
  try simp only [nrm]
  refine tkA 6 (.int .i64 ((m:Int)+1)) rfl ?_ hH ?_
  ·intro w9 hw9;go_simp
  try simp only [nrm]
  refine tkA 7 (.int .i64 (m:Int)) rfl ?_ hH ?_
  ·intro w9 hw9;go_simp;rw [IntWalk.i64_left];exact IntWalk.wrap64_in _ (by omega)
  try simp only [nrm]
  refine tkA 10 (.pointer (some ⟨N,0,none⟩)) rfl ?_ hH ?_
  ·intro w9 hw9;go_simp
  try simp only [nrm]
  refine tkA 11 (.pointer (some ⟨N,0,none⟩)) rfl ?_ hH ?_
  ·intro w9 hw9;go_simp
  try simp only [nrm]
  refine tkA 12 (.pointer (some ⟨N,0,none⟩)) rfl ?_ hH ?_
  ·intro w9 hw9;go_simp
  try simp only [nrm]
  refine tkA 14 (.int .i64 ((m:Int)+1)) rfl ?_ hH ?_
  ·intro w9 hw9;go_simp
  try simp only [nrm]
  obtain ⟨W,hWe⟩:∃ W:World,W=W0.drew:=⟨_,rfl⟩;have HBC0:=jH (show W.heap[N]?=some (.cells #[.slice (some ⟨b,o,none⟩) (m+2) V.pc,.slice V.ha (m+1) V.hc,.slice V.ta s.tests.length V.tc,.slice V.la s.lk.length V.lc,.int .i64 s.fixes,.int .i64 s.checks,.slice V.oa s.orders.length V.oc] 86 (0,0)) by rw [hWe];exact HBW.out)
  have HGC0:=jH (show Grow w W by rw [hWe];exact HGW.out.drew)
  rw [← hWe] at hH ⊢;clear hWe d0 d1 hz0;have HHW:=jH hH;clear hH
  apply zge
  rotate_left
  ·intro key;have hH:=HHW.out;refine tk2 5 13 rfl rfl (fun K hK=>?_) fun K hK=>?_
   ·
    obtain ⟨d0,d1,_⟩:=st7 HBC0.out;go_simp;refine hK.out _ _ hH ?_;clear hK K hH;intro hH;try simp only [nrm]
    clear d0 d1;refine tkA 8 (.slice V.ha m V.hc) rfl ?_ hH ?_
    ·intro w9 hw9;go_simp;all_goals (intro hbad;first | exact absurd hbad (by omega) | exact absurd (hbad (by omega)) (by omega))
    try simp only [nrm]
    refine tk2 9 13 rfl rfl (fun K hK=>?_) fun K hK=>?_
    ·
     go_simp;refine znr (L2.take m) _ _ ((show SlcAt 1 encLo _ (.slice V.ha (m+1) V.hc) L2 from by have h9:=(HL2.out.grow (HGC0.out.hid H)).unhide.at_;rw [HM.out] at h9;exact h9).take hm1) (by rw [List.length_take];omega) _ ?_
     intro w4 k4 hg4 hk4;go_wp2_with fail;have hq4:=zaa zaz hk4;have hlt4:(L2.take m).length=m:=by rw [List.length_take];omega
     obtain ⟨ra,rc,rfl,r1,r2,jk4⟩:=hq4;have HK4:=jH (show w4.ownsRow _ 58 1 (.slice ra m rc) (L2.take m).length ((L2.take m).flatMap encLo) from by have h9:=hk4;rw [hlt4] at h9 ⊢;exact h9)
     rw [hlt4] at r1 ⊢;have HBC4:=jH (hg4.blk HBC0.out);have HGC4:=jH (HGC0.out.trans hg4);have hzc4:=HGC0.out.sz;clear hk4 jk4;refine hK.out _ _ (Chg.of_grow HGC4.out) ?_;clear hK K hH;intro hH;try simp only [nrm]
     clear hg4;refine tk1 13 rfl fun K hK=>?_
     ·
      obtain ⟨d0,d1,_⟩:=st7 HBC4.out;go_simp;refine hK.out _ _ hH ?_;clear hK K hH;intro hH;try simp only [nrm]
      clear d0 d1;refine tkA 15 (.slice (some ⟨b,o,none⟩) (m+1) V.pc) rfl ?_ hH ?_
      ·intro w9 hw9;go_simp;all_goals (intro hbad;first | exact absurd hbad (by omega) | exact absurd (hbad (by omega)) (by omega))
      try simp only [nrm]
      refine tk1 16 rfl fun K hK=>?_
      ·
       go_simp;refine znn (L1.take (m+1)) _ _ ((show SlcAt 1 encLo _ (.slice (some ⟨b,o,none⟩) (m+2) V.pc) L1 from by have h9:=(HL1.out.grow (HGC4.out.hid H)).unhide.at_;rw [HP2.out,HPA.out] at h9;exact h9).take hm2) (by rw [List.length_take];omega) _ ?_
       intro w5 k5 hg5 hk5;go_wp2_with fail;have hq5:=zaa zaz hk5;have hlt5:(L1.take (m+1)).length=m+1:=by rw [List.length_take];omega
       obtain ⟨qa,qc,rfl,q1,q2,jk5⟩:=hq5;have HK5:=jH (show w5.ownsRow _ 22 1 (.slice qa (m+1) qc) (L1.take (m+1)).length ((L1.take (m+1)).flatMap encLo) from by have h9:=hk5;rw [hlt5] at h9 ⊢;exact h9)
       rw [hlt5] at q1 ⊢;have HBC5:=jH (hg5.blk HBC4.out);have HGC5:=jH (HGC4.out.trans hg5);have HG45:=jH hg5;have hzc5:=HGC4.out.sz;clear hk5 jk5;refine hK.out _ _ (Chg.of_grow HGC5.out) ?_;clear hK K hH;intro hH;try simp only [nrm]
       clear hg5;refine tkA 17 (.pointer (some ⟨N,0,none⟩)) rfl ?_ hH ?_
       ·intro w9 hw9;go_simp
       try simp only [nrm]
       refine tkA 18 (.pointer (some ⟨N,1,none⟩)) rfl ?_ hH ?_
       ·intro w9 hw9;go_simp
       try simp only [nrm]
       refine tk1 19 rfl fun K hK=>?_;obtain ⟨d0,d1,_⟩:=st7 HBC5.out;have z1:=zac HBC5.out 1;have hb6:=zau HBC5.out 1 (.slice ra m rc);simp only [List.setIfInBounds_toArray,List.set_cons_zero,List.set_cons_succ] at hb6;have hc6:=(Chg.of_grow (B:=N) HGC5.out).setCell 1 (.slice ra m rc);go_simp;refine hK.out _ _ hc6 ?_;clear hK K hH;intro hH;try simp only [nrm]
       clear d0 d1 z1;refine tkA 20 (.pointer (some ⟨N,0,none⟩)) rfl ?_ hH ?_
       ·intro w9 hw9;go_simp
       try simp only [nrm]
       refine tkA 21 (.pointer (some ⟨N,0,none⟩)) rfl ?_ hH ?_
       ·intro w9 hw9;go_simp
       try simp only [nrm]
       refine tk1 22 rfl fun K hK=>?_;obtain ⟨d0,d1,_⟩:=st7 hb6;have z0:=zac hb6 0;have hb7:=zau hb6 0 (.slice qa (m+1) qc);simp only [List.setIfInBounds_toArray,List.set_cons_zero] at hb7;have hc7:=hc6.setCell 0 (.slice qa (m+1) qc);have hh7:hideW H ((w5.setCell ⟨N,1,none⟩ (.slice ra m rc)).setCell ⟨N,0,none⟩ (.slice qa (m+1) qc))=hideW H w5:=(zak (a:=⟨N,0,none⟩) HH.out.hid.hH _).trans (zak (a:=⟨N,1,none⟩) HH.out.hid.hH _);go_simp;refine hK.out _ _ hc7 ?_;clear hK K hH;intro hH;try simp only [nrm]
       clear d0 d1 z0;refine wpAnyH_done (by kernel_rfl) ?_ _
       have hs5:=HS.out.grow (HGC5.out.hid H);have hst:StAt (hideW H ((w5.setCell ⟨N,1,none⟩ (.slice ra m rc)).setCell ⟨N,0,none⟩ (.slice qa (m+1) qc))) { V with pa:=qa,pc:=qc,ha:=ra,hc:=rc } { s with progs:=s.progs.take (m+1),hist:=s.hist.take m }:=by
        rw [hh7];refine ⟨⟨L1.take (m+1),?_,?_⟩,⟨L2.take m,?_,?_⟩,hs5.ts,hs5.lk,hs5.od⟩
        ·dsimp only;rw [show (s.progs.take (m+1)).length=m+1 by rw [List.length_take,HP2.out];omega]
         exact zmw HK5.out (fun u hu=>((HL1.out.ins u (List.mem_of_mem_take hu)).grow (HGC5.out.hid H))) (fun b9 hb9=>HH.out.hid.new b9 (by have:=HGC4.out.sz;omega))
        ·dsimp only;rw [List.map_take,HLX1.out]
        ·dsimp only;rw [show (s.hist.take m).length=m by rw [List.length_take,HM.out];omega]
         exact zmw (HG45.out.owns HK4.out) (fun u hu=>((HL2.out.ins u (List.mem_of_mem_take hu)).grow (HGC5.out.hid H))) (fun b9 hb9=>HH.out.hid.new b9 (by omega))
        ·dsimp only;rw [List.map_take,HLX2.out]
       have hr:=HR.out _ hc7 (HH.out.of_chg hc7 (V':={ V with pa:=qa,pc:=qc,ha:=ra,hc:=rc }) (by rw [hb7];unfold stCells;dsimp only;rw [show (s.progs.take (m+1)).length=m+1 by rw [List.length_take,HP2.out];omega,show (s.hist.take m).length=m by rw [List.length_take,HM.out];omega]) hst)
       rw [show errV 0=Value.nilIface from rfl] at hr;have HF:=jH hr;clear hr hst hb7 hc7 hh7 hb6 hc6 hs5 hH;go_wp2_with fail;exact HF.out
    ·
     obtain ⟨d0,d1,_⟩:=st7 HBC0.out;go_simp;refine hK.out _ _ hH ?_;clear hK K hH;intro hH;try simp only [nrm]
     clear d0 d1;refine tkA 15 (.slice (some ⟨b,o,none⟩) (m+1) V.pc) rfl ?_ hH ?_
     ·intro w9 hw9;go_simp;all_goals (intro hbad;first | exact absurd hbad (by omega) | exact absurd (hbad (by omega)) (by omega))
     try simp only [nrm]
     exact key.out
   ·
    obtain ⟨d0,d1,_⟩:=st7 HBC0.out;go_simp;refine hK.out _ _ hH ?_;clear hK K hH;intro hH;try simp only [nrm]
    clear d0 d1;refine tkA 15 (.slice (some ⟨b,o,none⟩) (m+1) V.pc) rfl ?_ hH ?_
    ·intro w9 hw9;go_simp;all_goals (intro hbad;first | exact absurd hbad (by omega) | exact absurd (hbad (by omega)) (by omega))
    try simp only [nrm]
    refine tk1 5 rfl fun K hK=>?_
    ·
     obtain ⟨d0,d1,_⟩:=st7 HBC0.out;go_simp;refine hK.out _ _ hH ?_;clear hK K hH;intro hH;try simp only [nrm]
     clear d0 d1;refine tkA 8 (.slice V.ha m V.hc) rfl ?_ hH ?_
     ·intro w9 hw9;go_simp;all_goals (intro hbad;first | exact absurd hbad (by omega) | exact absurd (hbad (by omega)) (by omega))
     try simp only [nrm]
     exact key.out
  have hH:=HHW.out;refine tk1 9 rfl fun K hK=>?_
  ·
   go_simp;refine znr (L2.take m) _ _ ((show SlcAt 1 encLo _ (.slice V.ha (m+1) V.hc) L2 from by have h9:=(HL2.out.grow (HGC0.out.hid H)).unhide.at_;rw [HM.out] at h9;exact h9).take hm1) (by rw [List.length_take];omega) _ ?_
   intro w4 k4 hg4 hk4;go_wp2_with fail;have hq4:=zaa zaz hk4;have hlt4:(L2.take m).length=m:=by rw [List.length_take];omega
   obtain ⟨ra,rc,rfl,r1,r2,jk4⟩:=hq4;have HK4:=jH (show w4.ownsRow _ 58 1 (.slice ra m rc) (L2.take m).length ((L2.take m).flatMap encLo) from by have h9:=hk4;rw [hlt4] at h9 ⊢;exact h9)
   rw [hlt4] at r1 ⊢;have HBC4:=jH (hg4.blk HBC0.out);have HGC4:=jH (HGC0.out.trans hg4);have hzc4:=HGC0.out.sz;clear hk4 jk4;refine hK.out _ _ (Chg.of_grow HGC4.out) ?_;clear hK K hH;intro hH;try simp only [nrm]
   clear hg4;refine tk1 16 rfl fun K hK=>?_
   ·
    go_simp;refine znn (L1.take (m+1)) _ _ ((show SlcAt 1 encLo _ (.slice (some ⟨b,o,none⟩) (m+2) V.pc) L1 from by have h9:=(HL1.out.grow (HGC4.out.hid H)).unhide.at_;rw [HP2.out,HPA.out] at h9;exact h9).take hm2) (by rw [List.length_take];omega) _ ?_
    intro w5 k5 hg5 hk5;go_wp2_with fail;have hq5:=zaa zaz hk5;have hlt5:(L1.take (m+1)).length=m+1:=by rw [List.length_take];omega
    obtain ⟨qa,qc,rfl,q1,q2,jk5⟩:=hq5;have HK5:=jH (show w5.ownsRow _ 22 1 (.slice qa (m+1) qc) (L1.take (m+1)).length ((L1.take (m+1)).flatMap encLo) from by have h9:=hk5;rw [hlt5] at h9 ⊢;exact h9)
    rw [hlt5] at q1 ⊢;have HBC5:=jH (hg5.blk HBC4.out);have HGC5:=jH (HGC4.out.trans hg5);have HG45:=jH hg5;have hzc5:=HGC4.out.sz;clear hk5 jk5;refine hK.out _ _ (Chg.of_grow HGC5.out) ?_;clear hK K hH;intro hH;try simp only [nrm]
    clear hg5;refine tkA 17 (.pointer (some ⟨N,0,none⟩)) rfl ?_ hH ?_
    ·intro w9 hw9;go_simp
    try simp only [nrm]
    refine tkA 18 (.pointer (some ⟨N,1,none⟩)) rfl ?_ hH ?_
    ·intro w9 hw9;go_simp
    try simp only [nrm]
    refine tk1 19 rfl fun K hK=>?_;obtain ⟨d0,d1,_⟩:=st7 HBC5.out;have z1:=zac HBC5.out 1;have hb6:=zau HBC5.out 1 (.slice ra m rc);simp only [List.setIfInBounds_toArray,List.set_cons_zero,List.set_cons_succ] at hb6;have hc6:=(Chg.of_grow (B:=N) HGC5.out).setCell 1 (.slice ra m rc);go_simp;refine hK.out _ _ hc6 ?_;clear hK K hH;intro hH;try simp only [nrm]
    clear d0 d1 z1;refine tkA 20 (.pointer (some ⟨N,0,none⟩)) rfl ?_ hH ?_
    ·intro w9 hw9;go_simp
    try simp only [nrm]
    refine tkA 21 (.pointer (some ⟨N,0,none⟩)) rfl ?_ hH ?_
    ·intro w9 hw9;go_simp
    try simp only [nrm]
    refine tk1 22 rfl fun K hK=>?_;obtain ⟨d0,d1,_⟩:=st7 hb6;have z0:=zac hb6 0;have hb7:=zau hb6 0 (.slice qa (m+1) qc);simp only [List.setIfInBounds_toArray,List.set_cons_zero] at hb7;have hc7:=hc6.setCell 0 (.slice qa (m+1) qc);have hh7:hideW H ((w5.setCell ⟨N,1,none⟩ (.slice ra m rc)).setCell ⟨N,0,none⟩ (.slice qa (m+1) qc))=hideW H w5:=(zak (a:=⟨N,0,none⟩) HH.out.hid.hH _).trans (zak (a:=⟨N,1,none⟩) HH.out.hid.hH _);go_simp;refine hK.out _ _ hc7 ?_;clear hK K hH;intro hH;try simp only [nrm]
    clear d0 d1 z0;refine wpAnyH_done (by kernel_rfl) ?_ _
    have hs5:=HS.out.grow (HGC5.out.hid H);have hst:StAt (hideW H ((w5.setCell ⟨N,1,none⟩ (.slice ra m rc)).setCell ⟨N,0,none⟩ (.slice qa (m+1) qc))) { V with pa:=qa,pc:=qc,ha:=ra,hc:=rc } { s with progs:=s.progs.take (m+1),hist:=s.hist.take m }:=by
     rw [hh7];refine ⟨⟨L1.take (m+1),?_,?_⟩,⟨L2.take m,?_,?_⟩,hs5.ts,hs5.lk,hs5.od⟩
     ·dsimp only;rw [show (s.progs.take (m+1)).length=m+1 by rw [List.length_take,HP2.out];omega]
      exact zmw HK5.out (fun u hu=>((HL1.out.ins u (List.mem_of_mem_take hu)).grow (HGC5.out.hid H))) (fun b9 hb9=>HH.out.hid.new b9 (by have:=HGC4.out.sz;omega))
     ·dsimp only;rw [List.map_take,HLX1.out]
     ·dsimp only;rw [show (s.hist.take m).length=m by rw [List.length_take,HM.out];omega]
      exact zmw (HG45.out.owns HK4.out) (fun u hu=>((HL2.out.ins u (List.mem_of_mem_take hu)).grow (HGC5.out.hid H))) (fun b9 hb9=>HH.out.hid.new b9 (by omega))
     ·dsimp only;rw [List.map_take,HLX2.out]
    have hr:=HR.out _ hc7 (HH.out.of_chg hc7 (V':={ V with pa:=qa,pc:=qc,ha:=ra,hc:=rc }) (by rw [hb7];unfold stCells;dsimp only;rw [show (s.progs.take (m+1)).length=m+1 by rw [List.length_take,HP2.out];omega,show (s.hist.take m).length=m by rw [List.length_take,HM.out];omega]) hst)
    rw [show errV 0=Value.nilIface from rfl] at hr;have HF:=jH hr;clear hr hst hb7 hc7 hh7 hb6 hc6 hs5 hH;go_wp2_with fail;exact HF.out
set_option maxRecDepth 100000
set_option maxHeartbeats 16000000
theorem zhf {w:World} {b:Nat} {cs:Array Value} {e:TypeId} (h:w.heap[b]?=some (.cells cs e (0,0))):∀ j u,cs.toList[j]?=some u→w.cell? ((⟨b,0,none⟩:Addr).add j)=some u:=by
 intro j u hj;rw [Addr.add_lit];exact cellOf h _ (by rw [Nat.zero_add,← Array.getElem?_toList];exact hj)
theorem put3 {w:World} {b:Nat} {c0 c1 c2:Value} {e:TypeId} (h:w.heap[b]?=some (.cells #[c0,c1,c2] e (0,0))) (d0 d1 d2:Value) :
  (((w.setCell ⟨b,0,none⟩ d0).setCell ⟨b,1,none⟩ d1).setCell ⟨b,2,none⟩ d2).heap[b]?=some (.cells #[d0,d1,d2] e (0,0)):=by
 have h1:=zau h 0 d0;have h2:=zau h1 1 d1;have h3:=zau h2 2 d2;exact h3
theorem test_any (H:Nat→Bool) (N:Nat) (l:List Int) (x0 x1 x2 x3 o wt:Int) (lv:Value) (s:Bn) (w:World) (hl:IntsAt w lv l) (hle:l=[x0,x1,x2,x3,o,wt]) (h:SAt H N w s) (ok:OkB s) (R:Ending→World→Prop)
  (hR:∀ w',Chg N w w'→SAt H N w' (testB s [x0,x1,x2,x3] o wt).2→R (.returned (errV (testB s [x0,x1,x2,x3] o wt).1)) w') :
  Calls Tryz.prog 120 #[.pointer (some ⟨N,0,none⟩),lv] w R:=by
 obtain ⟨V,hb,hs⟩:=h.blk;obtain ⟨c0,c1,c2,c3,c4,c5,c6⟩:=zas hb;have ht8:=ok.t8;have HH:=jH h;have HB:=jH hb;have HS:=jH hs;have HR:=jH hR;have hNl:=lt_of_block hb;have HL:=jH hl;have hli:=hl;obtain ⟨la,lc,rfl,l1,l2,jk⟩:=hli;obtain ⟨lb,lo,rfl,hlb,y4⟩:=zcu hl (k:=4) (x:=o) (by rw [hle];rfl)
 obtain ⟨_,_,e1,_,y5⟩:=zcu hl (k:=5) (x:=wt) (by rw [hle];rfl)
 cases e1;have hll:l.length=6:=by rw [hle];rfl
 rw [hll] at l1 HL ⊢;have HLE:=jH hle;clear hR h hb hs ok jk hl hll hle;have hc:stCells V s=#[.slice V.pa s.progs.length V.pc,.slice V.ha s.hist.length V.hc,.slice V.ta s.tests.length V.tc,.slice V.la s.lk.length V.lc,.int .i64 s.fixes,.int .i64 s.checks,.slice V.oa s.orders.length V.oc]:=rfl;obtain ⟨T,hT,hTx⟩:=HS.out.ts;have HT:=jH hT;have HTX:=jH hTx;clear hT hTx
 go_enter func120,ntmps120
 go_upto_region 1 with fail
 go_cut [5] from 7 to 16 (fun s5 wx=>∃ (bx:Nat) (ca:Option Addr) (cc:Nat),s5=.pointer (some ⟨bx,0,none⟩)∧Grow w wx∧wx.heap[bx]?=some (.cells #[.slice ca 4 cc,.int .i64 o,.int .i64 wt] 63 (0,0))∧bx≠N∧IntsAt wx (.slice ca 4 cc) [x0,x1,x2,x3]∧NewS w.heap.size (.slice ca 4 cc)∧4≤cc∧cc≤9223372036854775807)
 case rest=>
  obtain ⟨bx,ca,cc,rfl,hg3,hpb,hbN,hi3,hnc,q1,q2⟩:=hcut;have HNC:=jH hnc;clear hnc;obtain ⟨w3,hw3⟩:∃ z:World,z=wc:=⟨_,rfl⟩;rw [← hw3] at hg3 hpb hi3 ⊢;clear hw3;have HG3:=jH hg3;have HI3:=jH hi3;have HPB:=jH hpb;obtain ⟨d0,d1,d2⟩:=box3 hpb;clear c0 c1 c2 c3 c4 c5 c6 y4 y5 hg3 hi3 hpb l1 l2;go_wp2_with fail;refine zbw [⟨.slice ca 4 cc,[x0,x1,x2,x3],o,wt⟩] _ _ (zks w3 ⟨.slice ca 4 cc,[x0,x1,x2,x3],o,wt⟩ _ HI3.out) _ ?_;intro w4 hg4;rw [show valT [⟨.slice ca 4 cc,[x0,x1,x2,x3],o,wt⟩]=valT [⟨.nilIface,[x0,x1,x2,x3],o,wt⟩] from (zjb [⟨.slice ca 4 cc,[x0,x1,x2,x3],o,wt⟩]).symm];obtain ⟨e,he⟩:∃ e,valT [⟨.nilIface,[x0,x1,x2,x3],o,wt⟩]=e:=⟨_,rfl⟩;have hv:testB s [x0,x1,x2,x3] o wt=if e≠0 then (e,s) else if s.tests.length=8 then (3,s) else (0,{ s with tests:=s.tests++[⟨.nilIface,[x0,x1,x2,x3],o,wt⟩] }):=by unfold testB;rw [he]
  have hg34:=((Grow.refl w3).alloc _).trans hg4;have HG4:=jH (HG3.out.trans hg34);have HI4:=jH (HI3.out.grow hg34);have HPB4:=jH (hg34.blk HPB.out);rw [hv] at HR;rw [he];clear hv he hg34 hg4 d0 d1 d2;by_cases h0:e=0;rotate_left
  ·rw [if_pos h0] at HR;have hr:=HR.out w4 (Chg.of_grow HG4.out) (HH.out.grow HG4.out);unfold errV at hr;rw [if_neg h0] at hr;have HF:=jH hr;have t1:(e != 0)=true:=by simpa using h0
   clear hr h0;go_wp2_with fail;exact HF.out
  subst h0;rw [if_neg (by simp)] at HR
  obtain ⟨c0,c1,c2,c3,c4,c5,c6⟩:=zas (HG4.out.blk HB.out);by_cases h8:s.tests.length=8
  ·rw [if_pos h8] at HR;have HF:=jH (HR.out w4 (Chg.of_grow HG4.out) (HH.out.grow HG4.out));rw [h8] at c2;go_wp2_with fail;exact HF.out
  rw [if_neg h8] at HR;have h8z:((s.tests.length:Int) == 8)=false:=by rw [beq_eq_false_iff_ne];omega
  go_wp2_with fail;have hT8:T.length=s.tests.length:=by rw [← HTX.out];simp
  have HGd:=jH ((Grow.refl w4).drew);have hz4:=HG4.out.sz;clear c0 c1 c2 c3 c4 c5 c6 h8;refine wp_region_held_drew (S:=fun X=>Chg N w4 X) (by kernel_rfl) (Chg.of_grow (Grow.refl w4).drew) (fun hH=>?_)
  refine tkA 0 (.pointer (some ⟨N,0,none⟩)) rfl ?_ hH ?_
  ·intro w9 hw9;go_simp
  try simp only [nrm]
  refine tkA 1 (.pointer (some ⟨N,0,none⟩)) rfl ?_ hH ?_
  ·intro w9 hw9;go_simp
  try simp only [nrm]
  refine tkA 2 (.pointer (some ⟨N,0,none⟩)) rfl ?_ hH ?_
  ·intro w9 hw9;go_simp
  try simp only [nrm]
  refine tkA 3 (.pointer (some ⟨N,2,none⟩)) rfl ?_ hH ?_
  ·intro w9 hw9;go_simp
  try simp only [nrm]
  refine tkA 6 (.agg #[.slice ca 4 cc,.int .i64 o,.int .i64 wt]) rfl ?_ hH ?_
  ·intro w9 hw9;obtain ⟨d0,d1,d2⟩:=box3 (Chg.blk hw9 hbN HPB4.out);go_simp
  try simp only [nrm]
  refine tk2 4 7 rfl rfl (fun K hK=>?_) fun K hK=>?_
  ·
   obtain ⟨c0,c1,c2,c3,c4,c5,c6⟩:=zas (HGd.out.blk (HG4.out.blk HB.out));go_simp;refine hK.out _ _ hH ?_;clear hK K hH;intro hH;try simp only [nrm]
   clear c0 c1 c2 c3 c4 c5 c6;refine tk2 5 7 rfl rfl (fun K hK=>?_) fun K hK=>?_
   ·
    go_simp;refine znc T _ _ ?_ (by omega) _ ?_
    ·exact (HT.out.grow ((HG4.out.trans HGd.out).hid H)).unhide.at_
    intro w5 k5 hg5 hk5;go_wp2_with fail;have HB5:=jH (show w4.heap.size≤(w4.drew).heap.size from HGd.out.sz);obtain ⟨ra,rc,rfl,r1,r2,jk5⟩:=zaa zat hk5;have HK5:=jH hk5;have HG5:=jH (HGd.out.trans hg5);have HZ:=jH hg5.sz;clear hk5 jk5;refine hK.out _ _ (Chg.of_grow HG5.out) ?_;clear hK K hH;intro hH;try simp only [nrm]
    clear hg5;refine tk1 7 rfl fun K hK=>?_
    ·
     go_simp;refine hK.out _ _ (Chg.of_grow (HG5.out.alloc (.cells #[.slice ca 4 cc,.int .i64 o,.int .i64 wt] 63))) ?_;clear hK K hH;intro hH;try simp only [nrm]
     obtain ⟨w7,hw7⟩:∃ X:World,X=w5.alloc (.cells #[.slice ca 4 cc,.int .i64 o,.int .i64 wt] 63):=⟨_,rfl⟩;rw [← hw7] at hH ⊢;have HG7:=jH (show Grow w4 w7 by rw [hw7];exact (HG5.out.alloc (.cells #[.slice ca 4 cc,.int .i64 o,.int .i64 wt] 63)))
     have HLIT:=jH (show w7.heap[w5.heap.size]?=some (.cells #[.slice ca 4 cc,.int .i64 o,.int .i64 wt] 63 (0,0)) by rw [hw7];exact heap_alloc_new (w5) (.cells #[.slice ca 4 cc,.int .i64 o,.int .i64 wt] 63))
     have HK7:=jH (show w7.ownsRow _ _ _ _ _ _ by rw [hw7];exact (((Grow.refl (w5)).alloc (.cells #[.slice ca 4 cc,.int .i64 o,.int .i64 wt] 63)).owns HK5.out))
     have HZ:=jH (show _≤w7.heap.size by rw [hw7];exact Nat.le_trans HZ.out ((Grow.refl (w5)).alloc (.cells #[.slice ca 4 cc,.int .i64 o,.int .i64 wt] 63)).sz)
     clear hw7;refine tk1 8 rfl fun K hK=>?_;refine zew rfl (.tmp 38) (.tmp 40) 42 rfl (w4.drew).heap.size 63 underlying42 zbz rfl (by decide) (by decide) encTq zat zcb (.slice ra T.length rc) T (by simp [Act.eval,hT8]) HK7.out ⟨w5.heap.size,0,none⟩ (⟨ca,4,cc,[x0,x1,x2,x3],o,wt⟩:Tq) 1 (by simp [Act.eval]<;>rfl) (zhf HLIT.out) (by omega) HZ.out ?_
     intro v6 w6 hown6 hgr6 hat6;have hb6:w4.heap.size≤(w4.drew).heap.size:=HB5.out;have hg46:Grow w4 w6:=zae HK7.out hgr6 hb6 HG7.out.sz HG7.out;obtain ⟨a6,n6,cp6,rfl,hn6⟩:∃ a n c,v6=.slice a n c∧n=s.tests.length+1:=by
      rcases hown6.2 with ⟨hv,h0⟩ | ⟨g,cap,cur,hv,_⟩
      ·simp at h0
      ·exact ⟨some ⟨g,0,none⟩,_,cap,hv,by simp [hT8]⟩
     subst hn6;refine hK.out _ _ (Chg.of_grow hg46) ?_;clear hK K hH;intro hH;try simp only [nrm]
     refine tkA 9 (.pointer (some ⟨N,0,none⟩)) rfl ?_ hH ?_
     ·intro w9 hw9;go_simp
     try simp only [nrm]
     refine tkA 10 (.pointer (some ⟨N,2,none⟩)) rfl ?_ hH ?_
     ·intro w9 hw9;go_simp
     try simp only [nrm]
     refine tk1 11 rfl fun K hK=>?_;have hb7:=hg46.blk (HG4.out.blk HB.out);obtain ⟨c0,c1,c2,c3,c4,c5,c6⟩:=zas hb7;have z2:=zac hb7 2;have hb9:=zau hb7 2 (.slice a6 (s.tests.length+1) cp6);have hc9:Chg N w (w6.setCell ⟨N,2,none⟩ (.slice a6 (s.tests.length+1) cp6)):=(Chg.of_grow (HG4.out.trans hg46)).setCell 2 _;have hh9:hideW H (w6.setCell ⟨N,2,none⟩ (.slice a6 (s.tests.length+1) cp6))=hideW H w6:=zak (a:=⟨N,2,none⟩) HH.out.hid.hH _;go_simp;refine hK.out _ _ ((Chg.of_grow hg46).setCell 2 _) ?_;clear hK K hH;intro hH;try simp only [nrm]
     refine wpAnyH_done (by kernel_rfl) ?_ _
     have hs9:=HS.out.grow ((HG4.out.trans hg46).hid H);rw [hc] at hb9;simp only [List.setIfInBounds_toArray,List.set_cons_zero,List.set_cons_succ] at hb9;have hst:StAt (hideW H (w6.setCell ⟨N,2,none⟩ (.slice a6 (s.tests.length+1) cp6))) { V with ta:=a6,tc:=cp6 } { s with tests:=s.tests++[⟨.nilIface,[x0,x1,x2,x3],o,wt⟩] }:=by
      rw [hh9];refine ⟨hs9.pr,hs9.hi,⟨T++[(⟨ca,4,cc,[x0,x1,x2,x3],o,wt⟩:Tq)],⟨?_,?_⟩,?_⟩,hs9.lk,hs9.od⟩
      ·have h9:=(zaa zat hown6).hide_new (NewS.of_own (show Own 3 encTq _ w6 _ (T++[(⟨ca,4,cc,[x0,x1,x2,x3],o,wt⟩:Tq)]) from ⟨_,hown6⟩)) (H:=H) (fun b hb=>HH.out.hid.new b (by omega))
       dsimp only;rw [List.length_append];exact h9
      ·intro q hq;rcases List.mem_append.1 hq with hq | hq
       ·exact (HT.out.ins q hq).grow ((HG4.out.trans hg46).hid H)
       ·simp only [List.mem_cons,List.not_mem_nil,or_false] at hq;subst hq;exact SlcAt.hide_new (HI4.out.grow hg46) HNC.out (fun b hb=>HH.out.hid.new b hb)
      ·rw [List.map_append,HTX.out];rfl
     have hr:=HR.out _ hc9 (HH.out.of_chg hc9 (V':={ V with ta:=a6,tc:=cp6 }) (by rw [hb9];unfold stCells;simp) hst)
     rw [show errV 0=Value.nilIface from rfl] at hr;have HF:=jH hr;clear hr hst hb9 hc9 hh9 hs9 hb7 c0 c1 c2 c3 c4 c5 c6 z2 hown6 hgr6 hat6 hg46 hb6 hH;go_wp2_with fail;exact HF.out
   ·
    go_simp;refine hK.out _ _ (Chg.of_grow (HGd.out.alloc (.cells #[.slice ca 4 cc,.int .i64 o,.int .i64 wt] 63))) ?_;clear hK K hH;intro hH;try simp only [nrm]
    obtain ⟨w7,hw7⟩:∃ X:World,X=(w4.alloc (.cells #[.slice ca 4 cc,.int .i64 o,.int .i64 wt] 63)).drew:=⟨_,rfl⟩;rw [← hw7] at hH ⊢;have HG7:=jH (show Grow w4 w7 by rw [hw7];exact (HGd.out.alloc (.cells #[.slice ca 4 cc,.int .i64 o,.int .i64 wt] 63)))
    have HLIT:=jH (show w7.heap[w4.heap.size]?=some (.cells #[.slice ca 4 cc,.int .i64 o,.int .i64 wt] 63 (0,0)) by rw [hw7];exact heap_alloc_new (w4.drew) (.cells #[.slice ca 4 cc,.int .i64 o,.int .i64 wt] 63))
    clear hw7;refine tk1 5 rfl fun K hK=>?_
    ·
     go_simp;refine znc T _ _ ?_ (by omega) _ ?_
     ·exact (HT.out.grow ((HG4.out.trans HG7.out).hid H)).unhide.at_
     intro w5 k5 hg5 hk5;go_wp2_with fail;have HB5:=jH (show w4.heap.size≤(w7).heap.size from HG7.out.sz);obtain ⟨ra,rc,rfl,r1,r2,jk5⟩:=zaa zat hk5;have HK5:=jH hk5;have HG5:=jH (HG7.out.trans hg5);have HZ:=jH hg5.sz;have HLIT:=jH (hg5.blk HLIT.out);clear hk5 jk5;refine hK.out _ _ (Chg.of_grow HG5.out) ?_;clear hK K hH;intro hH;try simp only [nrm]
     clear hg5;refine tk1 8 rfl fun K hK=>?_;refine zew rfl (.tmp 38) (.tmp 40) 42 rfl (w7).heap.size 63 underlying42 zbz rfl (by decide) (by decide) encTq zat zcb (.slice ra T.length rc) T (by simp [Act.eval,hT8]) HK5.out ⟨w4.heap.size,0,none⟩ (⟨ca,4,cc,[x0,x1,x2,x3],o,wt⟩:Tq) 1 (by simp [Act.eval]<;>rfl) (zhf HLIT.out) (by omega) HZ.out ?_
     intro v6 w6 hown6 hgr6 hat6;have hb6:w4.heap.size≤(w7).heap.size:=HB5.out;have hg46:Grow w4 w6:=zae HK5.out hgr6 hb6 HG5.out.sz HG5.out;obtain ⟨a6,n6,cp6,rfl,hn6⟩:∃ a n c,v6=.slice a n c∧n=s.tests.length+1:=by
      rcases hown6.2 with ⟨hv,h0⟩ | ⟨g,cap,cur,hv,_⟩
      ·simp at h0
      ·exact ⟨some ⟨g,0,none⟩,_,cap,hv,by simp [hT8]⟩
     subst hn6;refine hK.out _ _ (Chg.of_grow hg46) ?_;clear hK K hH;intro hH;try simp only [nrm]
     refine tkA 9 (.pointer (some ⟨N,0,none⟩)) rfl ?_ hH ?_
     ·intro w9 hw9;go_simp
     try simp only [nrm]
     refine tkA 10 (.pointer (some ⟨N,2,none⟩)) rfl ?_ hH ?_
     ·intro w9 hw9;go_simp
     try simp only [nrm]
     refine tk1 11 rfl fun K hK=>?_;have hb7:=hg46.blk (HG4.out.blk HB.out);obtain ⟨c0,c1,c2,c3,c4,c5,c6⟩:=zas hb7;have z2:=zac hb7 2;have hb9:=zau hb7 2 (.slice a6 (s.tests.length+1) cp6);have hc9:Chg N w (w6.setCell ⟨N,2,none⟩ (.slice a6 (s.tests.length+1) cp6)):=(Chg.of_grow (HG4.out.trans hg46)).setCell 2 _;have hh9:hideW H (w6.setCell ⟨N,2,none⟩ (.slice a6 (s.tests.length+1) cp6))=hideW H w6:=zak (a:=⟨N,2,none⟩) HH.out.hid.hH _;go_simp;refine hK.out _ _ ((Chg.of_grow hg46).setCell 2 _) ?_;clear hK K hH;intro hH;try simp only [nrm]
     refine wpAnyH_done (by kernel_rfl) ?_ _
     have hs9:=HS.out.grow ((HG4.out.trans hg46).hid H);rw [hc] at hb9;simp only [List.setIfInBounds_toArray,List.set_cons_zero,List.set_cons_succ] at hb9;have hst:StAt (hideW H (w6.setCell ⟨N,2,none⟩ (.slice a6 (s.tests.length+1) cp6))) { V with ta:=a6,tc:=cp6 } { s with tests:=s.tests++[⟨.nilIface,[x0,x1,x2,x3],o,wt⟩] }:=by
      rw [hh9];refine ⟨hs9.pr,hs9.hi,⟨T++[(⟨ca,4,cc,[x0,x1,x2,x3],o,wt⟩:Tq)],⟨?_,?_⟩,?_⟩,hs9.lk,hs9.od⟩
      ·have h9:=(zaa zat hown6).hide_new (NewS.of_own (show Own 3 encTq _ w6 _ (T++[(⟨ca,4,cc,[x0,x1,x2,x3],o,wt⟩:Tq)]) from ⟨_,hown6⟩)) (H:=H) (fun b hb=>HH.out.hid.new b (by omega))
       dsimp only;rw [List.length_append];exact h9
      ·intro q hq;rcases List.mem_append.1 hq with hq | hq
       ·exact (HT.out.ins q hq).grow ((HG4.out.trans hg46).hid H)
       ·simp only [List.mem_cons,List.not_mem_nil,or_false] at hq;subst hq;exact SlcAt.hide_new (HI4.out.grow hg46) HNC.out (fun b hb=>HH.out.hid.new b hb)
      ·rw [List.map_append,HTX.out];rfl
     have hr:=HR.out _ hc9 (HH.out.of_chg hc9 (V':={ V with ta:=a6,tc:=cp6 }) (by rw [hb9];unfold stCells;simp) hst)
     rw [show errV 0=Value.nilIface from rfl] at hr;have HF:=jH hr;clear hr hst hb9 hc9 hh9 hs9 hb7 c0 c1 c2 c3 c4 c5 c6 z2 hown6 hgr6 hat6 hg46 hb6 hH;go_wp2_with fail;exact HF.out
  ·
   go_simp;refine hK.out _ _ (Chg.of_grow (HGd.out.alloc (.cells #[.slice ca 4 cc,.int .i64 o,.int .i64 wt] 63))) ?_;clear hK K hH;intro hH;try simp only [nrm]
   obtain ⟨w7,hw7⟩:∃ X:World,X=(w4.alloc (.cells #[.slice ca 4 cc,.int .i64 o,.int .i64 wt] 63)).drew:=⟨_,rfl⟩;rw [← hw7] at hH ⊢;have HG7:=jH (show Grow w4 w7 by rw [hw7];exact (HGd.out.alloc (.cells #[.slice ca 4 cc,.int .i64 o,.int .i64 wt] 63)))
   have HLIT:=jH (show w7.heap[w4.heap.size]?=some (.cells #[.slice ca 4 cc,.int .i64 o,.int .i64 wt] 63 (0,0)) by rw [hw7];exact heap_alloc_new (w4.drew) (.cells #[.slice ca 4 cc,.int .i64 o,.int .i64 wt] 63))
   clear hw7;refine tk1 4 rfl fun K hK=>?_
   ·
    obtain ⟨c0,c1,c2,c3,c4,c5,c6⟩:=zas (HG7.out.blk (HG4.out.blk HB.out));go_simp;refine hK.out _ _ hH ?_;clear hK K hH;intro hH;try simp only [nrm]
    clear c0 c1 c2 c3 c4 c5 c6;refine tk1 5 rfl fun K hK=>?_
    ·
     go_simp;refine znc T _ _ ?_ (by omega) _ ?_
     ·exact (HT.out.grow ((HG4.out.trans HG7.out).hid H)).unhide.at_
     intro w5 k5 hg5 hk5;go_wp2_with fail;have HB5:=jH (show w4.heap.size≤(w7).heap.size from HG7.out.sz);obtain ⟨ra,rc,rfl,r1,r2,jk5⟩:=zaa zat hk5;have HK5:=jH hk5;have HG5:=jH (HG7.out.trans hg5);have HZ:=jH hg5.sz;have HLIT:=jH (hg5.blk HLIT.out);clear hk5 jk5;refine hK.out _ _ (Chg.of_grow HG5.out) ?_;clear hK K hH;intro hH;try simp only [nrm]
     clear hg5;refine tk1 8 rfl fun K hK=>?_;refine zew rfl (.tmp 38) (.tmp 40) 42 rfl (w7).heap.size 63 underlying42 zbz rfl (by decide) (by decide) encTq zat zcb (.slice ra T.length rc) T (by simp [Act.eval,hT8]) HK5.out ⟨w4.heap.size,0,none⟩ (⟨ca,4,cc,[x0,x1,x2,x3],o,wt⟩:Tq) 1 (by simp [Act.eval]<;>rfl) (zhf HLIT.out) (by omega) HZ.out ?_
     intro v6 w6 hown6 hgr6 hat6;have hb6:w4.heap.size≤(w7).heap.size:=HB5.out;have hg46:Grow w4 w6:=zae HK5.out hgr6 hb6 HG5.out.sz HG5.out;obtain ⟨a6,n6,cp6,rfl,hn6⟩:∃ a n c,v6=.slice a n c∧n=s.tests.length+1:=by
      rcases hown6.2 with ⟨hv,h0⟩ | ⟨g,cap,cur,hv,_⟩
      ·simp at h0
      ·exact ⟨some ⟨g,0,none⟩,_,cap,hv,by simp [hT8]⟩
     subst hn6;refine hK.out _ _ (Chg.of_grow hg46) ?_;clear hK K hH;intro hH;try simp only [nrm]
     refine tkA 9 (.pointer (some ⟨N,0,none⟩)) rfl ?_ hH ?_
     ·intro w9 hw9;go_simp
     try simp only [nrm]
     refine tkA 10 (.pointer (some ⟨N,2,none⟩)) rfl ?_ hH ?_
     ·intro w9 hw9;go_simp
     try simp only [nrm]
     refine tk1 11 rfl fun K hK=>?_;have hb7:=hg46.blk (HG4.out.blk HB.out);obtain ⟨c0,c1,c2,c3,c4,c5,c6⟩:=zas hb7;have z2:=zac hb7 2;have hb9:=zau hb7 2 (.slice a6 (s.tests.length+1) cp6);have hc9:Chg N w (w6.setCell ⟨N,2,none⟩ (.slice a6 (s.tests.length+1) cp6)):=(Chg.of_grow (HG4.out.trans hg46)).setCell 2 _;have hh9:hideW H (w6.setCell ⟨N,2,none⟩ (.slice a6 (s.tests.length+1) cp6))=hideW H w6:=zak (a:=⟨N,2,none⟩) HH.out.hid.hH _;go_simp;refine hK.out _ _ ((Chg.of_grow hg46).setCell 2 _) ?_;clear hK K hH;intro hH;try simp only [nrm]
     refine wpAnyH_done (by kernel_rfl) ?_ _
     have hs9:=HS.out.grow ((HG4.out.trans hg46).hid H);rw [hc] at hb9;simp only [List.setIfInBounds_toArray,List.set_cons_zero,List.set_cons_succ] at hb9;have hst:StAt (hideW H (w6.setCell ⟨N,2,none⟩ (.slice a6 (s.tests.length+1) cp6))) { V with ta:=a6,tc:=cp6 } { s with tests:=s.tests++[⟨.nilIface,[x0,x1,x2,x3],o,wt⟩] }:=by
      rw [hh9];refine ⟨hs9.pr,hs9.hi,⟨T++[(⟨ca,4,cc,[x0,x1,x2,x3],o,wt⟩:Tq)],⟨?_,?_⟩,?_⟩,hs9.lk,hs9.od⟩
      ·have h9:=(zaa zat hown6).hide_new (NewS.of_own (show Own 3 encTq _ w6 _ (T++[(⟨ca,4,cc,[x0,x1,x2,x3],o,wt⟩:Tq)]) from ⟨_,hown6⟩)) (H:=H) (fun b hb=>HH.out.hid.new b (by omega))
       dsimp only;rw [List.length_append];exact h9
      ·intro q hq;rcases List.mem_append.1 hq with hq | hq
       ·exact (HT.out.ins q hq).grow ((HG4.out.trans hg46).hid H)
       ·simp only [List.mem_cons,List.not_mem_nil,or_false] at hq;subst hq;exact SlcAt.hide_new (HI4.out.grow hg46) HNC.out (fun b hb=>HH.out.hid.new b hb)
      ·rw [List.map_append,HTX.out];rfl
     have hr:=HR.out _ hc9 (HH.out.of_chg hc9 (V':={ V with ta:=a6,tc:=cp6 }) (by rw [hb9];unfold stCells;simp) hst)
     rw [show errV 0=Value.nilIface from rfl] at hr;have HF:=jH hr;clear hr hst hb9 hc9 hh9 hs9 hb7 c0 c1 c2 c3 c4 c5 c6 z2 hown6 hgr6 hat6 hg46 hb6 hH;go_wp2_with fail;exact HF.out
 go_wp2_with fail;refine wp_region_held_drew (S:=fun X=>Grow w X) (by kernel_rfl) ((Grow.refl w).drew) (fun hH=>?_)
 refine tkA 0 (.slice (some ⟨lb,lo,none⟩) 6 lc) rfl ?_ hH ?_
 ·intro w9 hw9;go_simp
 try simp only [nrm]
 refine tkA 1 (.slice (some ⟨lb,lo,none⟩) 4 lc) rfl ?_ hH ?_
 ·intro w9 hw9;go_simp;all_goals (first | done | (intro hbad;omega) | skip)
 try simp only [nrm]
 refine tkA 3 (.slice (some ⟨lb,lo,none⟩) 6 lc) rfl ?_ hH ?_
 ·intro w9 hw9;go_simp
 try simp only [nrm]
 refine tkA 4 (.pointer (some ⟨lb,lo+4,none⟩)) rfl ?_ hH ?_
 ·intro w9 hw9;go_simp
 try simp only [nrm]
 refine tkA 5 (.int .i64 o) rfl ?_ hH ?_
 ·intro w9 hw9;have y9:=Grow.cell hw9 y4;go_simp
 try simp only [nrm]
 refine tkA 6 (.slice (some ⟨lb,lo,none⟩) 6 lc) rfl ?_ hH ?_
 ·intro w9 hw9;go_simp
 try simp only [nrm]
 refine tkA 7 (.pointer (some ⟨lb,lo+5,none⟩)) rfl ?_ hH ?_
 ·intro w9 hw9;go_simp
 try simp only [nrm]
 refine tkA 8 (.int .i64 wt) rfl ?_ hH ?_
 ·intro w9 hw9;have y9:=Grow.cell hw9 y5;go_simp
 try simp only [nrm]
 refine tk2 2 10 rfl rfl (fun K hK=>?_) fun K hK=>?_
 ·
  go_simp;refine zgw [x0,x1,x2,x3] _ _ ?_ (by simp) _ ?_
  ·have h9:=(HL.out.grow hH).take (m:=4) (by rw [HLE.out];simp)
   rw [HLE.out] at h9;exact h9
  intro w1 k1 hg1 hk1;obtain ⟨ca,cc,rfl,q1,q2,jk1⟩:=zaa zal hk1;have HNC:=jH (show NewS w.heap.size (.slice ca [x0,x1,x2,x3].length cc) from (NewS.of_own (show Own 1 encI _ w1 (.slice ca [x0,x1,x2,x3].length cc) [x0,x1,x2,x3] from ⟨_,hk1⟩)).mono hH.sz);simp only [List.length_cons,List.length_nil,Nat.zero_add,Nat.reduceAdd] at hk1 HNC q1 ⊢;clear jk1;go_wp2_with fail;refine hK.out _ _ (hH.trans hg1) ?_;clear hK K hH;intro hH;try simp only [nrm]
  refine tkA 9 (.agg #[.slice ca 4 cc,.int .i64 o,.int .i64 wt]) rfl ?_ hH ?_
  ·intro w9 hw9;go_simp
  try simp only [nrm]
  refine tk1 10 rfl fun K hK=>?_;go_simp;refine hK.out _ _ (hH.alloc _) ?_;clear hK K hH;intro hH;try simp only [nrm]
  refine tk1 11 rfl fun K hK=>?_;have hzb:=heap_alloc_new w1 (.cells #[.slice none 0 0,.int .i64 0,.int .i64 0] 63);have hbw:w.heap.size≤w1.heap.size:=hg1.sz;have z0:=zac hzb 0;have z1:=zac hzb 1;have z2:=zac hzb 2;obtain ⟨d0,d1,d2⟩:=box3 hzb;have hpb:=heap_alloc_new w1 (.cells #[.slice ca 4 cc,.int .i64 o,.int .i64 wt] 63);go_simp;have hg3:Grow w (w1.alloc (.cells #[.slice ca 4 cc,.int .i64 o,.int .i64 wt] 63)):=(show Grow w w1 from (Grow.refl w).drew.trans hg1).alloc _;have hi3:IntsAt (w1.alloc (.cells #[.slice ca 4 cc,.int .i64 o,.int .i64 wt] 63)) (.slice ca 4 cc) [x0,x1,x2,x3]:=SlcAt.grow (zaa (xs:=[x0,x1,x2,x3]) zal hk1) ((Grow.refl w1).alloc _);refine hK.out _ _ hg3 ?_;clear hK K hH;intro hH;try simp only [nrm]
  refine wpAnyH_done (by kernel_rfl) ?_ _
  clear z0 z1 z2 d0 d1 d2 hzb;have hbN:w1.heap.size≠N:=by omega
  go_wp2_with fail;go_meet;exact ⟨w1.heap.size,ca,cc,rfl,hg3,hpb,hbN,hi3,HNC.out,q1,q2⟩
 ·
  go_simp;refine hK.out _ _ ((Grow.refl w).drew.alloc _) ?_;clear hK K hH;intro hH;try simp only [nrm]
  refine tk1 2 rfl fun K hK=>?_;go_simp;refine zgw [x0,x1,x2,x3] _ _ ?_ (by simp) _ ?_
  ·have h9:=(HL.out.grow hH).take (m:=4) (by rw [HLE.out];simp)
   rw [HLE.out] at h9;exact h9
  intro w1 k1 hg1 hk1;obtain ⟨ca,cc,rfl,q1,q2,jk1⟩:=zaa zal hk1;have HNC:=jH (show NewS w.heap.size (.slice ca [x0,x1,x2,x3].length cc) from (NewS.of_own (show Own 1 encI _ w1 (.slice ca [x0,x1,x2,x3].length cc) [x0,x1,x2,x3] from ⟨_,hk1⟩)).mono hH.sz);simp only [List.length_cons,List.length_nil,Nat.zero_add,Nat.reduceAdd] at hk1 HNC q1 ⊢;clear jk1;go_wp2_with fail;refine hK.out _ _ (hH.trans hg1) ?_;clear hK K hH;intro hH;try simp only [nrm]
  refine tkA 9 (.agg #[.slice ca 4 cc,.int .i64 o,.int .i64 wt]) rfl ?_ hH ?_
  ·intro w9 hw9;go_simp
  try simp only [nrm]
  refine tk1 11 rfl fun K hK=>?_;have hzb:=hg1.blk (k:=w.heap.size) (heap_alloc_new w (.cells #[.slice none 0 0,.int .i64 0,.int .i64 0] 63));have hbw:w.heap.size≤w.heap.size:=Nat.le_refl _;have z0:=zac hzb 0;have z1:=zac hzb 1;have z2:=zac hzb 2;obtain ⟨d0,d1,d2⟩:=box3 hzb;have hpb:=put3 hzb (.slice ca 4 cc) (.int .i64 o) (.int .i64 wt);go_simp;have hg3:Grow w (((w1.setCell ⟨w.heap.size,0,none⟩ (.slice ca 4 cc)).setCell ⟨w.heap.size,1,none⟩ (.int .i64 o)).setCell ⟨w.heap.size,2,none⟩ (.int .i64 wt)):=Below.setCell (Below.setCell (Below.setCell hH hbw _) hbw _) hbw _;have hi3:=SlcAt.unhide (SlcAt.grow ((zaa (xs:=[x0,x1,x2,x3]) zal hk1).hide_new (NewS.of_own (show Own 1 encI _ w1 (.slice ca 4 cc) [x0,x1,x2,x3] from ⟨_,hk1⟩)) (H:=fun k=>k == w.heap.size) (fun b hb=>by have:(w.alloc (.cells #[.slice none 0 0,.int .i64 0,.int .i64 0] 63)).drew.heap.size=w.heap.size+1:=World.size_alloc _ _;simp only [beq_eq_false_iff_ne];omega)) ((((zcn w.heap.size w1).setCell 0 (.slice ca 4 cc)).setCell 1 (.int .i64 o)).setCell 2 (.int .i64 wt)))
  refine hK.out _ _ hg3 ?_;clear hK K hH;intro hH;try simp only [nrm]
  refine wpAnyH_done (by kernel_rfl) ?_ _
  clear z0 z1 z2 d0 d1 d2 hzb;have hbN:w.heap.size≠N:=by omega
  go_wp2_with fail;go_meet;exact ⟨w.heap.size,ca,cc,rfl,hg3,hpb,hbN,hi3,HNC.out,q1,q2⟩
end Go.Proofs.YtmeejlgnhfkeaaaGreatDoor
