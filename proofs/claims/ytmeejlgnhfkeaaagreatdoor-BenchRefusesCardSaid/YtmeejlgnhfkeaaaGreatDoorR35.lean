/- Parts. -/
import Derived.Test.YtmeejlgnhfkeaaaGreatDoorR33
import Derived.Test.YtmeejlgnhfkeaaaGreatDoorR34
import Derived.Conc.MuLone
import Derived.Test.YtmeejlgnhfkeaaaGreatDoorR24
import Derived.BigQuiet
import Derived.RegionTactic
import Derived.Deep.RegionHeld3
import Derived.Test.YtmeejlgnhfkeaaaGreatDoorR49
namespace Go.Proofs.YtmeejlgnhfkeaaaGreatDoor
open Go.RowKit Go.Proofs.Tryz
set_option maxRecDepth 100000
set_option maxHeartbeats 4000000
open Go.MuLone
theorem Glob.chg {w w':World} {B:Nat} (h:Glob w) (c:Chg B w w') (hB:4<B):Glob w':=h.same fun k o hk ho=>c.blk (by omega) ho
theorem zoj {m:Int} {H:Nat→Bool} {B:Nat} {w:World} {s:Bn} (h:BmAt m H B w s):w.cell? ⟨B,0,none⟩=some (.int .i32 m)∧w.frozen? ⟨B,0,none⟩=false:=by
 obtain ⟨V,hb,_⟩:=h.blk;exact ⟨(zgc hb).1,zac hb 0⟩
theorem BmAt.set {m:Int} {H:Nat→Bool} {B:Nat} {w:World} {s:Bn} (h:BmAt m H B w s) (m':Int):BmAt m' H B (w.setCell ⟨B,0,none⟩ (.int .i32 m')) s:=by
 obtain ⟨V,hb,hs⟩:=h.blk;have hb2:(w.setCell ⟨B,0,none⟩ (.int .i32 m')).heap[B]?=some (.cells (lkCells m' V s) 88 (0,0)):=zau hb 0 (.int .i32 m');have hc:Chg B w (w.setCell ⟨B,0,none⟩ (.int .i32 m')):=(zcn B w).setCell 0 _;refine ⟨⟨h.hid.hH,fun k hk=>Nat.lt_of_lt_of_le (h.hid.bd k hk) hc.sz⟩,V,hb2,?_⟩;rw [zak (a:=⟨B,0,none⟩) h.hid.hH];exact hs
theorem chg_back {B:Nat} {w w':World} {o:Obj} (c:Chg B w w') (hb:w.heap[B]?=some o) (hb2:w'.heap[B]?=some o):Grow w w':=by
 have c0:Below (hideW (fun k=>k == B) w).heap.size (hideW (fun k=>k == B) w) (hideW (fun k=>k == B) w'):=c;refine ⟨c0.os,c0.tape,c0.output,c.sz,fun k hk=>?_⟩;obtain ⟨x,hx⟩:∃ x,w.heap[k]?=some x:=⟨_,Array.getElem?_eq_getElem hk⟩;by_cases e:k=B
 ·subst e;rw [hb,hb2]
 ·rw [c.blk e hx,hx]
theorem zqo (H:Nat→Bool) (B:Nat) (t:ByteArray) (ht:t.size<4294967281) (s:Bn) (w:World) (hg:Glob w) (h:BnAt H B w s) (ok:OkB s) (hB:4<B) (R:Ending→World→Prop)
  (hR:∀ w',Chg B w w'→BnAt H B w' (doB s t).2→R (.returned (.int .i64 (doB s t).1)) w') :
  Calls Tryz.prog 14 #[.pointer (some ⟨B,0,none⟩),.string t] w R:=by
 have h0:=zrg.2 h;obtain ⟨c0,z0⟩:=zoj h0;have HM1:=jH (h0.set 1);have HC1:=jH ((zcn B w).setCell 0 (.int .i32 1));have HG1:=jH (hg.chg HC1.out hB);have HR:=jH hR;have HOK:=jH ok;clear h h0 hR ok hg
 go_enter_defers func14,ntmps14
 go_wp2_with (go_at_call 34;refine (lock_free Tryz.muLib ⟨B,0,none⟩ _ c0 z0).mono ?_;rintro e w' ⟨rfl,rfl⟩);refine bdo_any H B t ht s _ HG1.out HM1.out HOK.out _ ?_;intro w2 hc2 hm2;have HC2:=jH (HC1.out.trans hc2);have HM2:=jH hm2;have HG2:=jH (HG1.out.chg hc2 hB);clear hc2 hm2;go_wp2_with fail;refine zuy _ _ HG2.out.er _ ?_;intro w3 hg3;have HC3:=jH (HC2.out.trans (Chg.of_grow hg3));have HM3:=jH (HM2.out.grow hg3);clear hg3;obtain ⟨c3,z3⟩:=zoj HM3.out;have HF:=jH (HR.out _ (HC3.out.setCell 0 (.int .i32 0)) (zrg.1 (HM3.out.set 0)));obtain ⟨e,he⟩:∃ e,(doB s t).1=e:=⟨_,rfl⟩;rw [he] at HF ⊢;clear he;go_wp2_with fail;refine leaves_cons (f:=35) (args:=#[.pointer (some ⟨B,0,none⟩)]) (by simp) (by simp [go_sem]) ?_
 refine (unlock_deferred Tryz.muLib ⟨B,0,none⟩ .returning _ c3 z3).mono ?_;rintro e u' w'' ⟨rfl,rfl,rfl⟩;refine ⟨_,results_tmp rfl _ _ _,?_⟩;exact HF.out
theorem put7z {w:World} {b:Nat} {x0 x1 x2 x3 x4 x5 x6:Value} {e:TypeId} (h:w.heap[b]?=some (.cells #[x0,x1,x2,x3,x4,x5,x6] e (0,0))) (y0 y1 y2 y3 y4 y5 y6:Value) :
  (((((((w.setCell ⟨b,0,none⟩ y0).setCell ⟨b,1,none⟩ y1).setCell ⟨b,2,none⟩ y2).setCell ⟨b,3,none⟩ y3).setCell ⟨b,4,none⟩ y4).setCell ⟨b,5,none⟩ y5).setCell ⟨b,6,none⟩ y6).heap[b]?=some (.cells #[y0,y1,y2,y3,y4,y5,y6] e (0,0)):=by
 have h1:(w.setCell ⟨b,0,none⟩ y0).heap[b]?=some (.cells #[y0,x1,x2,x3,x4,x5,x6] e (0,0)):=zau h 0 y0;have h2:((w.setCell ⟨b,0,none⟩ y0).setCell ⟨b,1,none⟩ y1).heap[b]?=some (.cells #[y0,y1,x2,x3,x4,x5,x6] e (0,0)):=zau h1 1 y1;have h3:(((w.setCell ⟨b,0,none⟩ y0).setCell ⟨b,1,none⟩ y1).setCell ⟨b,2,none⟩ y2).heap[b]?=some (.cells #[y0,y1,y2,x3,x4,x5,x6] e (0,0)):=zau h2 2 y2;have h4:((((w.setCell ⟨b,0,none⟩ y0).setCell ⟨b,1,none⟩ y1).setCell ⟨b,2,none⟩ y2).setCell ⟨b,3,none⟩ y3).heap[b]?=some (.cells #[y0,y1,y2,y3,x4,x5,x6] e (0,0)):=zau h3 3 y3;have h5:(((((w.setCell ⟨b,0,none⟩ y0).setCell ⟨b,1,none⟩ y1).setCell ⟨b,2,none⟩ y2).setCell ⟨b,3,none⟩ y3).setCell ⟨b,4,none⟩ y4).heap[b]?=some (.cells #[y0,y1,y2,y3,y4,x5,x6] e (0,0)):=zau h4 4 y4;have h6:((((((w.setCell ⟨b,0,none⟩ y0).setCell ⟨b,1,none⟩ y1).setCell ⟨b,2,none⟩ y2).setCell ⟨b,3,none⟩ y3).setCell ⟨b,4,none⟩ y4).setCell ⟨b,5,none⟩ y5).heap[b]?=some (.cells #[y0,y1,y2,y3,y4,y5,x6] e (0,0)):=zau h5 5 y5;have h7:(((((((w.setCell ⟨b,0,none⟩ y0).setCell ⟨b,1,none⟩ y1).setCell ⟨b,2,none⟩ y2).setCell ⟨b,3,none⟩ y3).setCell ⟨b,4,none⟩ y4).setCell ⟨b,5,none⟩ y5).setCell ⟨b,6,none⟩ y6).heap[b]?=some (.cells #[y0,y1,y2,y3,y4,y5,y6] e (0,0)):=zau h6 6 y6;exact h7
theorem Chg.setNew {B:Nat} {w w':World} (h:Chg B w w') {n:Nat} (hn:w.heap.size≤n) (o:Nat) (v:Value):Chg B w (w'.setCell ⟨n,o,none⟩ v):=by
 have h0:Below (hideW (fun k=>k == B) w).heap.size (hideW (fun k=>k == B) w) (hideW (fun k=>k == B) w'):=h;refine ⟨h0.os,h0.tape,h0.output,?_,fun k hk=>?_⟩
 ·rw [zav,zav];have:=h.sz;simpa [World.setCell] using this
 ·have h1:=(show Grow (hideW (fun k=>k == B) w) (hideW (fun k=>k == B) w') from h).heap hk;rw [zav] at hk;rw [zbk,zbk] at h1 ⊢;rw [Below.heap_setCell _ _ _ _ (by show k≠n;omega)]
  exact h1
theorem zdr (H:Nat→Bool) (B:Nat) (s:Bn) (w:World) (h:BnAt H B w s) (R:Ending→World→Prop)
  (hR:∀ w' V,Grow w w'→StAt (hideW H w') V s→R (.returned (.agg (stCells V s))) w') :
  Calls Tryz.prog 48 #[.pointer (some ⟨B,0,none⟩)] w R:=by
 obtain ⟨V,hb0,hs0⟩:=h.blk;have hb:w.heap[B]?=some (.cells (lkCells 0 V s) 88 (0,0)):=hb0;have hBl:=lt_of_block hb;have HR:=jH hR;have HS:=jH hs0;have HB:=jH hb;have hb1:=((Grow.refl w).alloc (.cells #[.slice none 0 0,.slice none 0 0,.slice none 0 0,.slice none 0 0,.int .i64 0,.int .i64 0,.slice none 0 0] 86)).blk hb;have HC0:=jH (zgc hb1).1;have HZ0:=jH (zac hb1 0);have HB1:=jH hb1;clear hR hs0 hb0 h hb1 hb
 go_enter_defers func48,ntmps48
 go_wp2_with (go_at_call 34;refine Classical.byContradiction (fun hcon=>?_));refine hcon ?_;clear hcon;refine (lock_free Tryz.muLib ⟨B,0,none⟩ _ HC0.out HZ0.out).mono ?_;rintro e w1 ⟨rfl,hw1⟩;have hb2:w1.heap[B]?=some (.cells (lkCells 1 V s) 88 (0,0)):=by rw [hw1];exact zau HB1.out 0 (.int .i32 1)
 have hz2:w1.heap[w.heap.size]?=some (.cells #[.slice none 0 0,.slice none 0 0,.slice none 0 0,.slice none 0 0,.int .i64 0,.int .i64 0,.slice none 0 0] 86 (0,0)):=by rw [hw1,Below.heap_setCell _ _ _ _ (by show w.heap.size≠B;omega)];exact heap_alloc_new w (.cells #[.slice none 0 0,.slice none 0 0,.slice none 0 0,.slice none 0 0,.int .i64 0,.int .i64 0,.slice none 0 0] 86)
 have hc1:Chg B w w1:=by rw [hw1];exact (Chg.of_grow ((Grow.refl w).alloc _)).setCell 0 _
 obtain ⟨n,hn⟩:∃ n,w.heap.size=n:=⟨_,rfl⟩;have HN:=jH (show w.heap.size≤n by omega)
 have hBn:B≠n:=by omega
 rw [hn] at hz2 ⊢;have HC1:=jH hc1;have hbz2:=Chg.blk ((((((((zcn n w1).setCell 0 (.slice V.pa s.progs.length V.pc)).setCell 1 (.slice V.ha s.hist.length V.hc)).setCell 2 (.slice V.ta s.tests.length V.tc)).setCell 3 (.slice V.la s.lk.length V.lc)).setCell 4 (.int .i64 s.fixes)).setCell 5 (.int .i64 s.checks)).setCell 6 (.slice V.oa s.orders.length V.oc)) hBn hb2;have hg:=chg_back ((((((((HC1.out.setNew HN.out 0 (.slice V.pa s.progs.length V.pc)).setNew HN.out 1 (.slice V.ha s.hist.length V.hc)).setNew HN.out 2 (.slice V.ta s.tests.length V.tc)).setNew HN.out 3 (.slice V.la s.lk.length V.lc)).setNew HN.out 4 (.int .i64 s.fixes)).setNew HN.out 5 (.int .i64 s.checks)).setNew HN.out 6 (.slice V.oa s.orders.length V.oc)).setCell 0 (.int .i32 0)) HB.out (zau hbz2 0 (.int .i32 0));have HF:=jH (HR.out _ V hg (HS.out.grow (hg.hid H)));have hzp:=put7z hz2 (.slice V.pa s.progs.length V.pc) (.slice V.ha s.hist.length V.hc) (.slice V.ta s.tests.length V.tc) (.slice V.la s.lk.length V.lc) (.int .i64 s.fixes) (.int .i64 s.checks) (.slice V.oa s.orders.length V.oc);have hzq:((((((((w1.setCell ⟨n,0,none⟩ (.slice V.pa s.progs.length V.pc)).setCell ⟨n,1,none⟩ (.slice V.ha s.hist.length V.hc)).setCell ⟨n,2,none⟩ (.slice V.ta s.tests.length V.tc)).setCell ⟨n,3,none⟩ (.slice V.la s.lk.length V.lc)).setCell ⟨n,4,none⟩ (.int .i64 s.fixes)).setCell ⟨n,5,none⟩ (.int .i64 s.checks)).setCell ⟨n,6,none⟩ (.slice V.oa s.orders.length V.oc)).setCell ⟨B,0,none⟩ (.int .i32 0)).heap[n]?=some (.cells (stCells V s) 86 (0,0)):=by rw [Below.heap_setCell _ _ _ _ (show n≠B from fun e=>hBn e.symm)];exact hzp
 have HZQ:=jH hzq;have HK0:=jH (zgc hbz2).1;have HKZ:=jH (zac hbz2 0);obtain ⟨_,_,d2,d3,d4,d5,d6,d7,d8⟩:=zgc hb2;obtain ⟨x0,x1,x2,x3,x4,x5,x6⟩:=st7 hz2;have zz0:=zac hz2 0;have zz1:=zac hz2 1;have zz2:=zac hz2 2;have zz3:=zac hz2 3;have zz4:=zac hz2 4;have zz5:=zac hz2 5;have zz6:=zac hz2 6;clear hw1 hc1 hbz2 hg hzp hzq hb2 hz2 hn;go_wp2_with fail;unfold bodyPostD;dsimp only;refine leaves_cons (f:=35) (args:=#[.pointer (some ⟨B,0,none⟩)]) (by simp) (by simp [go_sem]) ?_
 refine (unlock_deferred Tryz.muLib ⟨B,0,none⟩ .returning _ HK0.out HKZ.out).mono ?_;rintro e u' w'' ⟨rfl,rfl,rfl⟩;obtain ⟨q0,q1,q2,q3,q4,q5,q6⟩:=zas HZQ.out;refine ⟨.agg (stCells V s),?_,HF.out⟩;unfold stCells;simp [results,Tryz.results48,go_sem,q0,q1,q2,q3,q4,q5,q6]
set_option maxRecDepth 100000
set_option maxHeartbeats 4000000
theorem new_at {w:World} {n:Nat} {lo:Lo Ln} (ha:w.heap[n]?=some (.cells #[lo.v] 22 (0,0))) (hl:SlcAt 4 encL w lo.v lo.x) :
  BnAt (fun k=>k == w.heap.size) w.heap.size (w.alloc (.cells (bnCells ⟨some ⟨n,0,none⟩,1,none,0,none,0,none,0,none,0⟩ (newB lo.x)) 88)) (newB lo.x):=by
 have hnl:=lt_of_block ha;have g:Grow w (w.alloc (.cells (bnCells ⟨some ⟨n,0,none⟩,1,none,0,none,0,none,0,none,0⟩ (newB lo.x)) 88)):=(Grow.refl w).alloc _;have hbl:=heap_alloc_new w (.cells (bnCells ⟨some ⟨n,0,none⟩,1,none,0,none,0,none,0,none,0⟩ (newB lo.x)) 88);refine ⟨⟨by simp,fun k hk=>?_⟩,_,hbl,?_⟩
 ·obtain rfl:=beq_iff_eq.1 hk;rw [World.size_alloc];omega
 ·refine ⟨⟨[lo],⟨?_,fun t ht=>?_⟩,rfl⟩,⟨[],LlAt.nil _ _ _,rfl⟩,⟨[],TqAt.nil _,rfl⟩,SlcAt.nil _ _ _,SlcAt.nil _ _ _⟩
  ·have h1:SlcAt 1 encLo w (.slice (some ⟨n,0,none⟩) 1 1) [lo]:=by
    refine ⟨_,1,rfl,Nat.le_refl _,by decide,.inr ⟨n,0,rfl,hnl,fun j x hj i u hu=>?_⟩⟩
    cases j with
    | succ j=>simp at hj
    | zero=>
     simp at hj;subst hj;cases i with
     | succ i=>simp [encLo] at hu
     | zero=>
      simp [encLo] at hu;subst hu;exact cellOf ha 0 rfl
   exact (h1.grow g).hide fun b o m c e=>.inl (by
    injection e with e1 _ _;injection e1 with e1;injection e1 with e1 _ _;subst e1;rw [beq_eq_false_iff_ne];omega)
  ·simp only [List.mem_cons,List.not_mem_nil,or_false] at ht;subst ht;exact hl.old g (Nat.le_refl _)
theorem New_any (p:List Ln) (v:Value) (w:World) (hp:LinesAt w v p) (hn:p.length<10000000000) (R:Ending→World→Prop)
  (hno:valP p≠0→∀ w',Grow w w'→R (.returned (.tuple #[.pointer none,.int .i64 (valP p)])) w')
  (hok:valP p=0→∀ w' B,Grow w w'→w.heap.size≤B→BnAt (fun k=>k == B) B w' (newB p)→R (.returned (.tuple #[.pointer (some ⟨B,0,none⟩),.int .i64 0])) w') :
  Calls Tryz.prog 31 #[v] w R:=by
 have HNO:=jH hno;have HOK:=jH hok;have HP:=jH hp;clear hno hok hp
 go_enter func31,ntmps31
 go_wp2_with fail;refine zbm p v _ HP.out _ ?_;intro w1 hg1;have HG1:=jH hg1;clear hg1;by_cases h0:valP p=0;rotate_left
 ·have HF:=jH (HNO.out h0 w1 HG1.out);have hz:(valP p != 0)=true:=by simpa using h0
  obtain ⟨e,he⟩:∃ e,valP p=e:=⟨_,rfl⟩;rw [he] at HF hz h0 ⊢;clear he;go_wp2_with fail;exact HF.out
 have HF:=jH (HOK.out h0);rw [h0];go_wp2_with fail;refine zxh p v _ (HP.out.grow HG1.out) hn _ ?_;intro w2 k2 hg2 hk2;obtain ⟨a,c,rfl,q1,q2,jk⟩:=zaa zab hk2;have HK2:=jH hk2;have HG2:=jH (HG1.out.trans hg2);clear hk2 jk hg2;obtain ⟨n,hn⟩:∃ n,w2.heap.size=n:=⟨_,rfl⟩;have ha:(w2.alloc (.cells #[.slice a p.length c] 22)).heap[n]?=some (.cells #[.slice a p.length c] 22 (0,0)):=by rw [← hn];exact heap_alloc_new _ _
 have hg3:Grow w2 ((w2.alloc (.cells #[.slice a p.length c] 22)).alloc (.cells (bnCells ⟨some ⟨n,0,none⟩,1,none,0,none,0,none,0,none,0⟩ (newB p)) 88)):=((Grow.refl w2).alloc _).alloc _;have hbn:=new_at (lo:=⟨a,p.length,c,p⟩) ha (zaa zab (((Grow.refl w2).alloc (.cells #[.slice a p.length c] 22)).owns HK2.out));rw [World.size_alloc,hn] at hbn;have HFF:=jH (HF.out _ (n+1) (HG2.out.trans hg3) (by have:=HG2.out.sz;omega) hbn)
 rw [← hn] at HFF;clear hbn hg3 ha hn;go_wp2_with fail;exact HFF.out
set_option maxRecDepth 100000
set_option maxHeartbeats 4000000
theorem OkB.pne {s:Bn} (h:OkB s):s.progs≠[]:=by intro e;have:=h.len;rw [e] at this;simp at this
theorem valp_len {p:List Ln} (h:valP p=0):p.length≤8:=(zba.1 h).1
theorem Program_any (H:Nat→Bool) (B:Nat) (s:Bn) (w:World) (h:BnAt H B w s) (ok:OkB s) (R:Ending→World→Prop)
  (hR:∀ w' v base,Grow w w'→w.heap.size≤base→w'.ownsRow base 57 4 v s.prog.length (s.prog.flatMap encL)→R (.returned v) w') :
  Calls Tryz.prog 22 #[.pointer (some ⟨B,0,none⟩)] w R:=by
 have HR:=jH hR;have HH:=jH h;have HPN:=jH ok.pne;have HPL:=jH (valp_len ok.valp);clear hR h ok
 go_enter func22,ntmps22
 go_wp2_with fail;refine zdr H B s _ HH.out _ ?_;intro w1 V hg1 hs1;have HS1:=jH hs1;have HG1:=jH hg1;clear hs1 hg1;go_wp2_with fail;refine zcm H V s _ HS1.out HPN.out _ ?_;intro w2 pv hg2 hpv;have HPV:=jH hpv.unhide;have HG2:=jH (HG1.out.trans hg2);clear hpv hg2;go_wp2_with fail;refine zxh s.prog pv _ HPV.out (by have:=HPL.out;omega) _ ?_
 intro w3 k3 hg3 hk3;have HF:=jH (HR.out w3 k3 _ (HG2.out.trans hg3) HG2.out.sz hk3);clear hg3 hk3;go_wp2_with fail;exact HF.out
set_option maxRecDepth 100000
set_option maxHeartbeats 8000000
theorem zyr {base:Nat} {T:TypeId} {k n:Nat} {w:World} {v:Value} {l:List Value} (h:w.ownsRow base T k v n l):NewS base v:=by
 intro b o c e;subst e;rcases h.2 with ⟨hv,_⟩ | ⟨g,cap,cur,hv,hg,hh,_⟩
 ·cases hv
 ·cases hv;exact hg
theorem History_any (H:Nat→Bool) (B:Nat) (s:Bn) (w:World) (h:BnAt H B w s) (ok:OkB s) (R:Ending→World→Prop)
  (hR:∀ w' v base L,Grow w w'→w.heap.size≤base→(NewS base v∧∀ t∈L,NewS base t.v)→LlAt 5 encE w' v L→L.map Lo.x=s.hist→R (.returned v) w') :
  Calls Tryz.prog 23 #[.pointer (some ⟨B,0,none⟩)] w R:=by
 have HR:=jH hR;have HH:=jH h;have H8:=jH ok.h8;have HXL:=jH (fun (x:List Ed) (hx:x∈s.hist)=>show x.length≤4 from by
  obtain ⟨i,hi⟩:=List.getElem?_of_mem hx;have hil:=(List.getElem?_eq_some_iff.1 hi).1;have hlen:=ok.len;obtain ⟨p,hp⟩:∃ p,s.progs[i]?=some p:=⟨_,List.getElem?_eq_getElem (by omega)⟩
  obtain ⟨q,hq⟩:∃ q,s.progs[i+1]?=some q:=⟨_,List.getElem?_eq_getElem (by omega)⟩
  have h1:=(zdn.1 (ok.step i p x q hp hi hq).1).2.1;unfold valX at h1;by_cases h4:4<x.length
  ·rw [if_pos h4] at h1;cases h1
  ·omega)
 clear hR h ok
 go_enter func23,ntmps23
 go_wp2_with fail;refine zdr H B s _ HH.out _ ?_;intro w1 V hg1 hs1;obtain ⟨M,hM,hMx⟩:=hs1.unhide.hi;have hMl:M.length=s.hist.length:=by rw [← hMx];simp
 have HG1:=jH hg1;have HM:=jH hM;have HMX:=jH hMx;have hc:stCells V s=#[.slice V.pa s.progs.length V.pc,.slice V.ha s.hist.length V.hc,.slice V.ta s.tests.length V.tc,.slice V.la s.lk.length V.lc,.int .i64 s.fixes,.int .i64 s.checks,.slice V.oa s.orders.length V.oc]:=rfl;rw [hc];have hfd:∀ (x0 x1 x2 x3 x4 x5 x6:Value) (W:World),(Instr.field 86 (.agg #[x0,x1,x2,x3,x4,x5,x6]) 1).run Tryz.prog W=.ok x1 W:=fun _ _ _ _ _ _ _ _=>by kernel_rfl
 clear hs1 hM hMx hc;go_wp2_with fail
 go_loopw [3,10] (fun out i wr=>∃ (k:Nat) (L:List (Lo Ed)),k≤s.hist.length∧i=.int .i64 k∧Grow w1 wr∧LoOwn w1.heap.size 58 5 encE wr out L∧L.map Lo.x=s.hist.take k∧∀ t∈L,NewS w1.heap.size t.v) (fun _ i _=>s.hist.length - (intOf i).toNat)
 case atStart=>exact ⟨0,[],Nat.zero_le _,rfl,Grow.refl _,LoOwn.nil _ _ _ _ _,rfl,by simp⟩
 case round=>
  obtain ⟨k,L,hk,rfl,hg,how,hLx,hNL⟩:=hrel;have HNL:=jH hNL;clear hNL;have HG:=jH hg;have HOW:=jH how;have HLX:=jH hLx;have hzw:=hg.sz;have hLk:L.length=k:=by have:=congrArg List.length hLx;simp at this;omega
  clear hg how hLx;by_cases hlt:k<s.hist.length
  ·have hlt2:(k:Int)<(s.hist.length:Int):=by omega
   have hk8:k<8:=by have:=H8.out;omega
   obtain ⟨t,ht⟩:∃ t,M[k]?=some t:=⟨_,List.getElem?_eq_getElem (by omega)⟩
   obtain ⟨mb,mo,hha,hmb,m0⟩:=lo_at (HM.out.grow HG.out).at_ ht;have hxk:s.hist[k]?=some t.x:=by rw [← HMX.out,List.getElem?_map,ht];rfl
   have hx4:=HXL.out t.x (List.mem_of_getElem? hxk);have HI:=jH ((HM.out.grow HG.out).ins t (List.mem_of_getElem? ht));have HLN:=jH (show s.hist.take (k+1)=s.hist.take k++[t.x] by rw [List.take_add_one,hxk];rfl)
   have HLE:=jH (show L.length<100000000000 by have:=H8.out;omega)
   rw [hha];clear hxk ht hLk hha;go_wp2_with fail;refine zwg t.x _ _ HI.out (by omega) _ ?_
   intro w2 v2 hg2 hv2;have HO2:=jH (show Own 5 encE wr.heap.size w2 v2 t.x from ⟨_,hv2⟩);have HX2:=jH (HO2.out.slc zbh);have HN2:=jH ((NewS.of_own HO2.out).mono hzw);obtain ⟨a1,c1,rfl,q1,q2,jk5⟩:=HO2.out.slc zbh;have HB1:=jH (HOW.out.new HO2.out);have HG2:=jH (HG.out.trans hg2);have HO1:=jH (HOW.out.grow hg2);have hz1:=(HG.out.trans hg2).sz;clear hg2 hv2 HOW jk5 m0;go_wp2_with (at_builtin;refine zdj _ rfl (.tmp 14) (.tmp 17) 44 rfl w1.heap.size 58 underlying44 zdv rfl (by decide) (by decide) encLo zaz zce _ L rfl (((Grow.refl w2).alloc _).owns HO1.out.row) _ (⟨a1,t.x.length,c1,t.x⟩:Lo Ed) 1 rfl (newsG _ _ (by simp) (encLo (⟨a1,t.x.length,c1,t.x⟩:Lo Ed)) _) HLE.out (by simp;omega) ?_;intro out2 w5 hown5 hgr5 hat5)
   have HG5:=jH (show Grow w1 w5 from zae HO1.out.row hgr5 (Nat.le_refl _) (by simp;omega) (HG2.out.alloc _))
   have HO5:=jH ((HO1.out.grow ((Grow.refl w2).alloc _)).app (t:=⟨a1,t.x.length,c1,t.x⟩) hgr5 hown5 hat5 (HX2.out.grow ((Grow.refl w2).alloc _)) fun b o s hb=>⟨(HB1.out b o s hb).1,Nat.lt_of_lt_of_le (HB1.out b o s hb).2 ((Grow.refl w2).alloc _).sz⟩);clear hown5 hgr5 hat5;go_roundw
   case rel=>exact ⟨k+1,L++[⟨a1,t.x.length,c1,t.x⟩],by omega,by go_num,HG5.out,HO5.out,by rw [HLN.out,List.map_append,HLX.out];rfl,fun u hu=>by
    rcases List.mem_append.1 hu with hu | hu
    ·exact HNL.out u hu
    ·simp at hu;subst hu;exact HN2.out⟩
   case measure=>simp [intOf];omega
  ·obtain rfl:k=s.hist.length:=by omega
   have hltz:¬ (s.hist.length:Int)<(s.hist.length:Int):=by omega
   have hLx:=HLX.out;rw [List.take_length] at hLx;have HF:=jH (HR.out wr _ w1.heap.size L (HG1.out.trans HG.out) HG1.out.sz ⟨zyr HOW.out.row,HNL.out⟩ ⟨HOW.out.at_,HOW.out.ins⟩ hLx);clear hLx;go_wp2_with fail;exact HF.out
theorem zxb {α β γ:Type} {f:α→γ} {g:β→γ} {L:List α} {M:List β} {xs:List γ} (hL:L.map f=xs) (hM:M.map g=xs) {k:Nat} (hk:k<xs.length):∃ t u,L[k]?=some t∧M[k]?=some u∧f t=g u:=by
 have h1:k<L.length:=by rw [← hL,List.length_map] at hk;exact hk
 have h2:k<M.length:=by rw [← hM,List.length_map] at hk;exact hk
 refine ⟨L[k],M[k],List.getElem?_eq_getElem h1,List.getElem?_eq_getElem h2,?_⟩;have e1:(L.map f)[k]?=(M.map g)[k]?:=by rw [hL,hM]
 rw [List.getElem?_map,List.getElem?_map,List.getElem?_eq_getElem h1,List.getElem?_eq_getElem h2] at e1;exact Option.some.inj e1
theorem tq_at {w:World} {a:Option Addr} {n c:Nat} {ts:List Tq} (h:SlcAt 3 encTq w (.slice a n c) ts) {k:Nat} {t:Tq} (hx:ts[k]?=some t):∃ b o,a=some ⟨b,o,none⟩∧b<w.heap.size ∧
  w.cell? ⟨b,o+k * 3,none⟩=some (.slice t.a t.n t.c)∧w.cell? ⟨b,o+k * 3+1,none⟩=some (.int .i64 t.o)∧w.cell? ⟨b,o+k * 3+2,none⟩=some (.int .i64 t.wt):=by
 obtain ⟨_,_,e,_,_,h⟩:=h;cases e;obtain ⟨b,o,rfl,hb,hc⟩:=h.resolve_left (by intro h0;rw [h0.1] at hx;simp at hx)
 exact ⟨b,o,rfl,hb,by simpa using hc k t hx 0 _ rfl,hc k t hx 1 _ rfl,hc k t hx 2 _ rfl⟩
set_option maxRecDepth 100000
set_option maxHeartbeats 4000000
theorem keep_two {w2 X Y:World} {a0 a1:Addr} {v0 v1:Value} (g:Grow X Y) (h:X.cell? a0=some v0∧X.cell? a1=some v1∧Grow w2 X):Y.cell? a0=some v0∧Y.cell? a1=some v1∧Grow w2 Y:=
 ⟨g.cell h.1,g.cell h.2.1,h.2.2.trans g⟩
theorem zxk (xs:List (List Ed)) (L M:List (Lo Ed)) (v u:Value) (w:World) (hx:LlAt 5 encE w v L) (hy:LlAt 5 encE w u M) (hL:L.map Lo.x=xs) (hM:M.map Lo.x=xs) (R:Ending→World→Prop) (hR:∀ w',Grow w w'→R (.returned (.bool true)) w') :
  Calls Tryz.prog 45 #[v,u] w R:=by
 have HX:=jH hx;have HY:=jH hy;have HR:=jH hR;have hll:L.length=xs.length:=by rw [← hL];simp
 have hml:M.length=xs.length:=by rw [← hM];simp
 obtain ⟨va,vc,rfl,v1,v2,jk⟩:=hx.at_;obtain ⟨ua,uc,rfl,u1,u2,jk2⟩:=hy.at_;have HPA:=jH (fun (k:Nat) (hk:k<xs.length)=>zxb hL hM hk);rw [hll] at v1 HX ⊢;rw [hml] at u1 HY ⊢;clear hR jk jk2 hx hy hL hM hll hml
 go_enter func45,ntmps45
 go_wp2_with fail
 go_loopw [5] (fun s3 wr=>∃ k:Nat,k≤xs.length∧s3=.int .i64 k∧Grow w wr) (fun s3 _=>xs.length - (intOf s3).toNat)
 case atStart=>exact ⟨0,Nat.zero_le _,rfl,Grow.refl _⟩
 case round=>
  obtain ⟨k,hk,rfl,hg⟩:=hrel;have HG:=jH hg;clear hg;by_cases hlt:k<xs.length
  ·have hltz:(k:Int)<(xs.length:Int):=by omega
   obtain ⟨t,t2,ht,ht2,hte⟩:=HPA.out k hlt;obtain ⟨b,o,rfl,hb,y0⟩:=lo_at (HX.out.grow HG.out).at_ ht;have hyy:=lo_at (HY.out.grow HG.out).at_ ht2;obtain ⟨b2,o2,rfl,hb2,z0⟩:=hyy;have HI:=jH ((HX.out.grow HG.out).ins t (List.mem_of_getElem? ht));have HI2:=jH (show SlcAt 5 encE wr t2.v t.x by rw [hte];exact (HY.out.grow HG.out).ins t2 (List.mem_of_getElem? ht2))
   clear ht ht2 hte;go_wp2_with fail
   go_region_held3 (fun Z=>Z.cell? ⟨b,o+k,none⟩=some (.slice t.a t.n t.c)∧Z.cell? ⟨b2,o2+k,none⟩=some (.slice t2.a t2.n t2.c)∧Grow wr Z)
    (first | exact ⟨y0,z0,(Grow.refl wr).drew⟩ | exact ⟨y0,z0,Grow.refl wr⟩ | exact keep_two hg8 (by assumption))
    (first | (go_at_call 80;refine ztr t.x t.x _ _ _ ?_ ?_ _ ?_;exact HI.out.grow (And.right (And.right ‹_›));exact HI2.out.grow (And.right (And.right ‹_›));intro w8 hg8;rw [decide_eq_true (rfl:t.x=t.x)]))
   rename_i hS
   have HG1:=jH (HG.out.trans hS.2.2);clear hS hg8 y0 z0;go_wp2_with fail;go_roundw
   case rel=>exact ⟨k+1,by omega,by go_num,HG1.out⟩
   case measure=>simp [intOf];omega
  ·obtain rfl:k=xs.length:=by omega
   have hltz:¬ (xs.length:Int)<(xs.length:Int):=by omega
   have HF:=jH (HR.out wr HG.out);go_wp2_with fail;exact HF.out
end Go.Proofs.YtmeejlgnhfkeaaaGreatDoor
