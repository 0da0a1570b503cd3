/- Parts. -/
import Derived.Test.YtmeejlgnhfkeaaaGreatDoorR30
import Derived.Test.YtmeejlgnhfkeaaaGreatDoorR32
namespace Go.Proofs.YtmeejlgnhfkeaaaGreatDoor
open Go.RowKit
def lkCells (m:Int) (V:V5) (s:Bn):Array Value:=#[.int .i32 m,.int .u32 0,.slice V.pa s.progs.length V.pc,.slice V.ha s.hist.length V.hc,.slice V.ta s.tests.length V.tc,.slice V.la s.lk.length V.lc,.int .i64 s.fixes,.int .i64 s.checks,.slice V.oa s.orders.length V.oc]
structure BmAt (m:Int) (H:Nat→Bool) (B:Nat) (w:World) (s:Bn):Prop where
 hid:Hidden H B w
 blk:∃ V,w.heap[B]?=some (.cells (lkCells m V s) 88 (0,0))∧StAt (hideW H w) V s
theorem BmAt.grow {m:Int} {H:Nat→Bool} {B:Nat} {w w':World} {s:Bn} (h:BmAt m H B w s) (g:Grow w w'):BmAt m H B w' s:=
 ⟨h.hid.grow g,let ⟨V,h1,h2⟩:=h.blk;⟨V,g.blk h1,h2.grow (g.hid H)⟩⟩
theorem zrg {H:Nat→Bool} {B:Nat} {w:World} {s:Bn}:BmAt 0 H B w s↔BnAt H B w s:=⟨fun h=>⟨h.hid,h.blk⟩,fun h=>⟨h.hid,h.blk⟩⟩
theorem zgc {m:Int} {w:World} {B:Nat} {V:V5} {s:Bn} {T:TypeId} (hb:w.heap[B]?=some (.cells (lkCells m V s) T (0,0))) :
  w.cell? ⟨B,0,none⟩=some (.int .i32 m)∧w.cell? ⟨B,1,none⟩=some (.int .u32 0)∧w.cell? ⟨B,2,none⟩=some (.slice V.pa s.progs.length V.pc)∧w.cell? ⟨B,3,none⟩=some (.slice V.ha s.hist.length V.hc)∧w.cell? ⟨B,4,none⟩=some (.slice V.ta s.tests.length V.tc)∧w.cell? ⟨B,5,none⟩=some (.slice V.la s.lk.length V.lc)∧w.cell? ⟨B,6,none⟩=some (.int .i64 s.fixes)∧w.cell? ⟨B,7,none⟩=some (.int .i64 s.checks)∧w.cell? ⟨B,8,none⟩=some (.slice V.oa s.orders.length V.oc):=by
 unfold World.cell?;rw [hb];exact ⟨rfl,rfl,rfl,rfl,rfl,rfl,rfl,rfl,rfl⟩
theorem zmp {N:Nat} {w w1 w2:World} (g:Grow w w1) (c:Chg N w1 w2) (h:w.heap.size≤N):Grow w w2:=by
 have c0:Below (hideW (fun k=>k == N) w1).heap.size (hideW (fun k=>k == N) w1) (hideW (fun k=>k == N) w2):=c;refine ⟨c0.os.trans g.os,c0.tape.trans g.tape,c0.output.trans g.output,Nat.le_trans g.sz c.sz,fun k hk=>?_⟩;obtain ⟨o,ho⟩:∃ o,w.heap[k]?=some o:=⟨_,Array.getElem?_eq_getElem hk⟩;rw [c.blk (by omega) (g.blk ho),ho]
theorem zot (A C:Nat→Bool) (w:World):hideW A (hideW C w)=hideW (fun k=>C k || A k) w:=by
 have:(hideW A (hideW C w)).heap=(hideW (fun k=>C k || A k) w).heap:=by
  apply Array.ext_getElem?
  intro k;rw [zbk,zbk,zbk];cases w.heap[k]? with
  | none=>rfl
  | some o=>cases A k<;>cases C k<;>rfl
 unfold hideW at this ⊢
 congr 1
def hidN (H:Nat→Bool) (N:Nat):Nat→Bool:=fun k=>H k || (k == N)
theorem StAt.less {H:Nat→Bool} {N:Nat} {w:World} {V:V5} {s:Bn} (h:StAt (hideW (hidN H N) w) V s):StAt (hideW H w) V s:=by
 have e:hideW (hidN H N) w=hideW (fun k=>k == N) (hideW H w):=(zot _ _ _).symm;rw [e] at h;exact h.unhide
theorem Hidden.more {H:Nat→Bool} {B:Nat} {w:World} (h:Hidden H B w) {cs:Array Value} {T:TypeId}:Hidden (hidN H w.heap.size) w.heap.size (w.alloc (.cells cs T)):=by
 refine ⟨by simp [hidN],fun k hk=>?_⟩
 rw [World.size_alloc];unfold hidN at hk;rw [Bool.or_eq_true] at hk;rcases hk with hk | hk
 ·have:=h.bd k hk;omega
 ·have:=beq_iff_eq.1 hk;omega
theorem Grow.hidN {w w':World} (g:Grow w w') {H:Nat→Bool} {N:Nat} (hN:w.heap.size≤N):Grow (hideW H w) (hideW (hidN H N) w'):=
 g.hide fun k hk=>by
  show (H k || (k == N))=H k
  rw [show (k == N)=false by rw [beq_eq_false_iff_ne];omega,Bool.or_false]
open Go.Proofs.Tryz
set_option maxRecDepth 100000
set_option maxHeartbeats 16000000
theorem put7 {w:World} {b:Nat} {m0 m1 x2 x3 x4 x5 x6 x7 x8:Value} {e:TypeId} (h:w.heap[b]?=some (.cells #[m0,m1,x2,x3,x4,x5,x6,x7,x8] e (0,0))) (y2 y3 y4 y5 y6 y7 y8:Value) :
  (((((((w.setCell ⟨b,2,none⟩ y2).setCell ⟨b,3,none⟩ y3).setCell ⟨b,4,none⟩ y4).setCell ⟨b,5,none⟩ y5).setCell ⟨b,6,none⟩ y6).setCell ⟨b,7,none⟩ y7).setCell ⟨b,8,none⟩ y8).heap[b]?=some (.cells #[m0,m1,y2,y3,y4,y5,y6,y7,y8] e (0,0)):=by
 have h1:(w.setCell ⟨b,2,none⟩ y2).heap[b]?=some (.cells #[m0,m1,y2,x3,x4,x5,x6,x7,x8] e (0,0)):=zau h 2 y2;have h2:((w.setCell ⟨b,2,none⟩ y2).setCell ⟨b,3,none⟩ y3).heap[b]?=some (.cells #[m0,m1,y2,y3,x4,x5,x6,x7,x8] e (0,0)):=zau h1 3 y3;have h3:(((w.setCell ⟨b,2,none⟩ y2).setCell ⟨b,3,none⟩ y3).setCell ⟨b,4,none⟩ y4).heap[b]?=some (.cells #[m0,m1,y2,y3,y4,x5,x6,x7,x8] e (0,0)):=zau h2 4 y4;have h4:((((w.setCell ⟨b,2,none⟩ y2).setCell ⟨b,3,none⟩ y3).setCell ⟨b,4,none⟩ y4).setCell ⟨b,5,none⟩ y5).heap[b]?=some (.cells #[m0,m1,y2,y3,y4,y5,x6,x7,x8] e (0,0)):=zau h3 5 y5;have h5:(((((w.setCell ⟨b,2,none⟩ y2).setCell ⟨b,3,none⟩ y3).setCell ⟨b,4,none⟩ y4).setCell ⟨b,5,none⟩ y5).setCell ⟨b,6,none⟩ y6).heap[b]?=some (.cells #[m0,m1,y2,y3,y4,y5,y6,x7,x8] e (0,0)):=zau h4 6 y6;have h6:((((((w.setCell ⟨b,2,none⟩ y2).setCell ⟨b,3,none⟩ y3).setCell ⟨b,4,none⟩ y4).setCell ⟨b,5,none⟩ y5).setCell ⟨b,6,none⟩ y6).setCell ⟨b,7,none⟩ y7).heap[b]?=some (.cells #[m0,m1,y2,y3,y4,y5,y6,y7,x8] e (0,0)):=zau h5 7 y7;have h7:(((((((w.setCell ⟨b,2,none⟩ y2).setCell ⟨b,3,none⟩ y3).setCell ⟨b,4,none⟩ y4).setCell ⟨b,5,none⟩ y5).setCell ⟨b,6,none⟩ y6).setCell ⟨b,7,none⟩ y7).setCell ⟨b,8,none⟩ y8).heap[b]?=some (.cells #[m0,m1,y2,y3,y4,y5,y6,y7,y8] e (0,0)):=zau h6 8 y8;exact h7
theorem zua {t:ByteArray} {k:Nat} {l:List Int} (h:parseB t=some (k,l)):k≤6∧l.length=numF k:=by
 unfold parseB at h;obtain ⟨w0,ws,hws⟩:=zgb t;rw [hws] at h;dsimp only at h;cases hf:formB w0 with
 | none=>rw [hf] at h;cases h
 | some kn=>
  obtain ⟨kk,nn⟩:=kn;rw [hf] at h;dsimp only at h
  split at h
  ·cases h
  ·next hb=>
   cases hn:numsW ws with
   | none=>rw [hn] at h;cases h
   | some ns=>
    rw [hn] at h;simp only [Option.map_some,Option.some.injEq,Prod.mk.injEq] at h;obtain ⟨rfl,rfl⟩:=h;obtain ⟨h1,h2,h3⟩:=zrk hf;refine ⟨h2,?_⟩;rw [zfv hn,show ws.length=nn by omega,h3];rfl
theorem ztc {s:Bn} {t:ByteArray} (h:parseB t=none):doB s t=(2,s):=by unfold doB;rw [h]
theorem zrc {s:Bn} {t:ByteArray} {k:Nat} {l:List Int} (h:parseB t=some (k,l)) (h8:80≤s.orders.length):doB s t=(3,s):=by unfold doB;rw [h];dsimp only;rw [if_pos h8]
theorem zrj {s:Bn} {t:ByteArray} {k:Nat} {l:List Int} (h:parseB t=some (k,l)) (h8:¬ 80≤s.orders.length):doB s t=if (execB s k l).1≠0 then ((execB s k l).1,s) else (0,{ (execB s k l).2 with orders:=(execB s k l).2.orders++[t] }):=by unfold doB;rw [h];dsimp only;rw [if_neg h8]
theorem bdo_any (H:Nat→Bool) (B:Nat) (t:ByteArray) (ht:t.size<4294967281) (s:Bn) (w:World) (hg:Glob w) (h:BmAt 1 H B w s) (ok:OkB s) (R:Ending→World→Prop)
  (hR:∀ w',Chg B w w'→BmAt 1 H B w' (doB s t).2→R (.returned (errV (doB s t).1)) w') :
  Calls Tryz.prog 37 #[.pointer (some ⟨B,0,none⟩),.string t] w R:=by
 have HH:=jH h;have HR:=jH hR;have HOKB:=jH ok;have HGL:=jH hg;clear hR h ok hg
 go_enter func37,ntmps37
 go_wp2_with fail;refine zwy t ht _ HGL.out _ ?_ ?_
 ·intro hp w1 hg1;have hf:=fun w' (g:Grow w w')=>HR.out w' (Chg.of_grow g) (by rw [ztc hp];exact HH.out.grow g)
  rw [ztc hp] at hf;have HF:=jH (show ∀ o,R (.returned (.iface 118 (.agg #[.int .i64 2]))) (w1.alloc o) from fun o=>hf _ (hg1.alloc o));clear hf hp hg1;go_wp2_with fail;exact HF.out _
 ·intro k l hp w1 a c hg1 hl hlb;obtain ⟨hk6,hln⟩:=zua hp;have hsm:(parseB t).isSome=true:=by rw [hp];rfl
  obtain ⟨V,hb,hs⟩:=(HH.out.grow hg1).blk;obtain ⟨c0,c1,c2,c3,c4,c5,c6,c7,c8⟩:=zgc hb;have hBl:=lt_of_block hb;have HG1:=jH hg1;have HL:=jH hl;have HS:=jH hs;have HB:=jH hb;have HP:=jH hp;have HSM:=jH hsm;have HLN:=jH hln;clear hg1 hl hs hb hp hsm hln;by_cases h80:80≤s.orders.length
  ·have hf:=fun w' (g:Grow w w')=>HR.out w' (Chg.of_grow g) (by rw [zrc HP.out h80];exact HH.out.grow g)
   rw [zrc HP.out h80] at hf;have HF:=jH (show ∀ o,R (.returned (.iface 118 (.agg #[.int .i64 3]))) (w1.alloc o) from fun o=>hf _ (HG1.out.alloc o));have h80z:decide ((s.orders.length:Int)≥80)=true:=by rw [decide_eq_true_eq];omega
   clear hf;go_wp2_with fail;exact HF.out _
  rw [zrj HP.out h80] at HR;have h80z:decide ((s.orders.length:Int)≥80)=false:=by rw [decide_eq_false_iff_not];omega
  have HZ1:=jH (show (w1.alloc (.cells #[.int .i64 (k:Int),.slice a l.length c] 123)).heap.size=w1.heap.size+1 from World.size_alloc _ _);have HGA:=jH ((Grow.refl w1).alloc (.cells #[.int .i64 (k:Int),.slice a l.length c] 123));have HBX:=jH (heap_alloc_new w1 (.cells #[.int .i64 (k:Int),.slice a l.length c] 123));have hdd:Hidden H B (w1.alloc (.cells #[.int .i64 (k:Int),.slice a l.length c] 123)):=HH.out.hid.grow (HG1.out.trans HGA.out);have hsat:SAt (hidN H (w1.heap.size+1)) (w1.heap.size+1) ((w1.alloc (.cells #[.int .i64 (k:Int),.slice a l.length c] 123)).alloc (.cells (stCells V s) 86)) s:=by
   rw [← HZ1.out];exact ⟨hdd.more,V,heap_alloc_new _ _,HS.out.grow ((HGA.out.alloc (.cells (stCells V s) 86)).hidN (by rw [HZ1.out];omega))⟩
  have HSAT:=jH hsat;have HL2:=jH (HL.out.grow (HGA.out.alloc (.cells (stCells V s) 86)));have hln2:∀ bb oo n9 c9,Value.slice a l.length c=.slice (some ⟨bb,oo,none⟩) n9 c9→bb≠w1.heap.size+1:=by
   intro bb oo n9 c9 e;injection e with e1 _ _;have:=hlb bb oo e1;omega
  have HLN2:=jH hln2;have hg2:Grow w ((w1.alloc (.cells #[.int .i64 (k:Int),.slice a l.length c] 123)).alloc (.cells (stCells V s) 86)):=(HG1.out.trans HGA.out).alloc _;have HG2:=jH hg2;have hw1:=HG1.out.sz;clear hdd hsat hln2 hg2 hlb;go_wp2_with fail;refine exec_any (hidN H (w1.heap.size+1)) (w1.heap.size+1) k l _ s _ HL2.out hk6 HLN.out HLN2.out HSAT.out HOKB.out _ ?_;intro w3 hc3 hs3;have hg3:Grow w w3:=zmp HG2.out hc3 (by omega)
  obtain ⟨e1,e2,e3⟩:=zes s k l;obtain ⟨e,he⟩:∃ q,(execB s k l).1=q:=⟨_,rfl⟩;obtain ⟨s',hs'⟩:∃ q,(execB s k l).2=q:=⟨_,rfl⟩;rw [hs'] at hs3 e1 HR;rw [he] at HR ⊢;have HG3:=jH hg3;have hb3:=(Chg.blk hc3 (show B≠w1.heap.size+1 by omega) ((HGA.out.alloc (.cells (stCells V s) 86)).blk HB.out))
  obtain ⟨N,hN⟩:∃ N,w1.heap.size+1=N:=⟨_,rfl⟩;rw [hN] at hs3 ⊢;have HNB:=jH (show w1.heap.size+1=N from hN);have hBN:B<N:=by omega
  clear hg3 hc3 e2 e3 he hs' c0 c1 c2 c3 c4 c5 c6 c7 c8 hk6 hN;by_cases h0:e=0;rotate_left
  ·rw [if_pos h0] at HR;have hf:=HR.out w3 (Chg.of_grow HG3.out) (HH.out.grow HG3.out);unfold errV at hf ⊢;rw [if_neg h0] at hf ⊢;have HF:=jH hf;clear hf;go_wp2_with fail;exact HF.out
  subst h0;rw [if_neg (by decide)] at HR
  rw [show errV 0=Value.nilIface from rfl];obtain ⟨V3,hb9,hs9⟩:=hs3.blk;obtain ⟨d0,d1,d2,d3,d4,d5,d6⟩:=zas hb9;have hol:s'.orders.length<80:=by rw [e1];omega
  have HS9:=jH hs9;have HS3:=jH hs3;have HB9:=jH hb9;have HB3:=jH hb3;clear hs9 hs3 hb9 hb3 e1;go_wp2_with fail;refine clX_any s'.orders _ w3 HS9.out.od.unhide (by omega) _ ?_
  intro w4 k4 hg4 hk4;obtain ⟨ra,rc,rfl,r1,r2,jk4⟩:=zaa zbi hk4;have HK4:=jH hk4;have HG4:=jH hg4;have hz4:=hg4.sz;have hN4:=lt_of_block HB9.out;clear hk4 hg4 jk4 d0 d1 d2 d3 d4 d5 d6;go_wp2_with (at_builtin;refine Classical.byContradiction (fun hcon=>?_));refine hcon ?_;clear hcon;refine zad _ rfl (.tmp 38) (.tmp 40) 23 rfl w3.heap.size 9 underlying23 zdt rfl (by decide) (by decide) encTx zbi zcz (.slice ra s'.orders.length rc) s'.orders rfl (((Grow.refl w4).alloc _).owns HK4.out) _ t 1 rfl (zbj w4 (encTx t) 9) (by omega) (by simp;omega) ?_
  intro v6 w6 hown6 hgr6;have hg46:Grow w3 w6:=zae (((Grow.refl w4).alloc (.cells (encTx t).toArray 9)).owns HK4.out) hgr6 (Nat.le_refl _) (by simp;omega) (show Grow w3 _ from HG4.out.alloc _)
  obtain ⟨a6,c6,rfl⟩:∃ a c,v6=.slice a (s'.orders.length+1) c:=by
   rcases hown6.2 with ⟨hv,h0⟩ | ⟨g,cap,cur,hv,_⟩
   ·simp at h0
   ·exact ⟨some ⟨g,0,none⟩,cap,by rw [hv];simp⟩
  have hb6:=hg46.blk HB9.out;have hB6:=hg46.blk HB3.out;have hgw6:Grow w w6:=HG3.out.trans hg46;have hgw7:Grow w (w6.setCell ⟨N,6,none⟩ (.slice a6 (s'.orders.length+1) c6)):=Below.setCell hgw6 (show w.heap.size≤N by have:=HNB.out;have:=HG1.out.sz;omega) _
  have hN7:=zau hb6 6 (.slice a6 (s'.orders.length+1) c6);have hB7:(w6.setCell ⟨N,6,none⟩ (.slice a6 (s'.orders.length+1) c6)).heap[B]?=some (.cells (lkCells 1 V s) 88 (0,0)):=by rw [Below.heap_setCell _ _ _ _ (by show B≠N;omega)];exact hB6
  unfold stCells at hN7;simp only [List.setIfInBounds_toArray,List.set_cons_zero,List.set_cons_succ] at hN7;obtain ⟨d0,d1,d2,d3,d4,d5,d6⟩:=st7 hN7;have y6:=(zas hb6).2.2.2.2.2.2;obtain ⟨c0,c1,c2,c3,c4,c5,c7,c8,c9⟩:=zgc hB7;have z6:=zac hb6 6;have z2:=zac hB7 2;have z3:=zac hB7 3;have z4:=zac hB7 4;have z5:=zac hB7 5;have z7:=zac hB7 6;have z8:=zac hB7 7;have z9:=zac hB7 8;have hB8:=put7 (show (w6.setCell ⟨N,6,none⟩ (.slice a6 (s'.orders.length+1) c6)).heap[B]?=some (.cells #[.int .i32 1,.int .u32 0,.slice V.pa s.progs.length V.pc,.slice V.ha s.hist.length V.hc,.slice V.ta s.tests.length V.tc,.slice V.la s.lk.length V.lc,.int .i64 s.fixes,.int .i64 s.checks,.slice V.oa s.orders.length V.oc] 88 (0,0)) from hB7) (.slice V3.pa s'.progs.length V3.pc) (.slice V3.ha s'.hist.length V3.hc) (.slice V3.ta s'.tests.length V3.tc) (.slice V3.la s'.lk.length V3.lc) (.int .i64 s'.fixes) (.int .i64 s'.checks) (.slice a6 (s'.orders.length+1) c6);have hc8:Chg B w ((((((((w6.setCell ⟨N,6,none⟩ (.slice a6 (s'.orders.length+1) c6)).setCell ⟨B,2,none⟩ (.slice V3.pa s'.progs.length V3.pc)).setCell ⟨B,3,none⟩ (.slice V3.ha s'.hist.length V3.hc)).setCell ⟨B,4,none⟩ (.slice V3.ta s'.tests.length V3.tc)).setCell ⟨B,5,none⟩ (.slice V3.la s'.lk.length V3.lc)).setCell ⟨B,6,none⟩ (.int .i64 s'.fixes)).setCell ⟨B,7,none⟩ (.int .i64 s'.checks)).setCell ⟨B,8,none⟩ (.slice a6 (s'.orders.length+1) c6)):=((((((((Chg.of_grow hgw7).setCell 2 (.slice V3.pa s'.progs.length V3.pc)).setCell 3 (.slice V3.ha s'.hist.length V3.hc)).setCell 4 (.slice V3.ta s'.tests.length V3.tc)).setCell 5 (.slice V3.la s'.lk.length V3.lc)).setCell 6 (.int .i64 s'.fixes)).setCell 7 (.int .i64 s'.checks)).setCell 8 (.slice a6 (s'.orders.length+1) c6));have hhB:hidN H N B=true:=by unfold hidN;rw [HH.out.hid.hH];rfl
  have hhN:hidN H N N=true:=by unfold hidN;simp
  have hh8:hideW (hidN H N) ((((((((w6.setCell ⟨N,6,none⟩ (.slice a6 (s'.orders.length+1) c6)).setCell ⟨B,2,none⟩ (.slice V3.pa s'.progs.length V3.pc)).setCell ⟨B,3,none⟩ (.slice V3.ha s'.hist.length V3.hc)).setCell ⟨B,4,none⟩ (.slice V3.ta s'.tests.length V3.tc)).setCell ⟨B,5,none⟩ (.slice V3.la s'.lk.length V3.lc)).setCell ⟨B,6,none⟩ (.int .i64 s'.fixes)).setCell ⟨B,7,none⟩ (.int .i64 s'.checks)).setCell ⟨B,8,none⟩ (.slice a6 (s'.orders.length+1) c6))=hideW (hidN H N) w6:=by
   rw [zak (a:=⟨B,8,none⟩) hhB,zak (a:=⟨B,7,none⟩) hhB,zak (a:=⟨B,6,none⟩) hhB,zak (a:=⟨B,5,none⟩) hhB,zak (a:=⟨B,4,none⟩) hhB,zak (a:=⟨B,3,none⟩) hhB,zak (a:=⟨B,2,none⟩) hhB,zak (a:=⟨N,6,none⟩) hhN]
  have hso:=HS9.out.grow (hg46.hid (hidN H N));have hol2:(s'.orders++[t]).length=s'.orders.length+1:=by simp
  have hst:StAt (hideW (hidN H N) ((((((((w6.setCell ⟨N,6,none⟩ (.slice a6 (s'.orders.length+1) c6)).setCell ⟨B,2,none⟩ (.slice V3.pa s'.progs.length V3.pc)).setCell ⟨B,3,none⟩ (.slice V3.ha s'.hist.length V3.hc)).setCell ⟨B,4,none⟩ (.slice V3.ta s'.tests.length V3.tc)).setCell ⟨B,5,none⟩ (.slice V3.la s'.lk.length V3.lc)).setCell ⟨B,6,none⟩ (.int .i64 s'.fixes)).setCell ⟨B,7,none⟩ (.int .i64 s'.checks)).setCell ⟨B,8,none⟩ (.slice a6 (s'.orders.length+1) c6))) { V3 with oa:=a6,oc:=c6 } { s' with orders:=s'.orders++[t] }:=by
   rw [hh8];refine ⟨hso.pr,hso.hi,hso.ts,hso.lk,?_⟩;dsimp only;have h9:=(zaa zbi hown6).hide_new (NewS.of_own (show Own 1 encTx _ w6 _ (s'.orders++[t]) from ⟨_,hown6⟩)) (H:=hidN H N) (fun b hb=>by rw [← HNB.out];exact (HNB.out ▸ HS3.out.hid).new b (by omega))
   rw [hol2];exact h9
  have hbm:BmAt 1 H B ((((((((w6.setCell ⟨N,6,none⟩ (.slice a6 (s'.orders.length+1) c6)).setCell ⟨B,2,none⟩ (.slice V3.pa s'.progs.length V3.pc)).setCell ⟨B,3,none⟩ (.slice V3.ha s'.hist.length V3.hc)).setCell ⟨B,4,none⟩ (.slice V3.ta s'.tests.length V3.tc)).setCell ⟨B,5,none⟩ (.slice V3.la s'.lk.length V3.lc)).setCell ⟨B,6,none⟩ (.int .i64 s'.fixes)).setCell ⟨B,7,none⟩ (.int .i64 s'.checks)).setCell ⟨B,8,none⟩ (.slice a6 (s'.orders.length+1) c6)) { s' with orders:=s'.orders++[t] }:=by
   refine ⟨⟨HH.out.hid.hH,fun k hk=>Nat.lt_of_lt_of_le (HH.out.hid.bd k hk) hc8.sz⟩,{ V3 with oa:=a6,oc:=c6 },?_,hst.less⟩;rw [hB8];unfold lkCells;dsimp only;rw [hol2]
  have hf:=HR.out _ hc8 hbm;rw [show errV 0=Value.nilIface from rfl] at hf;have HF:=jH hf;have hlk:lkCells 1 V s=lkCells 1 V s:=rfl;clear hlk hf hbm hst hol2 hso hh8 hhN hhB hc8 hB8 hB7 hN7 hgw7 hgw6 hb6 hB6 hg46 hown6 hgr6;go_wp2_with fail;exact HF.out
end Go.Proofs.YtmeejlgnhfkeaaaGreatDoor
