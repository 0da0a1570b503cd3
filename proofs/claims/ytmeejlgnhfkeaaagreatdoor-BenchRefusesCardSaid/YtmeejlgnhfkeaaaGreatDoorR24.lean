/- Parts. -/
import Derived.Test.YtmeejlgnhfkeaaaGreatDoorR22
import Derived.Test.YtmeejlgnhfkeaaaGreatDoorR23
import Derived.Test.YtmeejlgnhfkeaaaGreatDoorR17
import Derived.Test.YtmeejlgnhfkeaaaGreatDoorR03
namespace Go.Proofs.YtmeejlgnhfkeaaaGreatDoor
open Go.RowKit
def noV (t:Tst):Tst:={ t with v:=.nilIface }
structure Tq where
 a:Option Addr
 n:Nat
 c:Nat
 xs:List Int
 o:Int
 wt:Int
def Tq.t (q:Tq):Tst:=⟨.slice q.a q.n q.c,q.xs,q.o,q.wt⟩
def encTq (q:Tq):List Value:=[.slice q.a q.n q.c,.int .i64 q.o,.int .i64 q.wt]
theorem zat (q:Tq):(encTq q).length=3:=rfl
theorem zcb (q:Tq):∀ u∈encTq q,u.oneCell'=true:=by
 intro u hu;unfold encTq at hu;simp only [List.mem_cons,List.not_mem_nil,or_false] at hu;rcases hu with rfl | rfl | rfl<;>rfl
structure TqAt (w:World) (v:Value) (T:List Tq):Prop where
 at_:SlcAt 3 encTq w v T
 ins:∀ q∈T,IntsAt w (.slice q.a q.n q.c) q.xs
theorem TqAt.grow {w w':World} {v:Value} {T:List Tq} (h:TqAt w v T) (g:Grow w w'):TqAt w' v T:=⟨h.at_.grow g,fun q hq=>(h.ins q hq).grow g⟩
theorem TqAt.unhide {H:Nat→Bool} {w:World} {v:Value} {T:List Tq} (h:TqAt (hideW H w) v T):TqAt w v T:=⟨h.at_.unhide,fun q hq=>(h.ins q hq).unhide⟩
theorem TqAt.nil (w:World):TqAt w (.slice none 0 0) []:=⟨SlcAt.nil _ _ _,by simp⟩
theorem TqAt.tests {w:World} {v:Value} {T:List Tq} (h:TqAt w v T):TestsAt w v (T.map Tq.t):=by
 obtain ⟨a,c,h1,h2,h3,h4⟩:=h.at_;refine ⟨⟨a,c,by rw [List.length_map];exact h1,by rw [List.length_map];exact h2,h3,?_⟩,fun t ht=>?_⟩
 ·rcases h4 with ⟨h4,h5⟩ | ⟨b,o,e,hb,hc⟩
  ·exact .inl ⟨by rw [h4];rfl,h5⟩
  ·refine .inr ⟨b,o,e,hb,fun j x hx i u hu=>?_⟩;rw [List.getElem?_map] at hx;cases hq:T[j]? with
   | none=>rw [hq] at hx;cases hx
   | some q=>
    rw [hq] at hx;obtain rfl:=Option.some.inj hx;exact hc j q hq i u hu
 ·obtain ⟨q,hq,rfl⟩:=List.mem_map.1 ht;exact h.ins q hq
def Tq.p (q:Tq):Tst:=⟨.nilIface,q.xs,q.o,q.wt⟩
theorem noV_t (T:List Tq):(T.map Tq.t).map noV=T.map Tq.p:=by rw [List.map_map];rfl
structure V5 where
 pa:Option Addr
 pc:Nat
 ha:Option Addr
 hc:Nat
 ta:Option Addr
 tc:Nat
 la:Option Addr
 lc:Nat
 oa:Option Addr
 oc:Nat
structure StAt (w:World) (V:V5) (s:Bn):Prop where
 pr:∃ L:List (Lo Ln),LlAt 4 encL w (.slice V.pa s.progs.length V.pc) L∧L.map Lo.x=s.progs
 hi:∃ L:List (Lo Ed),LlAt 5 encE w (.slice V.ha s.hist.length V.hc) L∧L.map Lo.x=s.hist
 ts:∃ T:List Tq,TqAt w (.slice V.ta s.tests.length V.tc) T∧T.map Tq.p=s.tests
 lk:IntsAt w (.slice V.la s.lk.length V.lc) s.lk
 od:TextsAt w (.slice V.oa s.orders.length V.oc) s.orders
theorem StAt.grow {w w':World} {V:V5} {s:Bn} (h:StAt w V s) (g:Grow w w'):StAt w' V s:=
 ⟨let ⟨L,a,b⟩:=h.pr;⟨L,a.grow g,b⟩,let ⟨L,a,b⟩:=h.hi;⟨L,a.grow g,b⟩,let ⟨L,a,b⟩:=h.ts;⟨L,a.grow g,b⟩,h.lk.grow g,h.od.grow g⟩
theorem StAt.unhide {H:Nat→Bool} {w:World} {V:V5} {s:Bn} (h:StAt (hideW H w) V s):StAt w V s:=
 ⟨let ⟨L,a,b⟩:=h.pr;⟨L,a.unhide,b⟩,let ⟨L,a,b⟩:=h.hi;⟨L,a.unhide,b⟩,let ⟨L,a,b⟩:=h.ts;⟨L,a.unhide,b⟩,h.lk.unhide,h.od.unhide⟩
def Chg (B:Nat) (w w':World):Prop:=Grow (hideW (fun k=>k == B) w) (hideW (fun k=>k == B) w')
theorem Chg.sz {B:Nat} {w w':World} (h:Chg B w w'):w.heap.size≤w'.heap.size:=by have:=Grow.sz h;rwa [zav,zav] at this
theorem Chg.of_grow {B:Nat} {w w':World} (g:Grow w w'):Chg B w w':=g.hid _
theorem Chg.trans {B:Nat} {a b c:World} (h:Chg B a b) (k:Chg B b c):Chg B a c:=Grow.trans h k
theorem Chg.blk {B:Nat} {w w':World} (h:Chg B w w') {k:Nat} (hk:k≠B) {o:Obj} (ho:w.heap[k]?=some o):w'.heap[k]?=some o:=by
 have hf:(k == B)=false:=by simpa using hk
 have h1:(hideW (fun k=>k == B) w).heap[k]?=some o:=by rw [zdf (H:=fun k=>k == B) hf];exact ho
 have h2:=Grow.blk h h1
 rwa [zdf (H:=fun k=>k == B) hf] at h2
theorem Chg.hide {B:Nat} {w w':World} (h:Chg B w w') {H:Nat→Bool} (hB:H B=true):Grow (hideW H w) (hideW H w'):=by
 have h0:Below (hideW (fun k=>k == B) w).heap.size (hideW (fun k=>k == B) w) (hideW (fun k=>k == B) w'):=h;refine ⟨h0.os,h0.tape,h0.output,by rw [zav,zav];exact h.sz,fun k hk=>?_⟩
 rw [zav] at hk;rw [zbk,zbk];obtain ⟨o,ho⟩:∃ o,w.heap[k]?=some o:=⟨_,Array.getElem?_eq_getElem hk⟩;by_cases hkB:k=B
 ·subst hkB;rw [hB];have:k<w'.heap.size:=Nat.lt_of_lt_of_le hk h.sz;rw [ho,Array.getElem?_eq_getElem this];rfl
 ·rw [h.blk hkB ho,ho]
theorem Chg.setCell {B:Nat} {w w':World} (h:Chg B w w') (o:Nat) (v:Value):Chg B w (w'.setCell ⟨B,o,none⟩ v):=by
 unfold Chg;rw [zak (H:=fun k=>k == B) (a:=⟨B,o,none⟩) (by simp)]
 exact h
structure Hidden (H:Nat→Bool) (B:Nat) (w:World):Prop where
 hH:H B=true
 bd:∀ k,H k=true→k<w.heap.size
theorem Hidden.grow {H:Nat→Bool} {B:Nat} {w w':World} (h:Hidden H B w) (g:Grow w w'):Hidden H B w':=⟨h.hH,fun k hk=>Nat.lt_of_lt_of_le (h.bd k hk) g.sz⟩
theorem Hidden.new {H:Nat→Bool} {B:Nat} {w:World} (h:Hidden H B w):∀ b,w.heap.size≤b→H b=false:=fun b hb=>by
 cases hh:H b with
 | false=>rfl
 | true=>have:=h.bd b hh;omega
def stCells (V:V5) (s:Bn):Array Value:=#[.slice V.pa s.progs.length V.pc,.slice V.ha s.hist.length V.hc,.slice V.ta s.tests.length V.tc,.slice V.la s.lk.length V.lc,.int .i64 s.fixes,.int .i64 s.checks,.slice V.oa s.orders.length V.oc]
structure SAt (H:Nat→Bool) (N:Nat) (w:World) (s:Bn):Prop where
 hid:Hidden H N w
 blk:∃ V,w.heap[N]?=some (.cells (stCells V s) 86 (0,0))∧StAt (hideW H w) V s
theorem SAt.grow {H:Nat→Bool} {N:Nat} {w w':World} {s:Bn} (h:SAt H N w s) (g:Grow w w'):SAt H N w' s:=
 ⟨h.hid.grow g,let ⟨V,h1,h2⟩:=h.blk;⟨V,g.blk h1,h2.grow (g.hid H)⟩⟩
def bnCells (V:V5) (s:Bn):Array Value:=#[.int .i32 0,.int .u32 0,.slice V.pa s.progs.length V.pc,.slice V.ha s.hist.length V.hc,.slice V.ta s.tests.length V.tc,.slice V.la s.lk.length V.lc,.int .i64 s.fixes,.int .i64 s.checks,.slice V.oa s.orders.length V.oc]
structure BnAt (H:Nat→Bool) (B:Nat) (w:World) (s:Bn):Prop where
 hid:Hidden H B w
 blk:∃ V,w.heap[B]?=some (.cells (bnCells V s) 88 (0,0))∧StAt (hideW H w) V s
theorem BnAt.grow {H:Nat→Bool} {B:Nat} {w w':World} {s:Bn} (h:BnAt H B w s) (g:Grow w w'):BnAt H B w' s:=
 ⟨h.hid.grow g,let ⟨V,h1,h2⟩:=h.blk;⟨V,g.blk h1,h2.grow (g.hid H)⟩⟩
theorem BnAt.chg {H:Nat→Bool} {B N:Nat} {w w':World} {s:Bn} (h:BnAt H B w s) (g:Chg N w w') (hN:N≠B) (hH:H N=true):BnAt H B w' s:=
 ⟨⟨h.hid.hH,fun k hk=>Nat.lt_of_lt_of_le (h.hid.bd k hk) g.sz⟩,let ⟨V,h1,h2⟩:=h.blk;⟨V,g.blk (fun e=>hN e.symm) h1,h2.grow (g.hide hH)⟩⟩
open Go.Proofs.Tryz
set_option maxHeartbeats 2000000
theorem zjb (ts:List Tst):valT (ts.map noV)=valT ts:=by
 unfold valT;rw [List.length_map,List.all_map]
 rfl
theorem zsm (p:List Ln) (ts:List Tst):chkT p (ts.map noV)=chkT p ts:=by unfold chkT;rw [zjb]
theorem zue {α β:Type} (f:β→Bool) (g:α→β) (ts:List α):whereL f (ts.map g)=whereL (fun t=>f (g t)) ts:=by
 unfold whereL;rw [List.length_map]
 congr 1
 funext k
 rw [List.getElem?_map];cases ts[k]?<;>rfl
theorem failB_noV (p:List Ln) (ts:List Tst):failB p (ts.map noV)=failB p ts:=by
 unfold failB;rw [zsm,zue]
 rfl
theorem zln (f:Nat) (cb:Array Value) (eg:Enters Tryz.prog f) (pr:Int→Bool) (Inv:World→Prop) (hI:∀ W W',Inv W→Grow W W'→Inv W') (hp:PredW f cb pr Inv) (xs:List Int) (v:Value) (w:World) (hv:IntsAt w v xs) (hi:Inv w) (R:Ending→World→Prop)
  (hR:∀ w',Grow w w'→R (.returned (.bool (xs.any pr))) w') :
  Calls Tryz.prog 92 #[v,.func (.func f) #[] cb] w R:=by
 have HV:=jH hv;have HR:=jH hR;obtain ⟨va,vc,rfl,v1,v2,jk⟩:=hv;clear hR jk
 go_enter func92,ntmps92
 go_wp2_with fail;refine zpj f cb eg pr Inv hI hp xs _ _ HV.out hi _ ?_ ?_
 ·intro w1 k x hg1 hx hpx _;have hr:=HR.out w1 hg1;rw [List.any_eq_true.2 ⟨x,List.mem_of_getElem? hx,hpx⟩] at hr;have HF:=jH hr;have hk0:(0:Int)≤(k:Int):=by omega
  clear hr hg1 hx hpx;go_wp2_with fail;exact HF.out
 ·intro w1 hg1 hno;have hr:=HR.out w1 hg1;rw [show xs.any pr=false by rw [List.any_eq_false];intro y hy;rw [hno y hy];simp] at hr
  have HF:=jH hr;clear hr hg1 hno;go_wp2_with fail;exact HF.out
theorem zas {w:World} {N:Nat} {V:V5} {s:Bn} {T:TypeId} (hb:w.heap[N]?=some (.cells (stCells V s) T (0,0))) :
  w.cell? ⟨N,0,none⟩=some (.slice V.pa s.progs.length V.pc)∧w.cell? ⟨N,1,none⟩=some (.slice V.ha s.hist.length V.hc)∧w.cell? ⟨N,2,none⟩=some (.slice V.ta s.tests.length V.tc)∧w.cell? ⟨N,3,none⟩=some (.slice V.la s.lk.length V.lc)∧w.cell? ⟨N,4,none⟩=some (.int .i64 s.fixes)∧w.cell? ⟨N,5,none⟩=some (.int .i64 s.checks)∧w.cell? ⟨N,6,none⟩=some (.slice V.oa s.orders.length V.oc):=by
 unfold World.cell?;rw [hb];exact ⟨rfl,rfl,rfl,rfl,rfl,rfl,rfl⟩
theorem zcm (H:Nat→Bool) (V:V5) (s:Bn) (w:World) (h:StAt (hideW H w) V s) (hne:s.progs≠[]) (R:Ending→World→Prop)
  (hR:∀ w' v,Grow w w'→LinesAt (hideW H w') v s.prog→R (.returned v) w') :
  Calls Tryz.prog 53 #[.agg (stCells V s)] w R:=by
 obtain ⟨L,hL,hLx⟩:=h.pr;have hl:L.length=s.progs.length:=by rw [← hLx];simp
 obtain ⟨k,hk⟩:∃ k,s.progs.length=k+1:=⟨s.progs.length - 1,by have:=List.length_pos_iff.2 hne;omega⟩
 obtain ⟨t,ht⟩:∃ t,L[k]?=some t:=⟨_,List.getElem?_eq_getElem (by omega)⟩
 have hx:t.x=s.prog:=by
  unfold Bn.prog;rw [hk,Nat.add_sub_cancel,← hLx,List.getElem?_map,ht];rfl
 have hat:=hL.unhide.at_;have hkm:=hat.len_le;rw [hl,hk] at hkm;have hv:=hL.ins t (List.mem_of_getElem? ht);rw [hx] at hv;have hbx:=heap_alloc_new w (.cells (stCells V s) 86);have hgx:=(Grow.refl w).alloc (.cells (stCells V s) 86);obtain ⟨c0,_⟩:=zas hbx;obtain ⟨b,o,hpa,hb,e0⟩:=lo_at (hat.grow hgx) ht;have HF:=jH (hR _ _ hgx (hv.grow (hgx.hid H)));obtain ⟨tab,tn,tc,tx⟩:=t;dsimp only at e0 hx hv;rw [hpa,hk] at c0;unfold stCells at c0 e0 HF ⊢;rw [hpa,hk] at c0 e0 HF ⊢;clear hR hv hat hx ht hL hLx h hbx hgx hpa;have hk1:((k:Int)+1) - 1=(k:Int):=by omega
 go_enter func53,ntmps53
 go_wp2_with (go_quiet (fail));exact HF.out
theorem zdl (H:Nat→Bool) (p:List Ln) (v:Value) (V:V5) (s:Bn) (w:World) (hp:LinesAt w v p) (h:StAt (hideW H w) V s) (R:Ending→World→Prop)
  (hR:∀ w' x,Grow w w'→OwnI w.heap.size w' x (failB p s.tests)→R (.returned x) w') :
  Calls Tryz.prog 59 #[.agg (stCells V s),v] w R:=by
 obtain ⟨T,hT,hTx⟩:=h.ts;have hT2:=hT.unhide.tests;have hbx:=heap_alloc_new w (.cells (stCells V s) 86);have hgx:=(Grow.refl w).alloc (.cells (stCells V s) 86);obtain ⟨_,_,c2,_⟩:=zas hbx;rw [← hTx,← noV_t,failB_noV] at hR;have HT:=jH hT2;have HP:=jH hp;have HR:=jH hR;have HG:=jH hgx;obtain ⟨pa,pc,rfl,p1,p2,jk⟩:=hp;clear hR jk hT hT2 hTx h hbx hgx;unfold stCells at c2 HG ⊢
 go_enter func59,ntmps59
 go_wp2_with fail;refine Failing_any p (T.map Tq.t) _ _ _ (HP.out.grow HG.out) (HT.out.grow HG.out) _ ?_;intro w1 x hg1 hx;have HF:=jH (HR.out w1 x (HG.out.trans hg1) (hx.mono HG.out.sz));clear hg1 hx;go_wp2_with fail;exact HF.out
set_option maxHeartbeats 4000000
theorem brkF_any (k:Int) (bx:Nat) (V:V5) (s:Bn) (w:World) (hb:w.heap[bx]?=some (.cells (stCells V s) 86 (0,0))) (hl:IntsAt w (.slice V.la s.lk.length V.lc) s.lk) (R:Ending→World→Prop)
  (hR:∀ w',Grow w w'→R (.returned (.bool (s.lk.contains k))) w') :
  Calls Tryz.prog 93 #[.int .i64 k,.pointer (some ⟨bx,0,none⟩)] w R:=by
 obtain ⟨_,_,_,c3,_,_,_⟩:=zas hb;have hz:=lt_of_block hb;have HL:=jH hl;have hf:=hR _ (Grow.refl _);obtain ⟨q,hq⟩:∃ q,s.lk.contains k=q:=⟨_,rfl⟩;rw [hq] at hf;have HQ:=jH hq;have HF:=jH hf;clear hR hb hl hf hq
 go_enter func93,ntmps93
 go_wp2_with fail;refine zfd s.lk k _ _ HL.out _ ?_;rw [HQ.out];go_wp2_with fail;exact HF.out
theorem zlo (H:Nat→Bool) (p:List Ln) (v:Value) (V:V5) (s:Bn) (w:World) (hp:LinesAt w v p) (h:StAt (hideW H w) V s) (R:Ending→World→Prop)
  (hR:∀ w',Grow w w'→R (.returned (.bool (brkB p s.tests s.lk))) w') :
  Calls Tryz.prog 62 #[.agg (stCells V s),v] w R:=by
 have HP:=jH hp;have HS:=jH h;have HR:=jH hR;have eg:Enters Tryz.prog 93:=enters_of func93 (by kernel_rfl) rfl
 have EG:=jH eg;obtain ⟨pa,pc,rfl,p1,p2,jk⟩:=hp;have hbx:=heap_alloc_new w (.cells (stCells V s) 86);have hgx:=(Grow.refl w).alloc (.cells (stCells V s) 86);obtain ⟨c0,c1,c2,c3,c4,c5,c6⟩:=zas hbx;have HB:=jH hbx;have HG:=jH hgx;clear hR eg jk h hbx hgx;have hc:stCells V s=#[.slice V.pa s.progs.length V.pc,.slice V.ha s.hist.length V.hc,.slice V.ta s.tests.length V.tc,.slice V.la s.lk.length V.lc,.int .i64 s.fixes,.int .i64 s.checks,.slice V.oa s.orders.length V.oc]:=rfl;rw [hc] at c0 c1 c2 c3 c4 c5 c6 ⊢
 go_enter func62,ntmps62
 go_wp2_with fail;refine zdl H p _ V s _ (HP.out.grow HG.out) (HS.out.grow (HG.out.hid H)) _ ?_;intro w1 x hg1 hx;have HX:=jH (hx.slc zal);have HB1:=jH (hg1.blk HB.out);have HG1:=jH (HG.out.trans hg1);have hpd:PredW 93 #[.pointer (some ⟨w.heap.size,0,none⟩)] (fun k=>s.lk.contains k) (fun W=>Grow w1 W):=fun k W hgW R hR=>
  brkF_any k _ V s W (Grow.blk hgW HB1.out) (HS.out.unhide.lk.grow (HG1.out.trans hgW)) R (fun w' g=>hR w' g)
 have HPD:=jH hpd;clear hg1 hx hpd;go_wp2_with fail;refine zln 93 _ EG.out (fun k=>s.lk.contains k) (fun W=>Grow w1 W) (fun W W' h g=>Grow.trans h g) HPD.out _ _ _ HX.out (Grow.refl _) _ ?_;intro w2 hg2;have hf:=HR.out w2 (HG1.out.trans hg2);obtain ⟨q,hq⟩:∃ q,brkB p s.tests s.lk=q:=⟨_,rfl⟩;rw [hq] at hf;rw [show ((failB p s.tests).any fun k=>s.lk.contains k)=q from hq];have HF:=jH hf;clear hg2 hf hq;go_wp2_with fail;exact HF.out
set_option maxHeartbeats 1000000
theorem zeo:(Tryz.prog.info? 3).map (fun i=>(i.zero,i.size,i.bytes))=some (some (.int .i64 0),1,8):=by kernel_rfl
theorem zdt:(Tryz.prog.info? 9).map (fun i=>(i.zero,i.size,i.bytes))=some (some (.string ByteArray.empty),1,16):=by kernel_rfl
theorem zhg:(Tryz.prog.info? 57).map (fun i=>(i.zero,i.size,i.bytes))=some (some (.agg #[.int .i64 0,.int .i64 0,.int .i64 0,.int .i64 0]),4,32):=by kernel_rfl
theorem zzy:(Tryz.prog.info? 60).map (fun i=>(i.zero,i.size,i.bytes))=some (some (.agg #[.int .i64 0,.int .i64 0,.int .i64 0,.int .i64 0,.int .i64 0]),5,40):=by kernel_rfl
theorem zbz:(Tryz.prog.info? 63).map (fun i=>(i.zero,i.size,i.bytes))=some (some (.agg #[.slice none 0 0,.int .i64 0,.int .i64 0]),3,40):=by kernel_rfl
theorem zfz:(Tryz.prog.info? 22).map (fun i=>(i.zero,i.size,i.bytes))=some (some (.slice none 0 0),1,24):=by kernel_rfl
theorem zdv:(Tryz.prog.info? 58).map (fun i=>(i.zero,i.size,i.bytes))=some (some (.slice none 0 0),1,24):=by kernel_rfl
theorem zgw (xs:List Int) (v:Value) (w:World) (hx:SlcAt 1 encI w v xs) (hn:xs.length<10000000000) (R:Ending→World→Prop) (hR:∀ w' x,Grow w w'→w'.ownsRow w.heap.size 3 1 x xs.length (xs.flatMap encI)→R (.returned x) w') :
  Calls Tryz.prog 55 #[v] w R:=by
 have hx':=hx;obtain ⟨a,c,rfl,h1,h2,h3⟩:=hx';have HX:=jH hx;have HR:=jH hR;clear hx hR;have heq:=fun (W:World) (a:Option Addr) (n c:Nat)=>Lib.run_eql_slice_nil (P:=Tryz.prog) W 61 3 a n c 0 0 underlying61;cases a with
 | none=>
  have hxs:xs=[]:=by
   rcases h3 with ⟨h3,_⟩ | ⟨b,o,h3,_⟩
   ·exact h3
   ·cases h3
  subst hxs;clear h3
  go_enter func55,ntmps55
  go_wp2_with fail;exact HR.out _ _ (Grow.refl _) (World.ownsRow_nil _ _ _ _)
 | some ad=>
  clear h3
  go_enter func55,ntmps55
  go_wp2_with (at_builtin;refine zay _ rfl (.tmp 5) (.tmp 6) 61 rfl w.heap.size 3 underlying61 zeo rfl (by decide) (by decide) encI zal zcx _ [] rfl (zah w 1 _ _ _ (Nat.le_refl _)) _ xs rfl (HX.out.grow ((Grow.refl w).alloc _)) (by simp;omega) (by simp) ?_;intro v1 w1 hown1 hgr1)
  exact HR.out _ _ (zae (zah (α:=Int) w 1 3 encI _ (Nat.le_refl _)) hgr1 (Nat.le_refl _) (by simp) ((Grow.refl w).alloc _)) hown1
theorem clX_any (xs:List ByteArray) (v:Value) (w:World) (hx:SlcAt 1 encTx w v xs) (hn:xs.length<10000000000) (R:Ending→World→Prop) (hR:∀ w' x,Grow w w'→w'.ownsRow w.heap.size 9 1 x xs.length (xs.flatMap encTx)→R (.returned x) w') :
  Calls Tryz.prog 71 #[v] w R:=by
 have hx':=hx;obtain ⟨a,c,rfl,h1,h2,h3⟩:=hx';have HX:=jH hx;have HR:=jH hR;clear hx hR;have heq:=fun (W:World) (a:Option Addr) (n c:Nat)=>Lib.run_eql_slice_nil (P:=Tryz.prog) W 23 9 a n c 0 0 underlying23;cases a with
 | none=>
  have hxs:xs=[]:=by
   rcases h3 with ⟨h3,_⟩ | ⟨b,o,h3,_⟩
   ·exact h3
   ·cases h3
  subst hxs;clear h3
  go_enter func71,ntmps71
  go_wp2_with fail;exact HR.out _ _ (Grow.refl _) (World.ownsRow_nil _ _ _ _)
 | some ad=>
  clear h3
  go_enter func71,ntmps71
  go_wp2_with (at_builtin;refine zay _ rfl (.tmp 5) (.tmp 6) 23 rfl w.heap.size 9 underlying23 zdt rfl (by decide) (by decide) encTx zbi zcz _ [] rfl (zah w 1 _ _ _ (Nat.le_refl _)) _ xs rfl (HX.out.grow ((Grow.refl w).alloc _)) (by simp;omega) (by simp) ?_;intro v1 w1 hown1 hgr1)
  exact HR.out _ _ (zae (zah (α:=ByteArray) w 1 9 encTx _ (Nat.le_refl _)) hgr1 (Nat.le_refl _) (by simp) ((Grow.refl w).alloc _)) hown1
theorem zxh (xs:List Ln) (v:Value) (w:World) (hx:SlcAt 4 encL w v xs) (hn:xs.length<10000000000) (R:Ending→World→Prop) (hR:∀ w' x,Grow w w'→w'.ownsRow w.heap.size 57 4 x xs.length (xs.flatMap encL)→R (.returned x) w') :
  Calls Tryz.prog 52 #[v] w R:=by
 have hx':=hx;obtain ⟨a,c,rfl,h1,h2,h3⟩:=hx';have HX:=jH hx;have HR:=jH hR;clear hx hR;have heq:=fun (W:World) (a:Option Addr) (n c:Nat)=>Lib.run_eql_slice_nil (P:=Tryz.prog) W 22 57 a n c 0 0 underlying22;cases a with
 | none=>
  have hxs:xs=[]:=by
   rcases h3 with ⟨h3,_⟩ | ⟨b,o,h3,_⟩
   ·exact h3
   ·cases h3
  subst hxs;clear h3
  go_enter func52,ntmps52
  go_wp2_with fail;exact HR.out _ _ (Grow.refl _) (World.ownsRow_nil _ _ _ _)
 | some ad=>
  clear h3
  go_enter func52,ntmps52
  go_wp2_with (at_builtin;refine zay _ rfl (.tmp 5) (.tmp 6) 22 rfl w.heap.size 57 underlying22 zhg rfl (by decide) (by decide) encL zab zaj _ [] rfl (zah w 4 _ _ _ (Nat.le_refl _)) _ xs rfl (HX.out.grow ((Grow.refl w).alloc _)) (by simp;omega) (by simp) ?_;intro v1 w1 hown1 hgr1)
  exact HR.out _ _ (zae (zah (α:=Ln) w 4 57 encL _ (Nat.le_refl _)) hgr1 (Nat.le_refl _) (by simp) ((Grow.refl w).alloc _)) hown1
theorem zwg (xs:List Ed) (v:Value) (w:World) (hx:SlcAt 5 encE w v xs) (hn:xs.length<10000000000) (R:Ending→World→Prop) (hR:∀ w' x,Grow w w'→w'.ownsRow w.heap.size 60 5 x xs.length (xs.flatMap encE)→R (.returned x) w') :
  Calls Tryz.prog 54 #[v] w R:=by
 have hx':=hx;obtain ⟨a,c,rfl,h1,h2,h3⟩:=hx';have HX:=jH hx;have HR:=jH hR;clear hx hR;have heq:=fun (W:World) (a:Option Addr) (n c:Nat)=>Lib.run_eql_slice_nil (P:=Tryz.prog) W 58 60 a n c 0 0 underlying58;cases a with
 | none=>
  have hxs:xs=[]:=by
   rcases h3 with ⟨h3,_⟩ | ⟨b,o,h3,_⟩
   ·exact h3
   ·cases h3
  subst hxs;clear h3
  go_enter func54,ntmps54
  go_wp2_with fail;exact HR.out _ _ (Grow.refl _) (World.ownsRow_nil _ _ _ _)
 | some ad=>
  clear h3
  go_enter func54,ntmps54
  go_wp2_with (at_builtin;refine zay _ rfl (.tmp 5) (.tmp 6) 58 rfl w.heap.size 60 underlying58 zzy rfl (by decide) (by decide) encE zbh zhj _ [] rfl (zah w 5 _ _ _ (Nat.le_refl _)) _ xs rfl (HX.out.grow ((Grow.refl w).alloc _)) (by simp;omega) (by simp) ?_;intro v1 w1 hown1 hgr1)
  exact HR.out _ _ (zae (zah (α:=Ed) w 5 60 encE _ (Nat.le_refl _)) hgr1 (Nat.le_refl _) (by simp) ((Grow.refl w).alloc _)) hown1
theorem znc (xs:List Tq) (v:Value) (w:World) (hx:SlcAt 3 encTq w v xs) (hn:xs.length<10000000000) (R:Ending→World→Prop) (hR:∀ w' x,Grow w w'→w'.ownsRow w.heap.size 63 3 x xs.length (xs.flatMap encTq)→R (.returned x) w') :
  Calls Tryz.prog 165 #[v] w R:=by
 have hx':=hx;obtain ⟨a,c,rfl,h1,h2,h3⟩:=hx';have HX:=jH hx;have HR:=jH hR;clear hx hR;have heq:=fun (W:World) (a:Option Addr) (n c:Nat)=>Lib.run_eql_slice_nil (P:=Tryz.prog) W 42 63 a n c 0 0 underlying42;cases a with
 | none=>
  have hxs:xs=[]:=by
   rcases h3 with ⟨h3,_⟩ | ⟨b,o,h3,_⟩
   ·exact h3
   ·cases h3
  subst hxs;clear h3
  go_enter func165,ntmps165
  go_wp2_with fail;exact HR.out _ _ (Grow.refl _) (World.ownsRow_nil _ _ _ _)
 | some ad=>
  clear h3
  go_enter func165,ntmps165
  go_wp2_with (at_builtin;refine zay _ rfl (.tmp 5) (.tmp 6) 42 rfl w.heap.size 63 underlying42 zbz rfl (by decide) (by decide) encTq zat zcb _ [] rfl (zah w 3 _ _ _ (Nat.le_refl _)) _ xs rfl (HX.out.grow ((Grow.refl w).alloc _)) (by simp;omega) (by simp) ?_;intro v1 w1 hown1 hgr1)
  exact HR.out _ _ (zae (zah (α:=Tq) w 3 63 encTq _ (Nat.le_refl _)) hgr1 (Nat.le_refl _) (by simp) ((Grow.refl w).alloc _)) hown1
theorem znn (xs:List (Lo Ln)) (v:Value) (w:World) (hx:SlcAt 1 encLo w v xs) (hn:xs.length<10000000000) (R:Ending→World→Prop) (hR:∀ w' x,Grow w w'→w'.ownsRow w.heap.size 22 1 x xs.length (xs.flatMap encLo)→R (.returned x) w') :
  Calls Tryz.prog 164 #[v] w R:=by
 have hx':=hx;obtain ⟨a,c,rfl,h1,h2,h3⟩:=hx';have HX:=jH hx;have HR:=jH hR;clear hx hR;have heq:=fun (W:World) (a:Option Addr) (n c:Nat)=>Lib.run_eql_slice_nil (P:=Tryz.prog) W 41 22 a n c 0 0 underlying41;cases a with
 | none=>
  have hxs:xs=[]:=by
   rcases h3 with ⟨h3,_⟩ | ⟨b,o,h3,_⟩
   ·exact h3
   ·cases h3
  subst hxs;clear h3
  go_enter func164,ntmps164
  go_wp2_with fail;exact HR.out _ _ (Grow.refl _) (World.ownsRow_nil _ _ _ _)
 | some ad=>
  clear h3
  go_enter func164,ntmps164
  go_wp2_with (at_builtin;refine zay _ rfl (.tmp 5) (.tmp 6) 41 rfl w.heap.size 22 underlying41 zfz rfl (by decide) (by decide) encLo zaz zce _ [] rfl (zah w 1 _ _ _ (Nat.le_refl _)) _ xs rfl (HX.out.grow ((Grow.refl w).alloc _)) (by simp;omega) (by simp) ?_;intro v1 w1 hown1 hgr1)
  exact HR.out _ _ (zae (zah (α:=(Lo Ln)) w 1 22 encLo _ (Nat.le_refl _)) hgr1 (Nat.le_refl _) (by simp) ((Grow.refl w).alloc _)) hown1
theorem znr (xs:List (Lo Ed)) (v:Value) (w:World) (hx:SlcAt 1 encLo w v xs) (hn:xs.length<10000000000) (R:Ending→World→Prop) (hR:∀ w' x,Grow w w'→w'.ownsRow w.heap.size 58 1 x xs.length (xs.flatMap encLo)→R (.returned x) w') :
  Calls Tryz.prog 163 #[v] w R:=by
 have hx':=hx;obtain ⟨a,c,rfl,h1,h2,h3⟩:=hx';have HX:=jH hx;have HR:=jH hR;clear hx hR;have heq:=fun (W:World) (a:Option Addr) (n c:Nat)=>Lib.run_eql_slice_nil (P:=Tryz.prog) W 44 58 a n c 0 0 underlying44;cases a with
 | none=>
  have hxs:xs=[]:=by
   rcases h3 with ⟨h3,_⟩ | ⟨b,o,h3,_⟩
   ·exact h3
   ·cases h3
  subst hxs;clear h3
  go_enter func163,ntmps163
  go_wp2_with fail;exact HR.out _ _ (Grow.refl _) (World.ownsRow_nil _ _ _ _)
 | some ad=>
  clear h3
  go_enter func163,ntmps163
  go_wp2_with (at_builtin;refine zay _ rfl (.tmp 5) (.tmp 6) 44 rfl w.heap.size 58 underlying44 zdv rfl (by decide) (by decide) encLo zaz zce _ [] rfl (zah w 1 _ _ _ (Nat.le_refl _)) _ xs rfl (HX.out.grow ((Grow.refl w).alloc _)) (by simp;omega) (by simp) ?_;intro v1 w1 hown1 hgr1)
  exact HR.out _ _ (zae (zah (α:=(Lo Ed)) w 1 58 encLo _ (Nat.le_refl _)) hgr1 (Nat.le_refl _) (by simp) ((Grow.refl w).alloc _)) hown1
structure TqOwn (base:Nat) (w:World) (v:Value) (L:List Tq):Prop where
 row:w.ownsRow base 63 3 v L.length (L.flatMap encTq)
 ins:∀ t∈L,IntsAt w (.slice t.a t.n t.c) t.xs
 off:∀ t∈L,∀ b o s,t.a=some ⟨b,o,s⟩→v.ownBlock≠some b∧b<w.heap.size∧base≤b
theorem TqOwn.nil (base:Nat) (w:World):TqOwn base w (.slice none 0 0) []:=⟨World.ownsRow_nil _ _ _ _,by simp,by simp⟩
theorem TqOwn.grow {base:Nat} {w w':World} {v:Value} {L:List Tq} (h:TqOwn base w v L) (g:Grow w w'):TqOwn base w' v L:=
 ⟨g.owns h.row,fun t ht=>(h.ins t ht).grow g,fun t ht b o s hb=>⟨(h.off t ht b o s hb).1,Nat.lt_of_lt_of_le (h.off t ht b o s hb).2.1 g.sz,(h.off t ht b o s hb).2.2⟩⟩
theorem TqOwn.lt {base:Nat} {w:World} {v:Value} {L:List Tq} (h:TqOwn base w v L) {b:Nat} (hb:v.ownBlock=some b):b<w.heap.size:=(h.row.lt b hb).2
theorem TqOwn.at_ {base:Nat} {w:World} {v:Value} {L:List Tq} (h:TqOwn base w v L):TqAt w v L:=⟨zaa zat h.row,h.ins⟩
theorem TqOwn.new {base:Nat} {w w':World} {v:Value} {L:List Tq} (h:TqOwn base w v L) (hb0:base≤w.heap.size) {a:Option Addr} {n c:Nat} {xs:List Int} (ho:Own 1 encI w.heap.size w' (.slice a n c) xs):∀ b o s,a=some ⟨b,o,s⟩→v.ownBlock≠some b∧b<w'.heap.size∧base≤b:=by
 intro b o s hb;obtain ⟨h1,h2⟩:=zry ho b o s hb;exact ⟨fun he=>by have:=h.lt he;omega,h2,by omega⟩
theorem TqOwn.app {base:Nat} {w w':World} {v v':Value} {L:List Tq} {t:Tq} (h:TqOwn base w v L) (hgr:w.grownBy w' v.ownBlock) (hown:w'.ownsRow base 63 3 v' (L++[t]).length ((L++[t]).flatMap encTq)) (hat:v'.ownBlock=v.ownBlock∨v'.ownBlock=some w.heap.size)
  (ht:IntsAt w (.slice t.a t.n t.c) t.xs) (hoff:∀ b o s,t.a=some ⟨b,o,s⟩→v.ownBlock≠some b∧b<w.heap.size∧base≤b):TqOwn base w' v' (L++[t]):=by
 have hall:∀ u∈L++[t],IntsAt w (.slice u.a u.n u.c) u.xs∧∀ b o s,u.a=some ⟨b,o,s⟩→v.ownBlock≠some b∧b<w.heap.size∧base≤b:=by
  intro u hu;rcases List.mem_append.1 hu with hu | hu
  ·exact ⟨h.ins u hu,h.off u hu⟩
  ·simp at hu;subst hu;exact ⟨ht,hoff⟩
 refine ⟨hown,fun u hu=>znh (hall u hu).1 hgr fun b o s hb=>((hall u hu).2 b o s hb).1,fun u hu b o s hb=>?_⟩;obtain ⟨h1,h2,h3⟩:=(hall u hu).2 b o s hb;refine ⟨fun he=>?_,Nat.lt_of_lt_of_le h2 hgr.size,h3⟩;rcases hat with h4 | h4
 ·rw [h4] at he;exact h1 he
 ·rw [h4] at he;have:=Option.some.inj he;omega
end Go.Proofs.YtmeejlgnhfkeaaaGreatDoor
