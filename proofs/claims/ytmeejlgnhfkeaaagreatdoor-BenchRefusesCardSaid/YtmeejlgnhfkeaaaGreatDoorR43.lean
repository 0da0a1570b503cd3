/- Parts. -/
import Derived.Test.YtmeejlgnhfkeaaaGreatDoorR33
import Derived.Test.YtmeejlgnhfkeaaaGreatDoorR42
import Derived.Test.YtmeejlgnhfkeaaaGreatDoorR00
import Derived.ArgAppend
import Derived.Maps.AppendAt
import Derived.Test.YtmeejlgnhfkeaaaGreatDoorR01
import Derived.Test.YtmeejlgnhfkeaaaGreatDoorR24
import Derived.Test.YtmeejlgnhfkeaaaGreatDoorR22
import Derived.Test.YtmeejlgnhfkeaaaGreatDoorR21
import Derived.Test.YtmeejlgnhfkeaaaGreatDoorR45
import Derived.Test.YtmeejlgnhfkeaaaGreatDoorR04
import Derived.Test.YtmeejlgnhfkeaaaGreatDoorR27
import Derived.Test.YtmeejlgnhfkeaaaGreatDoorR26
import Derived.Test.YtmeejlgnhfkeaaaGreatDoorR02
import Derived.Test.YtmeejlgnhfkeaaaGreatDoorR03
import Derived.Test.YtmeejlgnhfkeaaaGreatDoorR48
import Derived.Test.YtmeejlgnhfkeaaaGreatDoorR35
import Derived.Test.YtmeejlgnhfkeaaaGreatDoorR49
import Derived.Test.YtmeejlgnhfkeaaaGreatDoorR40
import Derived.Test.YtmeejlgnhfkeaaaGreatDoorR39
namespace Go.Proofs.YtmeejlgnhfkeaaaGreatDoor
open Go.RowKit
def DRow (w:World) (base:Nat) (T:TypeId) (k:Nat) (v:Value) (n:Nat) (xs:List Value):Prop:=
 w.ownsRow base T k v n xs ∨
 ∃ g cur,v=.slice (some ⟨g,0,none⟩) n n∧base≤g∧w.heap[g]?=some (.cells cur T (0,0))∧xs.length=n * k∧n≤maxLen∧n * k≤cur.size∧cur.toList.take (n * k)=xs
theorem DRow.nil (w:World) (base:Nat) (T:TypeId) (k:Nat):DRow w base T k (.slice none 0 0) 0 []:=.inl (World.ownsRow_nil _ _ _ _)
theorem DRow.len {w:World} {base:Nat} {T:TypeId} {k:Nat} {v:Value} {n:Nat} {xs:List Value} (h:DRow w base T k v n xs):xs.length=n * k:=by
 rcases h with h | ⟨g,cur,_,_,_,h,_⟩
 ·exact h.1
 ·exact h
theorem DRow.blk {w:World} {base:Nat} {T:TypeId} {k:Nat} {v:Value} {n:Nat} {xs:List Value} (h:DRow w base T k v n xs) {b:Nat} (hb:v.ownBlock=some b):base≤b∧∃ cur,w.heap[b]?=some (.cells cur T (0,0)):=by
 rcases h with h | ⟨g,cur,rfl,h1,h2,_⟩
 ·rcases h.2 with ⟨rfl,_⟩ | ⟨g,cap,cur,rfl,h1,h2,_⟩
  ·cases hb
  ·cases hb;exact ⟨h1,cur,h2⟩
 ·cases hb;exact ⟨h1,cur,h2⟩
theorem DRow.lt {w:World} {base:Nat} {T:TypeId} {k:Nat} {v:Value} {n:Nat} {xs:List Value} (h:DRow w base T k v n xs) {b:Nat} (hb:v.ownBlock=some b):b<w.heap.size:=by
 obtain ⟨_,cur,h2⟩:=h.blk hb;exact lt_of_block h2
theorem DRow.keep {w w':World} {base:Nat} {T:TypeId} {k:Nat} {v:Value} {n:Nat} {xs:List Value} (h:DRow w base T k v n xs) (hk:∀ b o,v.ownBlock=some b→w.heap[b]?=some o→w'.heap[b]?=some o):DRow w' base T k v n xs:=by
 rcases h with h | ⟨g,cur,rfl,h1,h2,h3⟩
 ·refine .inl ⟨h.1,h.2.imp id ?_⟩;rintro ⟨g,cap,cur,rfl,h1,h2,h3⟩;exact ⟨g,cap,cur,rfl,h1,hk g _ rfl h2,h3⟩
 ·exact .inr ⟨g,cur,rfl,h1,hk g _ rfl h2,h3⟩
theorem DRow.cut {w:World} {base:Nat} {T:TypeId} {k:Nat} {a:Option Addr} {n c:Nat} {xs:List Value} (h:DRow w base T k (.slice a n c) n xs) {m:Nat} (hm:m≤n):DRow w base T k (.slice a m m) m (xs.take (m * k)):=by
 have hmk:m * k≤n * k:=Nat.mul_le_mul_right _ hm;rcases h with h | ⟨g,cur,e,h1,h2,h3,h4,h5,h6⟩
 ·obtain ⟨h0,h | ⟨g,cap,cur,e,h1,h2,h3,h4,h5,h6⟩⟩:=h
  ·obtain ⟨e,rfl⟩:=h;cases e;obtain rfl:m=0:=by omega
   refine .inl ⟨?_,.inl ⟨rfl,rfl⟩⟩;simp
  ·cases e;refine .inr ⟨g,cur,rfl,h1,h2,?_,by omega,?_,?_⟩
   ·rw [List.length_take,h0];omega
   ·rw [h5];exact Nat.mul_le_mul_right _ (by omega)
   ·rw [← h6,List.take_take,Nat.min_eq_left hmk]
 ·cases e;refine .inr ⟨g,cur,rfl,h1,h2,?_,by omega,by omega,?_⟩
  ·rw [List.length_take,h3];omega
  ·rw [← h6,List.take_take,Nat.min_eq_left hmk]
theorem DRow.slc {α:Type} {w:World} {base:Nat} {T:TypeId} {k:Nat} {enc:α→List Value} (hen:∀ x,(enc x).length=k) {v:Value} {xs:List α} (h:DRow w base T k v xs.length (xs.flatMap enc)):SlcAt k enc w v xs:=by
 rcases h with h | ⟨g,cur,rfl,h1,h2,h3,h4,h5,h6⟩
 ·exact zaa hen h
 ·refine ⟨_,_,rfl,Nat.le_refl _,by simpa [maxLen] using h4,.inr ⟨g,0,rfl,lt_of_block h2,fun j x hx i u hu=>?_⟩⟩
  have hi:i<k:=by rw [← hen x];exact (List.getElem?_eq_some_iff.1 hu).1
  have hj:j<xs.length:=(List.getElem?_eq_some_iff.1 hx).1;have hf:=flatMap_getElem? hen xs j x hx i hi;have hlt:j * k+i<xs.length * k:=by
   have:(j+1) * k≤xs.length * k:=Nat.mul_le_mul_right _ hj;rw [Nat.succ_mul] at this;omega
  rw [Nat.zero_add,cell_of_row w g (j * k+i) cur T (0,0) h2];rw [← h6,List.getElem?_take,if_pos hlt,hu] at hf;simpa using hf
theorem zdw {P:Program} {α:Type} (w:World) {ops:Array Oper} {rest:List Oper} {o:Oper} {a:Act} {Q:Exit→Act→World→Prop} (hgd:o.guard=none) (s x:Operand) (t:TypeId)
  (ho:o.op=.call { callee:=.builtin .append,args:=#[s,x],argTypes:=#[t,t] })
  (base:Nat) (e:TypeId) {k bytes:Nat} {z:Value} (ht:P.underlying t=some (.slice e)) (info:(P.info? e).map (fun i=>(i.zero,i.size,i.bytes))=some (some z,k,bytes))
  (hzs:z.cells.size=k) (hk:0<k) (hby:bytes≤1000)
  (enc:α→List Value) (hen:∀ x,(enc x).length=k) (h1:∀ x,∀ u∈enc x,u.oneCell'=true)
  (v:Value) (xs:List α) (hs:a.eval s=v) (hown:DRow w base e k v xs.length (xs.flatMap enc)) (ad:Addr) (y:α) (c:Nat) (hx:a.eval x=.slice (some ad) 1 c)
  (hnews:∀ j u,(enc y)[j]?=some u→w.cell? (ad.add j)=some u) (hn:xs.length<100000000000) (hbase:base≤w.heap.size)
  (h:∀ v' w',w'.ownsRow base e k v' (xs++[y]).length ((xs++[y]).flatMap enc)→w.grownBy w' v.ownBlock→(v'.ownBlock=v.ownBlock∨∀ b,v'.ownBlock=some b→w.heap.size≤b)→wpList P ops Q rest (a.put o.dst v') w'):wpList P ops Q (o :: rest) a w:=by
 obtain ⟨i,hi,hz0,hz1,hz2⟩:=info_parts info;have hb2:(xs.length+1) * bytes≤140737488355328:=Nat.le_trans (Nat.mul_le_mul (show xs.length+1≤100000000000 by omega) hby) (by decide)
 rcases hown with hown | ⟨g,cur,rfl,q1,q2,q3,q4,q5,q6⟩
 ·refine wpList_append_own_at w hgd s x t ho base e i z k bytes ht hi hz0 hz1 hz2 hzs hk v xs.length (xs.flatMap enc) hs hown ad 1 c (enc y) hx (by rw [hen];omega) hnews (h1 y) (by unfold maxLen;omega) hb2 hbase ?_
  intro v' w' a1 a2 _ a4;refine h v' w' ?_ a2 (a4.imp id fun e b hb=>?_)
  ·rw [List.length_append,List.flatMap_append];simpa using a1
  ·rw [e] at hb;have:=Option.some.inj hb;omega
 ·refine wpList_append_grows w hgd s x t ho e i z k bytes ht hi hz0 hz1 hz2 hzs hk (some ⟨g,0,none⟩) xs.length xs.length (xs.flatMap enc) hs (by intro e;cases e) q3 ?_ ad 1 c (enc y) hx (by rw [hen];omega) hnews (h1 y) (by omega) (by unfold maxLen;omega) hb2 ?_
  ·intro b hb j u hu;cases hb;rw [Addr.add_lit,Nat.zero_add,cell_of_row w g j cur e (0,0) q2];rw [← q6,List.getElem?_take] at hu
   split at hu
   ·simpa using hu
   ·cases hu
  ·intro v' w' a1 a2;refine h v' w' ?_ ⟨a2.os,a2.tape,a2.output,a2.size,fun b hb _=>a2.block b hb (by simp)⟩ (.inr fun b hb=>(a1.lt b hb).1)
   rw [List.length_append,List.flatMap_append];obtain ⟨b1,b2⟩:=a1;obtain ⟨g2,cap,cur2,c1,c2,c3,c4,c5,c6,c7⟩:=b2.resolve_left (by intro e;have:=e.2;omega)
   exact ⟨by simpa using b1,.inr ⟨g2,cap,cur2,by simpa using c1,Nat.le_trans hbase c2,c3,by simpa using c4,c5,c6,by simpa using c7⟩⟩
structure Ds where
 progs:List (List Ln)
 tests:List Tst
 lock:List Bool
 hist:List (List Ed)
 fixes:Int
 checks:Int
 orders:List ByteArray
def dkCells (V:V5) (s:Ds):Array Value:=#[.slice V.pa s.progs.length V.pc,.slice V.ta s.tests.length V.tc,.slice V.la s.lock.length V.lc,.slice V.ha s.hist.length V.hc,.int .i64 s.fixes,.int .i64 s.checks,.slice V.oa s.orders.length V.oc]
structure DRows (base:Nat) (H:Nat→Bool) (w:World) (V:V5) (s:Ds):Prop where
 pr:∃ L:List (Lo Ln),DRow w base 22 1 (.slice V.pa s.progs.length V.pc) L.length (L.flatMap encLo)∧L.map Lo.x=s.progs∧∀ t∈L,SlcAt 4 encL (hideW H w) t.v t.x
 ts:∃ T:List Tq,DRow w base 63 3 (.slice V.ta s.tests.length V.tc) T.length (T.flatMap encTq)∧T.map Tq.p=s.tests∧∀ q∈T,IntsAt (hideW H w) (.slice q.a q.n q.c) q.xs
 lk:DRow w base 4 1 (.slice V.la s.lock.length V.lc) s.lock.length (s.lock.flatMap encT)
 hi:∃ L:List (Lo Ed),DRow w base 58 1 (.slice V.ha s.hist.length V.hc) L.length (L.flatMap encLo)∧L.map Lo.x=s.hist∧∀ t∈L,SlcAt 5 encE (hideW H w) t.v t.x
 od:DRow w base 9 1 (.slice V.oa s.orders.length V.oc) s.orders.length (s.orders.flatMap encTx)
 hp:∀ ad,V.pa=some ad→H ad.block=true
 ht:∀ ad,V.ta=some ad→H ad.block=true
 hl:∀ ad,V.la=some ad→H ad.block=true
 hh:∀ ad,V.ha=some ad→H ad.block=true
 ho:∀ ad,V.oa=some ad→H ad.block=true
structure HidD (base:Nat) (H:Nat→Bool) (w:World):Prop where
 bd:∀ k,H k=true→k<w.heap.size
 lo:∀ k,H k=true→base≤k
structure DkAt (base:Nat) (H:Nat→Bool) (B:Nat) (w:World) (s:Ds):Prop where
 hB:H B=true
 hid:HidD base H w
 blk:∃ V,w.heap[B]?=some (.cells (dkCells V s) 46 (0,0))∧DRows base H w V s
structure DstT (T:TypeId) (H:Nat→Bool) (w:World) (H':Nat→Bool) (w':World):Prop where
 g:Grow (hideW H w) (hideW H' w')
 ag:∀ k,k<w.heap.size→H' k=H k
 kp:∀ (k:Nat) (cs:Array Value) (T':TypeId),w.heap[k]?=some (.cells cs T' (0,0))→T'≠T→w'.heap[k]?=some (.cells cs T' (0,0))
structure Dst (H:Nat→Bool) (w:World) (H':Nat→Bool) (w':World):Prop where
 g:Grow (hideW H w) (hideW H' w')
 ag:∀ k,k<w.heap.size→H' k=H k
 kp:∀ (k:Nat) (cs:Array Value),w.heap[k]?=some (.cells cs 88 (0,0))→w'.heap[k]?=some (.cells cs 88 (0,0))
theorem DstT.dst {T:TypeId} {H H':Nat→Bool} {w w':World} (h:DstT T H w H' w') (hT:88≠T):Dst H w H' w':=⟨h.g,h.ag,fun k cs hk=>h.kp k cs _ hk hT⟩
theorem DstT.of_grow (T:TypeId) {H:Nat→Bool} {w w':World} (g:Grow w w'):DstT T H w H w':=⟨g.hid H,fun _ _=>rfl,fun _ _ _ h _=>g.blk h⟩
theorem Dst.of_grow {H:Nat→Bool} {w w':World} (g:Grow w w'):Dst H w H w':=⟨g.hid H,fun _ _=>rfl,fun _ _ h=>g.blk h⟩
theorem Dst.sz {H H':Nat→Bool} {w w':World} (h:Dst H w H' w'):w.heap.size≤w'.heap.size:=by have:=Grow.sz h.g;rwa [zav,zav] at this
theorem DstT.sz {T:TypeId} {H H':Nat→Bool} {w w':World} (h:DstT T H w H' w'):w.heap.size≤w'.heap.size:=by have:=Grow.sz h.g;rwa [zav,zav] at this
theorem Dst.trans {H H1 H2:Nat→Bool} {w w1 w2:World} (h:Dst H w H1 w1) (k:Dst H1 w1 H2 w2):Dst H w H2 w2:=
 ⟨Grow.trans h.g k.g,fun j hj=>(k.ag j (Nat.lt_of_lt_of_le hj h.sz)).trans (h.ag j hj),fun j cs hj=>k.kp j cs (h.kp j cs hj)⟩
theorem DstT.pre {T:TypeId} {H H2:Nat→Bool} {w w1 w2:World} (g:Grow w w1) (k:DstT T H w1 H2 w2):DstT T H w H2 w2:=
 ⟨Grow.trans (g.hid H) k.g,fun j hj=>k.ag j (Nat.lt_of_lt_of_le hj g.sz),fun j cs T' hj=>k.kp j cs T' (g.blk hj)⟩
theorem HidD.grow {base:Nat} {H:Nat→Bool} {w w':World} (h:HidD base H w) (g:Grow w w'):HidD base H w':=⟨fun k hk=>Nat.lt_of_lt_of_le (h.bd k hk) g.sz,h.lo⟩
theorem Dst.base {H H':Nat→Bool} {w0 w w':World} (g:Grow w0 w) (d:Dst H w H' w') {base:Nat} (h:HidD base H w) (hb:w0.heap.size≤base):Grow w0 w':=by
 have d0:Below (hideW H w).heap.size (hideW H w) (hideW H' w'):=d.g;refine ⟨d0.os.trans g.os,d0.tape.trans g.tape,d0.output.trans g.output,Nat.le_trans g.sz d.sz,fun k hk=>?_⟩;have hkw:k<w.heap.size:=Nat.lt_of_lt_of_le hk g.sz;have hf:H k=false:=by
  cases hh:H k with
  | false=>rfl
  | true=>have:=h.lo k hh;omega
 have h1:=d.g.heap (by rw [zav];exact hkw)
 rw [zdf hf,zdf ((d.ag k hkw).trans hf)] at h1;rw [h1,g.heap hk]
theorem DRow.step {T T':TypeId} {H H':Nat→Bool} {w w':World} (d:DstT T H w H' w') {base k n:Nat} {v:Value} {xs:List Value} (h:DRow w base T' k v n xs) (hT:T'≠T):DRow w' base T' k v n xs:=
 h.keep fun b o hb ho=>by
  obtain ⟨_,cur,h2⟩:=h.blk hb;rw [ho] at h2;cases h2;exact d.kp b cur T' ho hT
theorem DRow.set {w:World} {B:Nat} {cs:Array Value} {TB T':TypeId} (hb:w.heap[B]?=some (.cells cs TB (0,0))) (i:Nat) (x:Value) {base k n:Nat} {v:Value} {xs:List Value} (h:DRow w base T' k v n xs) (hT:T'≠TB):DRow (w.setCell ⟨B,i,none⟩ x) base T' k v n xs:=
 h.keep fun b o ho1 ho=>by
  rw [Below.heap_setCell _ _ _ _ ?_]
  ·exact ho
  ·intro e;obtain ⟨_,cur,h2⟩:=h.blk ho1;have e2:b=B:=e;rw [e2] at h2;rw [hb] at h2;cases h2;exact hT rfl
theorem DkAt.grow {base:Nat} {H:Nat→Bool} {B:Nat} {w w':World} {s:Ds} (h:DkAt base H B w s) (g:Grow w w'):DkAt base H B w' s:=by
 obtain ⟨V,hb,hr⟩:=h.blk;have kp:∀ {T:TypeId} {k:Nat} {v:Value} {n:Nat} {xs:List Value},DRow w base T k v n xs→DRow w' base T k v n xs:=fun h=>h.keep fun b o _ ho=>g.blk ho;obtain ⟨L,a1,a2,a3⟩:=hr.pr;obtain ⟨T,b1,b2,b3⟩:=hr.ts;obtain ⟨M,c1,c2,c3⟩:=hr.hi;exact ⟨h.hB,h.hid.grow g,V,g.blk hb,⟨⟨L,kp a1,a2,fun t ht=>(a3 t ht).grow (g.hid H)⟩,⟨T,kp b1,b2,fun t ht=>(b3 t ht).grow (g.hid H)⟩,kp hr.lk,⟨M,kp c1,c2,fun t ht=>(c3 t ht).grow (g.hid H)⟩,kp hr.od,hr.hp,hr.ht,hr.hl,hr.hh,hr.ho⟩⟩
theorem DkAt.chg {base:Nat} {H:Nat→Bool} {B N:Nat} {w w':World} {s:Ds} (h:DkAt base H B w s) (g:Chg N w w') (hN:H N=true) {cs:Array Value} (hbn:w.heap[N]?=some (.cells cs 88 (0,0))):DkAt base H B w' s:=by
 obtain ⟨V,hb,hr⟩:=h.blk;have g2:=g.hide hN;have kp:∀ {T:TypeId} {k:Nat} {v:Value} {n:Nat} {xs:List Value},T≠88→DRow w base T k v n xs→DRow w' base T k v n xs:=fun hT h=>h.keep fun b o hb ho=>g.blk (by
  rintro rfl;obtain ⟨_,cur,h2⟩:=h.blk hb;rw [hbn] at h2;cases h2;exact hT rfl) ho
 obtain ⟨L,a1,a2,a3⟩:=hr.pr;obtain ⟨T,b1,b2,b3⟩:=hr.ts;obtain ⟨M,c1,c2,c3⟩:=hr.hi;exact ⟨h.hB,⟨fun k hk=>Nat.lt_of_lt_of_le (h.hid.bd k hk) g.sz,h.hid.lo⟩,V,g.blk (by rintro rfl;rw [hbn] at hb;cases hb) hb,⟨⟨L,kp (by decide) a1,a2,fun t ht=>(a3 t ht).grow g2⟩,⟨T,kp (by decide) b1,b2,fun t ht=>(b3 t ht).grow g2⟩,kp (by decide) hr.lk,⟨M,kp (by decide) c1,c2,fun t ht=>(c3 t ht).grow g2⟩,kp (by decide) hr.od,hr.hp,hr.ht,hr.hl,hr.hh,hr.ho⟩⟩
theorem zgp {base:Nat} {H:Nat→Bool} {w w':World} {v v':Value} {T:TypeId} (h:HidD base H w) (hv:∀ b,v.ownBlock=some b→H b=true∧∃ cur,w.heap[b]?=some (.cells cur T (0,0))) (hgr:w.grownBy w' v.ownBlock) (hlt:∀ b,v'.ownBlock=some b→base≤b∧b<w'.heap.size) (hat:v'.ownBlock=v.ownBlock∨∀ b,v'.ownBlock=some b→w.heap.size≤b) :
  ∃ H',DstT T H w H' w'∧HidD base H' w'∧(∀ b,H b=true→H' b=true)∧∀ b,v'.ownBlock=some b→H' b=true:=by
 have ag:∀ k,k<w.heap.size→(H k || (v'.ownBlock == some k))=H k:=by
  intro k hk;cases hh:H k with
  | true=>rfl
  | false=>
   rw [Bool.false_or,beq_eq_false_iff_ne];intro e;rcases hat with h1 | h1
   ·rw [h1] at e;rw [(hv k e).1] at hh;cases hh
   ·have:=h1 k e;omega
 refine ⟨fun k=>H k || (v'.ownBlock == some k),⟨?_,ag,fun k cs T' hk hT=>?_⟩,⟨fun k hk=>?_,fun k hk=>?_⟩,fun b hb=>by simp [hb],fun b hb=>by simp [hb]⟩
 ·refine ⟨hgr.os,hgr.tape,hgr.output,by rw [zav,zav];exact hgr.size,fun k hk=>?_⟩
  rw [zav] at hk;rw [zbk,zbk,ag k hk];by_cases hne:some k≠v.ownBlock
  ·rw [hgr.block k hk hne]
  ·have hk2:H k=true:=(hv k (Classical.not_not.1 hne).symm).1;rw [hk2,Array.getElem?_eq_getElem hk,Array.getElem?_eq_getElem (Nat.lt_of_lt_of_le hk hgr.size)];rfl
 ·rw [hgr.block k (lt_of_block hk) ?_]
  ·exact hk
  ·intro e;obtain ⟨_,cur,h2⟩:=hv k e.symm;rw [hk] at h2;cases h2;exact hT rfl
 ·rw [Bool.or_eq_true] at hk;rcases hk with hk | hk
  ·exact Nat.lt_of_lt_of_le (h.bd k hk) hgr.size
  ·exact (hlt k (beq_iff_eq.1 hk)).2
 ·rw [Bool.or_eq_true] at hk;rcases hk with hk | hk
  ·exact h.lo k hk
  ·exact (hlt k (beq_iff_eq.1 hk)).1
theorem DkAt.set_pr {base:Nat} {H H1:Nat→Bool} {B:Nat} {w w1:World} {s:Ds} (h:DkAt base H B w s) (d:DstT 22 H w H1 w1) (hd:HidD base H1 w1) (L:List (Lo Ln)) (a:Option Addr) (c:Nat) (hrow:DRow w1 base 22 1 (.slice a L.length c) L.length (L.flatMap encLo)) (hown:∀ ad,a=some ad→H1 ad.block=true) (hins:∀ t∈L,SlcAt 4 encL (hideW H1 w1) t.v t.x) :
  Dst H w H1 (w1.setCell ⟨B,0,none⟩ (.slice a L.length c))∧DkAt base H1 B (w1.setCell ⟨B,0,none⟩ (.slice a L.length c)) { s with progs:=L.map Lo.x }:=by
 obtain ⟨V,hb,hr⟩:=h.blk;have hBl:=lt_of_block hb;have hB1:H1 B=true:=(d.ag B hBl).trans h.hB;have hb1:=d.kp B _ _ hb (by decide)
 have hh:hideW H1 (w1.setCell ⟨B,0,none⟩ (.slice a L.length c))=hideW H1 w1:=zak (a:=⟨B,0,none⟩) hB1 _;have hbS:(w1.setCell ⟨B,0,none⟩ (.slice a L.length c)).heap[B]?=some (.cells ((dkCells V s).setIfInBounds 0 (.slice a L.length c)) 46 (0,0)):=heap_setCell_same _ _ _ _ _ _ hb1;have kp:∀ {T:TypeId} {k:Nat} {v:Value} {n:Nat} {xs:List Value},T≠22→T≠46→DRow w base T k v n xs→DRow (w1.setCell ⟨B,0,none⟩ (.slice a L.length c)) base T k v n xs:=fun h1 h2 hd=>(DRow.step d hd h1).set hb1 0 _ h2;obtain ⟨L0,a1,a2,a3⟩:=hr.pr;obtain ⟨T0,b1,b2,b3⟩:=hr.ts;obtain ⟨M0,c1,c2,c3⟩:=hr.hi;have og:∀ {o:Option Addr},(∀ ad,o=some ad→H ad.block=true)→(∀ ad,o=some ad→ad.block<w.heap.size)→∀ ad,o=some ad→H1 ad.block=true:=fun h1 h2 ad e=>(d.ag _ (h2 ad e)).trans (h1 ad e);refine ⟨⟨?_,d.ag,fun k cs hk=>?_⟩,hB1,⟨fun k hk=>?_,hd.lo⟩,{ V with pa:=a,pc:=c },?_,?_⟩
 ·rw [hh];exact d.g
 ·rw [Below.heap_setCell _ _ _ _ (by intro e;have e2:k=B:=e;rw [e2,hb] at hk;cases hk)];exact d.kp k cs _ hk (by decide)
 ·have:=hd.bd k hk;simpa [World.setCell] using this
 ·rw [hbS];simp [dkCells]
 ·exact ⟨⟨L,by simpa using (DRow.set hb1 0 _ hrow (by decide)),rfl,fun t ht=>by rw [hh];exact hins t ht⟩,⟨T0,kp (by decide) (by decide) b1,b2,fun t ht=>by rw [hh];exact (b3 t ht).grow d.g⟩,kp (by decide) (by decide) hr.lk,⟨M0,kp (by decide) (by decide) c1,c2,fun t ht=>by rw [hh];exact (c3 t ht).grow d.g⟩,kp (by decide) (by decide) hr.od,hown,og hr.ht (fun ad e=>DRow.lt b1 (by rw [e];rfl)),og hr.hl (fun ad e=>DRow.lt hr.lk (by rw [e];rfl)),og hr.hh (fun ad e=>DRow.lt c1 (by rw [e];rfl)),og hr.ho (fun ad e=>DRow.lt hr.od (by rw [e];rfl))⟩
theorem DkAt.set_ts {base:Nat} {H H1:Nat→Bool} {B:Nat} {w w1:World} {s:Ds} (h:DkAt base H B w s) (d:DstT 63 H w H1 w1) (hd:HidD base H1 w1) (L:List Tq) (a:Option Addr) (c:Nat) (hrow:DRow w1 base 63 3 (.slice a L.length c) L.length (L.flatMap encTq)) (hown:∀ ad,a=some ad→H1 ad.block=true) (hins:∀ q∈L,IntsAt (hideW H1 w1) (.slice q.a q.n q.c) q.xs) :
  Dst H w H1 (w1.setCell ⟨B,1,none⟩ (.slice a L.length c))∧DkAt base H1 B (w1.setCell ⟨B,1,none⟩ (.slice a L.length c)) { s with tests:=L.map Tq.p }:=by
 obtain ⟨V,hb,hr⟩:=h.blk;have hBl:=lt_of_block hb;have hB1:H1 B=true:=(d.ag B hBl).trans h.hB;have hb1:=d.kp B _ _ hb (by decide)
 have hh:hideW H1 (w1.setCell ⟨B,1,none⟩ (.slice a L.length c))=hideW H1 w1:=zak (a:=⟨B,1,none⟩) hB1 _;have hbS:(w1.setCell ⟨B,1,none⟩ (.slice a L.length c)).heap[B]?=some (.cells ((dkCells V s).setIfInBounds 1 (.slice a L.length c)) 46 (0,0)):=heap_setCell_same _ _ _ _ _ _ hb1;have kp:∀ {T:TypeId} {k:Nat} {v:Value} {n:Nat} {xs:List Value},T≠63→T≠46→DRow w base T k v n xs→DRow (w1.setCell ⟨B,1,none⟩ (.slice a L.length c)) base T k v n xs:=fun h1 h2 hd=>(DRow.step d hd h1).set hb1 1 _ h2;obtain ⟨L0,a1,a2,a3⟩:=hr.pr;obtain ⟨T0,b1,b2,b3⟩:=hr.ts;obtain ⟨M0,c1,c2,c3⟩:=hr.hi;have og:∀ {o:Option Addr},(∀ ad,o=some ad→H ad.block=true)→(∀ ad,o=some ad→ad.block<w.heap.size)→∀ ad,o=some ad→H1 ad.block=true:=fun h1 h2 ad e=>(d.ag _ (h2 ad e)).trans (h1 ad e);refine ⟨⟨?_,d.ag,fun k cs hk=>?_⟩,hB1,⟨fun k hk=>?_,hd.lo⟩,{ V with ta:=a,tc:=c },?_,?_⟩
 ·rw [hh];exact d.g
 ·rw [Below.heap_setCell _ _ _ _ (by intro e;have e2:k=B:=e;rw [e2,hb] at hk;cases hk)];exact d.kp k cs _ hk (by decide)
 ·have:=hd.bd k hk;simpa [World.setCell] using this
 ·rw [hbS];simp [dkCells]
 ·exact ⟨⟨L0,kp (by decide) (by decide) a1,a2,fun t ht=>by rw [hh];exact (a3 t ht).grow d.g⟩,⟨L,by simpa using (DRow.set hb1 1 _ hrow (by decide)),rfl,fun t ht=>by rw [hh];exact hins t ht⟩,kp (by decide) (by decide) hr.lk,⟨M0,kp (by decide) (by decide) c1,c2,fun t ht=>by rw [hh];exact (c3 t ht).grow d.g⟩,kp (by decide) (by decide) hr.od,og hr.hp (fun ad e=>DRow.lt a1 (by rw [e];rfl)),hown,og hr.hl (fun ad e=>DRow.lt hr.lk (by rw [e];rfl)),og hr.hh (fun ad e=>DRow.lt c1 (by rw [e];rfl)),og hr.ho (fun ad e=>DRow.lt hr.od (by rw [e];rfl))⟩
theorem DkAt.set_lk {base:Nat} {H H1:Nat→Bool} {B:Nat} {w w1:World} {s:Ds} (h:DkAt base H B w s) (d:DstT 4 H w H1 w1) (hd:HidD base H1 w1) (L:List Bool) (a:Option Addr) (c:Nat) (hrow:DRow w1 base 4 1 (.slice a L.length c) L.length (L.flatMap encT)) (hown:∀ ad,a=some ad→H1 ad.block=true) :
  Dst H w H1 (w1.setCell ⟨B,2,none⟩ (.slice a L.length c))∧DkAt base H1 B (w1.setCell ⟨B,2,none⟩ (.slice a L.length c)) { s with lock:=L }:=by
 obtain ⟨V,hb,hr⟩:=h.blk;have hBl:=lt_of_block hb;have hB1:H1 B=true:=(d.ag B hBl).trans h.hB;have hb1:=d.kp B _ _ hb (by decide)
 have hh:hideW H1 (w1.setCell ⟨B,2,none⟩ (.slice a L.length c))=hideW H1 w1:=zak (a:=⟨B,2,none⟩) hB1 _;have hbS:(w1.setCell ⟨B,2,none⟩ (.slice a L.length c)).heap[B]?=some (.cells ((dkCells V s).setIfInBounds 2 (.slice a L.length c)) 46 (0,0)):=heap_setCell_same _ _ _ _ _ _ hb1;have kp:∀ {T:TypeId} {k:Nat} {v:Value} {n:Nat} {xs:List Value},T≠4→T≠46→DRow w base T k v n xs→DRow (w1.setCell ⟨B,2,none⟩ (.slice a L.length c)) base T k v n xs:=fun h1 h2 hd=>(DRow.step d hd h1).set hb1 2 _ h2;obtain ⟨L0,a1,a2,a3⟩:=hr.pr;obtain ⟨T0,b1,b2,b3⟩:=hr.ts;obtain ⟨M0,c1,c2,c3⟩:=hr.hi;have og:∀ {o:Option Addr},(∀ ad,o=some ad→H ad.block=true)→(∀ ad,o=some ad→ad.block<w.heap.size)→∀ ad,o=some ad→H1 ad.block=true:=fun h1 h2 ad e=>(d.ag _ (h2 ad e)).trans (h1 ad e);refine ⟨⟨?_,d.ag,fun k cs hk=>?_⟩,hB1,⟨fun k hk=>?_,hd.lo⟩,{ V with la:=a,lc:=c },?_,?_⟩
 ·rw [hh];exact d.g
 ·rw [Below.heap_setCell _ _ _ _ (by intro e;have e2:k=B:=e;rw [e2,hb] at hk;cases hk)];exact d.kp k cs _ hk (by decide)
 ·have:=hd.bd k hk;simpa [World.setCell] using this
 ·rw [hbS];simp [dkCells]
 ·exact ⟨⟨L0,kp (by decide) (by decide) a1,a2,fun t ht=>by rw [hh];exact (a3 t ht).grow d.g⟩,⟨T0,kp (by decide) (by decide) b1,b2,fun t ht=>by rw [hh];exact (b3 t ht).grow d.g⟩,(DRow.set hb1 2 _ hrow (by decide)),⟨M0,kp (by decide) (by decide) c1,c2,fun t ht=>by rw [hh];exact (c3 t ht).grow d.g⟩,kp (by decide) (by decide) hr.od,og hr.hp (fun ad e=>DRow.lt a1 (by rw [e];rfl)),og hr.ht (fun ad e=>DRow.lt b1 (by rw [e];rfl)),hown,og hr.hh (fun ad e=>DRow.lt c1 (by rw [e];rfl)),og hr.ho (fun ad e=>DRow.lt hr.od (by rw [e];rfl))⟩
theorem DkAt.set_hi {base:Nat} {H H1:Nat→Bool} {B:Nat} {w w1:World} {s:Ds} (h:DkAt base H B w s) (d:DstT 58 H w H1 w1) (hd:HidD base H1 w1) (L:List (Lo Ed)) (a:Option Addr) (c:Nat) (hrow:DRow w1 base 58 1 (.slice a L.length c) L.length (L.flatMap encLo)) (hown:∀ ad,a=some ad→H1 ad.block=true) (hins:∀ t∈L,SlcAt 5 encE (hideW H1 w1) t.v t.x) :
  Dst H w H1 (w1.setCell ⟨B,3,none⟩ (.slice a L.length c))∧DkAt base H1 B (w1.setCell ⟨B,3,none⟩ (.slice a L.length c)) { s with hist:=L.map Lo.x }:=by
 obtain ⟨V,hb,hr⟩:=h.blk;have hBl:=lt_of_block hb;have hB1:H1 B=true:=(d.ag B hBl).trans h.hB;have hb1:=d.kp B _ _ hb (by decide)
 have hh:hideW H1 (w1.setCell ⟨B,3,none⟩ (.slice a L.length c))=hideW H1 w1:=zak (a:=⟨B,3,none⟩) hB1 _;have hbS:(w1.setCell ⟨B,3,none⟩ (.slice a L.length c)).heap[B]?=some (.cells ((dkCells V s).setIfInBounds 3 (.slice a L.length c)) 46 (0,0)):=heap_setCell_same _ _ _ _ _ _ hb1;have kp:∀ {T:TypeId} {k:Nat} {v:Value} {n:Nat} {xs:List Value},T≠58→T≠46→DRow w base T k v n xs→DRow (w1.setCell ⟨B,3,none⟩ (.slice a L.length c)) base T k v n xs:=fun h1 h2 hd=>(DRow.step d hd h1).set hb1 3 _ h2;obtain ⟨L0,a1,a2,a3⟩:=hr.pr;obtain ⟨T0,b1,b2,b3⟩:=hr.ts;obtain ⟨M0,c1,c2,c3⟩:=hr.hi;have og:∀ {o:Option Addr},(∀ ad,o=some ad→H ad.block=true)→(∀ ad,o=some ad→ad.block<w.heap.size)→∀ ad,o=some ad→H1 ad.block=true:=fun h1 h2 ad e=>(d.ag _ (h2 ad e)).trans (h1 ad e);refine ⟨⟨?_,d.ag,fun k cs hk=>?_⟩,hB1,⟨fun k hk=>?_,hd.lo⟩,{ V with ha:=a,hc:=c },?_,?_⟩
 ·rw [hh];exact d.g
 ·rw [Below.heap_setCell _ _ _ _ (by intro e;have e2:k=B:=e;rw [e2,hb] at hk;cases hk)];exact d.kp k cs _ hk (by decide)
 ·have:=hd.bd k hk;simpa [World.setCell] using this
 ·rw [hbS];simp [dkCells]
 ·exact ⟨⟨L0,kp (by decide) (by decide) a1,a2,fun t ht=>by rw [hh];exact (a3 t ht).grow d.g⟩,⟨T0,kp (by decide) (by decide) b1,b2,fun t ht=>by rw [hh];exact (b3 t ht).grow d.g⟩,kp (by decide) (by decide) hr.lk,⟨L,by simpa using (DRow.set hb1 3 _ hrow (by decide)),rfl,fun t ht=>by rw [hh];exact hins t ht⟩,kp (by decide) (by decide) hr.od,og hr.hp (fun ad e=>DRow.lt a1 (by rw [e];rfl)),og hr.ht (fun ad e=>DRow.lt b1 (by rw [e];rfl)),og hr.hl (fun ad e=>DRow.lt hr.lk (by rw [e];rfl)),hown,og hr.ho (fun ad e=>DRow.lt hr.od (by rw [e];rfl))⟩
theorem DkAt.set_od {base:Nat} {H H1:Nat→Bool} {B:Nat} {w w1:World} {s:Ds} (h:DkAt base H B w s) (d:DstT 9 H w H1 w1) (hd:HidD base H1 w1) (L:List ByteArray) (a:Option Addr) (c:Nat) (hrow:DRow w1 base 9 1 (.slice a L.length c) L.length (L.flatMap encTx)) (hown:∀ ad,a=some ad→H1 ad.block=true) :
  Dst H w H1 (w1.setCell ⟨B,6,none⟩ (.slice a L.length c))∧DkAt base H1 B (w1.setCell ⟨B,6,none⟩ (.slice a L.length c)) { s with orders:=L }:=by
 obtain ⟨V,hb,hr⟩:=h.blk;have hBl:=lt_of_block hb;have hB1:H1 B=true:=(d.ag B hBl).trans h.hB;have hb1:=d.kp B _ _ hb (by decide)
 have hh:hideW H1 (w1.setCell ⟨B,6,none⟩ (.slice a L.length c))=hideW H1 w1:=zak (a:=⟨B,6,none⟩) hB1 _;have hbS:(w1.setCell ⟨B,6,none⟩ (.slice a L.length c)).heap[B]?=some (.cells ((dkCells V s).setIfInBounds 6 (.slice a L.length c)) 46 (0,0)):=heap_setCell_same _ _ _ _ _ _ hb1;have kp:∀ {T:TypeId} {k:Nat} {v:Value} {n:Nat} {xs:List Value},T≠9→T≠46→DRow w base T k v n xs→DRow (w1.setCell ⟨B,6,none⟩ (.slice a L.length c)) base T k v n xs:=fun h1 h2 hd=>(DRow.step d hd h1).set hb1 6 _ h2;obtain ⟨L0,a1,a2,a3⟩:=hr.pr;obtain ⟨T0,b1,b2,b3⟩:=hr.ts;obtain ⟨M0,c1,c2,c3⟩:=hr.hi;have og:∀ {o:Option Addr},(∀ ad,o=some ad→H ad.block=true)→(∀ ad,o=some ad→ad.block<w.heap.size)→∀ ad,o=some ad→H1 ad.block=true:=fun h1 h2 ad e=>(d.ag _ (h2 ad e)).trans (h1 ad e);refine ⟨⟨?_,d.ag,fun k cs hk=>?_⟩,hB1,⟨fun k hk=>?_,hd.lo⟩,{ V with oa:=a,oc:=c },?_,?_⟩
 ·rw [hh];exact d.g
 ·rw [Below.heap_setCell _ _ _ _ (by intro e;have e2:k=B:=e;rw [e2,hb] at hk;cases hk)];exact d.kp k cs _ hk (by decide)
 ·have:=hd.bd k hk;simpa [World.setCell] using this
 ·rw [hbS];simp [dkCells]
 ·exact ⟨⟨L0,kp (by decide) (by decide) a1,a2,fun t ht=>by rw [hh];exact (a3 t ht).grow d.g⟩,⟨T0,kp (by decide) (by decide) b1,b2,fun t ht=>by rw [hh];exact (b3 t ht).grow d.g⟩,kp (by decide) (by decide) hr.lk,⟨M0,kp (by decide) (by decide) c1,c2,fun t ht=>by rw [hh];exact (c3 t ht).grow d.g⟩,(DRow.set hb1 6 _ hrow (by decide)),og hr.hp (fun ad e=>DRow.lt a1 (by rw [e];rfl)),og hr.ht (fun ad e=>DRow.lt b1 (by rw [e];rfl)),og hr.hl (fun ad e=>DRow.lt hr.lk (by rw [e];rfl)),og hr.hh (fun ad e=>DRow.lt c1 (by rw [e];rfl)),hown⟩
theorem DkAt.set_num {base:Nat} {H:Nat→Bool} {B:Nat} {w:World} {s:Ds} (h:DkAt base H B w s) (i:Nat) (n:Int) (s2:Ds) (h0:s2.progs=s.progs∧s2.tests=s.tests∧s2.lock=s.lock∧s2.hist=s.hist∧s2.orders=s.orders) (hc:∀ V,(dkCells V s).setIfInBounds i (.int .i64 n)=dkCells V s2) :
  Dst H w H (w.setCell ⟨B,i,none⟩ (.int .i64 n))∧DkAt base H B (w.setCell ⟨B,i,none⟩ (.int .i64 n)) s2:=by
 obtain ⟨V,hb,hr⟩:=h.blk;have hh:hideW H (w.setCell ⟨B,i,none⟩ (.int .i64 n))=hideW H w:=zak (a:=⟨B,i,none⟩) h.hB _;have hbS:(w.setCell ⟨B,i,none⟩ (.int .i64 n)).heap[B]?=some (.cells ((dkCells V s).setIfInBounds i (.int .i64 n)) 46 (0,0)):=heap_setCell_same _ _ _ _ _ _ hb;have kp:∀ {T:TypeId} {k:Nat} {v:Value} {m:Nat} {xs:List Value},T≠46→DRow w base T k v m xs→DRow (w.setCell ⟨B,i,none⟩ (.int .i64 n)) base T k v m xs:=fun h2 hd=>hd.set hb i _ h2;obtain ⟨L0,a1,a2,a3⟩:=hr.pr;obtain ⟨T0,b1,b2,b3⟩:=hr.ts;obtain ⟨M0,c1,c2,c3⟩:=hr.hi;obtain ⟨e1,e2,e3,e4,e5⟩:=h0;rw [hc V] at hbS;refine ⟨⟨by rw [hh];exact Grow.refl _,fun _ _=>rfl,fun k cs hk=>?_⟩,h.hB,⟨fun k hk=>by have:=h.hid.bd k hk;simpa [World.setCell] using this,h.hid.lo⟩,V,hbS,?_⟩
 ·rw [Below.heap_setCell _ _ _ _ (by intro e;have e2:k=B:=e;rw [e2,hb] at hk;cases hk)];exact hk
 ·refine ⟨⟨L0,?_,by rw [e1];exact a2,fun t ht=>by rw [hh];exact a3 t ht⟩,⟨T0,?_,by rw [e2];exact b2,fun t ht=>by rw [hh];exact b3 t ht⟩,?_,⟨M0,?_,by rw [e4];exact c2,fun t ht=>by rw [hh];exact c3 t ht⟩,?_,hr.hp,hr.ht,hr.hl,hr.hh,hr.ho⟩
  ·rw [e1];exact kp (by decide) a1
  ·rw [e2];exact kp (by decide) b1
  ·rw [e3];exact kp (by decide) hr.lk
  ·rw [e4];exact kp (by decide) c1
  ·rw [e5];exact kp (by decide) hr.od
def newD (p:List Ln):Ds:=⟨[p],[],[],[],0,0,[]⟩
theorem DkAt.new {base:Nat} {H:Nat→Bool} {w:World} (h:HidD base H w) (hb:base≤w.heap.size) {a:Option Addr} {c:Nat} {p:List Ln} (hp:SlcAt 4 encL (hideW H w) (.slice a p.length c) p) :
  ∃ H',Dst H w H' ((w.alloc (.cells #[.slice a p.length c] 22)).alloc (.cells #[.slice (some ⟨w.heap.size,0,none⟩) 1 1,.slice none 0 0,.slice none 0 0,.slice none 0 0,.int .i64 0,.int .i64 0,.slice none 0 0] 46)) ∧
   DkAt base H' (w.heap.size+1) ((w.alloc (.cells #[.slice a p.length c] 22)).alloc (.cells #[.slice (some ⟨w.heap.size,0,none⟩) 1 1,.slice none 0 0,.slice none 0 0,.slice none 0 0,.int .i64 0,.int .i64 0,.slice none 0 0] 46)) (newD p):=by
 have g:Grow w ((w.alloc (.cells #[.slice a p.length c] 22)).alloc (.cells #[.slice (some ⟨w.heap.size,0,none⟩) 1 1,.slice none 0 0,.slice none 0 0,.slice none 0 0,.int .i64 0,.int .i64 0,.slice none 0 0] 46)):=((Grow.refl w).alloc _).alloc _;have b1:((w.alloc (.cells #[.slice a p.length c] 22)).alloc (.cells #[.slice (some ⟨w.heap.size,0,none⟩) 1 1,.slice none 0 0,.slice none 0 0,.slice none 0 0,.int .i64 0,.int .i64 0,.slice none 0 0] 46)).heap[w.heap.size]?=some (.cells #[.slice a p.length c] 22 (0,0)):=by
  rw [heap_alloc_old _ _ (show w.heap.size<_ by rw [World.size_alloc];omega),heap_alloc_new]
 have b2:=heap_alloc_new (w.alloc (.cells #[.slice a p.length c] 22)) (.cells #[.slice (some ⟨w.heap.size,0,none⟩) 1 1,.slice none 0 0,.slice none 0 0,.slice none 0 0,.int .i64 0,.int .i64 0,.slice none 0 0] 46);rw [World.size_alloc] at b2;have hsz:((w.alloc (.cells #[.slice a p.length c] 22)).alloc (.cells #[.slice (some ⟨w.heap.size,0,none⟩) 1 1,.slice none 0 0,.slice none 0 0,.slice none 0 0,.int .i64 0,.int .i64 0,.slice none 0 0] 46)).heap.size=w.heap.size+2:=by rw [World.size_alloc,World.size_alloc]
 generalize (w.alloc (.cells #[.slice a p.length c] 22)).alloc (.cells #[.slice (some ⟨w.heap.size,0,none⟩) 1 1,.slice none 0 0,.slice none 0 0,.slice none 0 0,.int .i64 0,.int .i64 0,.slice none 0 0] 46)=w2 at g b1 b2 hsz ⊢;have ag:∀ k,k<w.heap.size→(H k || (k == w.heap.size) || (k == w.heap.size+1))=H k:=by
  intro k hk;rw [show (k == w.heap.size)=false by rw [beq_eq_false_iff_ne];omega,show (k == w.heap.size+1)=false by rw [beq_eq_false_iff_ne];omega,Bool.or_false,Bool.or_false]
 refine ⟨fun k=>H k || (k == w.heap.size) || (k == w.heap.size+1),⟨g.hide ag,ag,fun k cs hk=>g.blk hk⟩,by simp,⟨fun k hk=>?_,fun k hk=>?_⟩,⟨some ⟨w.heap.size,0,none⟩,1,none,0,none,0,none,0,none,0⟩,b2,?_⟩
 ·rw [Bool.or_eq_true,Bool.or_eq_true] at hk;rcases hk with (hk | hk) | hk
  ·have:=h.bd k hk;omega
  ·have:=beq_iff_eq.1 hk;omega
  ·have:=beq_iff_eq.1 hk;omega
 ·rw [Bool.or_eq_true,Bool.or_eq_true] at hk;rcases hk with (hk | hk) | hk
  ·exact h.lo k hk
  ·have:=beq_iff_eq.1 hk;omega
  ·have:=beq_iff_eq.1 hk;omega
 ·refine ⟨⟨[⟨a,p.length,c,p⟩],.inl ⟨rfl,.inr ⟨w.heap.size,1,_,rfl,hb,b1,Nat.le_refl _,by decide,rfl,rfl⟩⟩,rfl,?_⟩,⟨[],DRow.nil _ _ _ _,rfl,by simp⟩,DRow.nil _ _ _ _,⟨[],DRow.nil _ _ _ _,rfl,by simp⟩,DRow.nil _ _ _ _,?_,?_,?_,?_,?_⟩
  ·intro t ht;simp at ht;subst ht;exact hp.grow (g.hide ag)
  ·intro ad e;cases e;simp
  all_goals intro ad e;cases e
open Go.Proofs.Tryz
set_option maxRecDepth 100000
set_option maxHeartbeats 4000000
theorem rNew_any (base:Nat) (H:Nat→Bool) (p:List Ln) (v:Value) (w:World) (hh:HidD base H w) (hbase:base≤w.heap.size) (hp:LinesAt w v p) (hn:p.length<10000000000) (R:Ending→World→Prop)
  (hno:valP p≠0→∀ w',Grow w w'→R (.returned (.tuple #[.pointer none,.int .i64 (valP p)])) w')
  (hok:valP p=0→∀ w' H' B,Grow w w'→Dst H w H' w'→w.heap.size≤B→DkAt base H' B w' (newD p)→R (.returned (.tuple #[.pointer (some ⟨B,0,none⟩),.int .i64 0])) w') :
  Calls Tryz.prog 32 #[v] w R:=by
 have HNO:=jH hno;have HOK:=jH hok;have HP:=jH hp;have HH:=jH hh;clear hno hok hp hh
 go_enter func32,ntmps32
 go_wp2_with fail;refine zbs p v _ HP.out _ ?_;intro w1 hg1;have HG1:=jH hg1;clear hg1;by_cases h0:valP p=0;rotate_left
 ·have HF:=jH (HNO.out h0 w1 HG1.out);have hz:(valP p != 0)=true:=by simpa using h0
  obtain ⟨e,he⟩:∃ e,valP p=e:=⟨_,rfl⟩;rw [he] at HF hz h0 ⊢;clear he;go_wp2_with fail;exact HF.out
 have HF:=jH (HOK.out h0);rw [h0];go_wp2_with (at_builtin;refine Classical.byContradiction (fun hcon=>?_));refine hcon ?_;clear hcon;refine zay _ rfl (.tmp 10) (.tmp 11) 22 rfl w1.heap.size 57 underlying22 zhg rfl (by decide) (by decide) encL zab zaj _ [] rfl (zah w1 4 _ _ _ (Nat.le_refl _)) _ p rfl (HP.out.grow (HG1.out.alloc _)) (by simp;omega) (by simp) ?_
 intro v2 w2 hown2 hgr2;have hg2:Grow w1 w2:=zae (zah (α:=Ln) w1 4 57 encL _ (Nat.le_refl _)) hgr2 (Nat.le_refl _) (by simp) ((Grow.refl w1).alloc _)
 have HG2:=jH (HG1.out.trans hg2);have hown3:w2.ownsRow w1.heap.size 57 4 v2 p.length (p.flatMap encL):=by simpa using hown2
 have hns:NewS w1.heap.size v2:=NewS.of_own (show Own 4 encL _ w2 v2 p from ⟨_,hown3⟩);have hhid:=(zaa zab hown3).hide_new hns (H:=H) fun b hb=>by
  cases hx:H b with
  | false=>rfl
  | true=>have:=HH.out.bd b hx;have:=HG1.out.sz;omega
 obtain ⟨a,c,rfl,q1,q2,jk⟩:=zaa zab hown3;obtain ⟨H',d,hd⟩:=DkAt.new (HH.out.grow HG2.out) (Nat.le_trans hbase HG2.out.sz) hhid;have HFF:=jH (HF.out _ H' _ ((HG2.out.alloc _).alloc _) ((Dst.of_grow HG2.out).trans d) (Nat.le_trans HG2.out.sz (Nat.le_succ _)) hd);clear hown2 hown3 hgr2 hg2 jk d hd hhid hns;go_wp2_with fail;exact HFF.out
def lkB (n:Nat) (lk:List Int):List Bool:=(List.range n).map fun (k:Nat)=>lk.contains (k:Int)
theorem zbl (n:Nat) (lk:List Int):(lkB n lk).length=n:=by simp [lkB]
theorem zed {n:Nat} {lk:List Int} {k:Nat} (h:k<n):(lkB n lk)[k]?=some (lk.contains (k:Int)):=by
 unfold lkB;rw [List.getElem?_map,List.getElem?_range h];rfl
def dsB (s:Bn):Ds:=⟨s.progs,s.tests,lkB s.tests.length s.lk,s.hist,s.fixes,s.checks,s.orders⟩
theorem zxi:∀ {a b:List Int},a.Pairwise (·<·)→b.Pairwise (·<·)→(∀ k,k∈a↔k∈b)→a=b
 | [],[],_,_,_=>rfl
 | [],y :: b,_,_,h=>absurd ((h y).2 (by simp)) (by simp)
 | x :: a,[],_,_,h=>absurd ((h x).1 (by simp)) (by simp)
 | x :: a,y :: b,ha,hb,h=>by
  rw [List.pairwise_cons] at ha hb;have hxy:x=y:=by
   rcases List.mem_cons.1 ((h x).1 (by simp)) with e | e
   ·exact e
   ·rcases List.mem_cons.1 ((h y).2 (by simp)) with e2 | e2
    ·exact e2.symm
    ·have:=ha.1 _ e2;have:=hb.1 _ e;omega
  subst hxy;rw [zxi ha.2 hb.2 fun k=>?_];constructor
  ·intro hk;rcases List.mem_cons.1 ((h k).1 (by simp [hk])) with e | e
   ·subst e;have:=ha.1 _ hk;omega
   ·exact e
  ·intro hk;rcases List.mem_cons.1 ((h k).2 (by simp [hk])) with e | e
   ·subst e;have:=hb.1 _ hk;omega
   ·exact e
theorem setL_asc (bs:List Bool):(setL bs).Pairwise (·<·):=by
 unfold setL setN;rw [List.pairwise_map];refine List.Pairwise.filter _ ?_;have:=List.pairwise_lt_range (n:=bs.length);exact this.imp (fun h=>by simpa using h)
theorem setL_lkB {n:Nat} {lk:List Int} (ha:lk.Pairwise (·<·)) (hr:∀ k∈lk,0≤k∧k<(n:Int)):setL (lkB n lk)=lk:=by
 refine zxi (setL_asc _) ha fun k=>?_;unfold setL setN;rw [List.mem_map];constructor
 ·rintro ⟨i,hi,rfl⟩;obtain ⟨h1,h2⟩:=List.mem_filter.1 hi;rw [zbl] at h1;rw [List.getD_eq_getElem?_getD,zed (List.mem_range.1 h1)] at h2;exact List.contains_iff_mem.1 h2
 ·intro hk;obtain ⟨h0,h1⟩:=hr k hk;refine ⟨k.toNat,List.mem_filter.2 ⟨List.mem_range.2 (by rw [zbl];omega),?_⟩,by simp;omega⟩
  rw [List.getD_eq_getElem?_getD,zed (by omega),show ((k.toNat:Nat):Int)=k by omega]
  exact List.contains_iff_mem.2 hk
theorem lkB_test {n:Nat} {lk:List Int} (hr:∀ k∈lk,0≤k∧k<(n:Int)):lkB (n+1) lk=lkB n lk++[false]:=by
 unfold lkB;rw [List.range_succ,List.map_append]
 congr 1
 simp only [List.map_cons,List.map_nil]
 congr 1
 rw [← Bool.not_eq_true];intro h;have:=(hr _ (List.contains_iff_mem.1 h)).2;omega
theorem lkB_lock {m:Nat} {lk:List Int} {n:Int} (h0:0≤n) (r:Nat):lkB m (lk.take r++n :: lk.drop r)=(lkB m lk).set n.toNat true:=by
 apply List.ext_getElem?
 intro k;rw [List.getElem?_set,zbl];by_cases hk:k<m
 ·rw [zed hk];have hm:((lk.take r++n :: lk.drop r).contains (k:Int))=((k:Int) == n || lk.contains (k:Int)):=by
   rw [Bool.eq_iff_iff,List.contains_iff_mem,Bool.or_eq_true,beq_iff_eq,List.contains_iff_mem,List.mem_append,List.mem_cons]
   conv=>rhs;rw [← List.take_append_drop r lk,List.mem_append]
   constructor
   ·rintro (h | h | h)
    ·exact .inr (.inl h)
    ·exact .inl h
    ·exact .inr (.inr h)
   ·rintro (h | h | h)
    ·exact .inr (.inl h)
    ·exact .inl h
    ·exact .inr (.inr h)
  rw [hm];by_cases hn:n.toNat=k
  ·rw [if_pos hn,if_pos (by omega),show ((k:Int) == n)=true by rw [beq_iff_eq];omega,Bool.true_or]
  ·rw [if_neg hn,zed hk,show ((k:Int) == n)=false by rw [beq_eq_false_iff_ne];omega,Bool.false_or]
 ·have h1:(lkB m (lk.take r++n :: lk.drop r))[k]?=none:=List.getElem?_eq_none (by rw [zbl];omega)
  have h2:(lkB m lk)[k]?=none:=List.getElem?_eq_none (by rw [zbl];omega)
  rw [h1,h2]
  split<;>(try split)<;>first | rfl | omega
theorem zut {m:Nat} {lk:List Int} {n:Int} (h0:0≤n) (hm:n<(m:Int)) (hn:lk.contains n=false):lkB (m - 1) (lk.map (downI n))=(lkB m lk).eraseIdx n.toNat:=by
 have hn2:n ∉ lk:=fun h=>by rw [List.contains_iff_mem.2 h] at hn;cases hn
 apply List.ext_getElem?
 intro k;rw [List.getElem?_eraseIdx];by_cases hk:k<m - 1
 ·rw [zed hk];have key:(lk.map (downI n)).contains (k:Int)=lk.contains (if k<n.toNat then (k:Int) else ((k+1:Nat):Int)):=by
   rw [Bool.eq_iff_iff,List.contains_iff_mem,List.contains_iff_mem,List.mem_map];constructor
   ·rintro ⟨j,hj,e⟩;have hjn:j≠n:=fun e=>hn2 (e ▸ hj);unfold downI at e
    split at e
    ·rw [if_neg (by omega),show ((k+1:Nat):Int)=j by omega];exact hj
    ·rw [if_pos (by omega),← e];exact hj
   ·intro h;refine ⟨_,h,?_⟩;unfold downI
    split<;>split<;>omega
  rw [key];by_cases hkn:k<n.toNat
  ·rw [if_pos hkn,if_pos hkn,zed (by omega)]
  ·rw [if_neg hkn,if_neg hkn,zed (by omega)]
 ·rw [List.getElem?_eq_none (by rw [zbl];omega)]
  split
  ·omega
  ·rw [List.getElem?_eq_none (by rw [zbl];omega)]
theorem zyv {p:List Ln} {ts:List Tst} {lk:List Int} (hc:chkT p ts=0) (hr:∀ k∈lk,0≤k∧k<(ts.length:Int)):brkB p ts lk=false↔∀ (k:Nat) t,ts[k]?=some t→(lkB ts.length lk)[k]?=some true→passM p t=true:=by
 constructor
 ·intro h k t ht hl;have hk:=(List.getElem?_eq_some_iff.1 ht).1;rw [zed hk] at hl;have hm:=List.contains_iff_mem.1 (Option.some.inj hl);exact zna hc h _ hm (by omega) t (by rw [show ((k:Int)).toNat=k by omega];exact ht)
 ·intro h;unfold brkB;rw [← Bool.not_eq_true,List.any_eq_true];rintro ⟨k,hk,hcn⟩;obtain ⟨h0,h1⟩:=hr k (List.contains_iff_mem.1 hcn);obtain ⟨t,ht⟩:∃ t,ts[k.toNat]?=some t:=⟨_,List.getElem?_eq_getElem (by omega)⟩
  have h3:=(zer hc ht).1 (by rw [show ((k.toNat:Nat):Int)=k by omega];exact hk)
  rw [h k.toNat t ht (by rw [zed (by omega),show ((k.toNat:Nat):Int)=k by omega,hcn])] at h3
  cases h3
theorem zxc {s:Bn} (ok:OkB s) {i:Int} {l:Ln} (h0:0≤i) (h1:i<(s.prog.length:Int)) (hl:l.ok=true):doE s.prog [⟨i,l⟩]=0∧doM s.prog [⟨i,l⟩]=s.prog.set i.toNat l:=by
 have h8:=(zba.1 ok.valp).1;have he:edsOK [(⟨i,l⟩:Ed)]=true:=by
  unfold edsOK;rw [List.all_eq_true];intro k hk;have hk0:k=0:=by have:=List.mem_range.1 hk;simpa using this
  subst hk0;refine (zgd (e:=⟨i,l⟩) rfl).2 ⟨⟨h0,by show i<8;omega⟩,?_,hl⟩
  show (-1:Int)<i
  omega
 refine ⟨zdn.2 ⟨ok.valp,?_,rfl,?_⟩,?_⟩
 ·unfold valX errB;rw [if_neg (by simp),he];rfl
 ·unfold offB;simp only [List.any_cons,List.any_nil,Bool.or_false,decide_eq_false_iff_not];omega
 ·rw [← zen he];rfl
theorem put_D {s:Bn} (ok:OkB s) (i:Int) (l:Ln):putB s i l =
  if i<0∨(s.prog.length:Int)≤i then (4,s)
  else if l.ok=false then (1,s)
  else if lineAt s.prog i=l then (5,s)
  else if 8≤s.hist.length then (3,s)
  else if brkB (s.prog.set i.toNat l) s.tests s.lk then (6,s)
  else (0,{ s with progs:=s.progs++[s.prog.set i.toNat l],hist:=s.hist++[[⟨i,l⟩]] }):=by
 unfold putB
 split
 ·rfl
 ·next h1=>
  split
  ·rfl
  ·next h2=>
   split
   ·rfl
   ·obtain ⟨e1,e2⟩:=zxc ok (i:=i) (l:=l) (by omega) (by omega) (by simpa using h2)
    have h8:=ok.h8;unfold Go.Proofs.YtmeejlgnhfkeaaaGreatDoor.repairB;rw [e1,e2];by_cases h:s.hist.length=8
    ·rw [if_pos h,if_pos (by omega)]
    ·rw [if_neg h,if_neg (show ¬ (0:Int)≠0 by simp),if_neg (show ¬ 8≤s.hist.length by omega)]
theorem test_D {s:Bn} (ok:OkB s) (xs:List Int) (o wt:Int):testB s xs o wt =
  if valT [⟨.nilIface,xs,o,wt⟩]≠0 then (1,s)
  else if 8≤s.tests.length then (3,s)
  else (0,{ s with tests:=s.tests++[⟨.nilIface,xs,o,wt⟩] }):=by
 have h8:=ok.t8;unfold testB
 split
 ·next h=>
  have:valT [(⟨.nilIface,xs,o,wt⟩:Tst)]=1:=by
   unfold valT errB at h ⊢;rw [if_neg (by simp)] at h ⊢
   cases hq : [(⟨.nilIface,xs,o,wt⟩:Tst)].all Tst.ok with
   | true=>rw [hq] at h;exact absurd rfl h
   | false=>rfl
  rw [this]
 ·by_cases h:s.tests.length=8
  ·rw [if_pos h,if_pos (by omega)]
  ·rw [if_neg h,if_neg (by omega)]
theorem fix_D {s:Bn} (ok:OkB s) (h:(failB s.prog s.tests).length≠0) (h8:¬ 8≤s.hist.length) {x:List Ed} {n:Int} {b:Bool} (hr:RepP s.prog s.tests x n b) :
  fixBn s=if b then (0,{ s with progs:=s.progs++[doM s.prog x],hist:=s.hist++[x],fixes:=s.fixes+1 }) else (4,s):=by
 have h82:s.hist.length≠8:=by omega
 unfold fixBn;rw [if_neg h,if_neg h82,zql hr];cases b with
 | false=>rfl
 | true=>
  obtain ⟨g1,g2,_⟩:=zse hr;have hc:=zdn.1 g1;have hde:doE s.prog x=0:=zdn.2 ⟨hc.1,hc.2.1,rfl,hc.2.2.2⟩;have hvp:valP (doM s.prog x)=0:=zmh hc.1 fun e he=>by
   obtain ⟨i,hi⟩:=List.getElem?_of_mem he;exact (zde (zdm.1 hc.2.1).2 hi).2.2
  have hfail:failB (doM s.prog x) s.tests=[]:=by
   rw [zhh (zef.2 ⟨hvp,ok.tst⟩),← List.length_eq_zero_iff];exact zii.2 g2
  have hbrk:brkB (doM s.prog x) s.tests s.lk=false:=by unfold brkB;rw [hfail];rfl
  have hrep:repairB s x=(0,{ s with progs:=s.progs++[doM s.prog x],hist:=s.hist++[x] }):=by
   unfold Go.Proofs.YtmeejlgnhfkeaaaGreatDoor.repairB;rw [if_neg h82,if_neg (by rw [hde];simp),if_neg (by rw [hbrk];simp)]
  dsimp only [if_true];simp [hrep]
set_option maxHeartbeats 4000000
set_option maxRecDepth 100000
theorem zaw {w:World} {B:Nat} {V:V5} {s:Ds} {T:TypeId} (hb:w.heap[B]?=some (.cells (dkCells V s) T (0,0))) :
  w.cell? ⟨B,0,none⟩=some (.slice V.pa s.progs.length V.pc)∧w.cell? ⟨B,1,none⟩=some (.slice V.ta s.tests.length V.tc)∧w.cell? ⟨B,2,none⟩=some (.slice V.la s.lock.length V.lc)∧w.cell? ⟨B,3,none⟩=some (.slice V.ha s.hist.length V.hc)∧w.cell? ⟨B,4,none⟩=some (.int .i64 s.fixes)∧w.cell? ⟨B,5,none⟩=some (.int .i64 s.checks)∧w.cell? ⟨B,6,none⟩=some (.slice V.oa s.orders.length V.oc):=by
 unfold World.cell?;rw [hb];exact ⟨rfl,rfl,rfl,rfl,rfl,rfl,rfl⟩
def Ds.prog (s:Ds):List Ln:=(s.progs[s.progs.length - 1]?).getD []
theorem DRows.progs {base:Nat} {H:Nat→Bool} {w:World} {V:V5} {s:Ds} (h:DRows base H w V s):∃ L:List (Lo Ln),L.length=s.progs.length∧L.map Lo.x=s.progs∧SlcAt 1 encLo w (.slice V.pa s.progs.length V.pc) L∧∀ t∈L,SlcAt 4 encL (hideW H w) t.v t.x:=by
 obtain ⟨L,a1,a2,a3⟩:=h.pr;exact ⟨L,by rw [← a2,List.length_map],a2,DRow.slc zaz a1,a3⟩
theorem DRows.tests {base:Nat} {H:Nat→Bool} {w:World} {V:V5} {s:Ds} (h:DRows base H w V s):∃ T:List Tq,T.map Tq.p=s.tests∧TestsAt w (.slice V.ta s.tests.length V.tc) (T.map Tq.t):=by
 obtain ⟨T,b1,b2,b3⟩:=h.ts;exact ⟨T,b2,(TqAt.tests ⟨DRow.slc zat b1,fun q hq=>(b3 q hq).unhide⟩)⟩
theorem zcv (base:Nat) (H:Nat→Bool) (B:Nat) (s:Ds) (w:World) (h:DkAt base H B w s) (hne:s.progs≠[]) (R:Ending→World→Prop)
  (hR:∀ w' v,Grow w w'→LinesAt (hideW H w') v s.prog→R (.returned v) w') :
  Calls Tryz.prog 41 #[.pointer (some ⟨B,0,none⟩)] w R:=by
 obtain ⟨V,hb,hr⟩:=h.blk;obtain ⟨L,hl,hLx,hat,hins⟩:=hr.progs;obtain ⟨k,hk⟩:∃ k,s.progs.length=k+1:=⟨s.progs.length - 1,by have:=List.length_pos_iff.2 hne;omega⟩
 obtain ⟨t,ht⟩:∃ t,L[k]?=some t:=⟨_,List.getElem?_eq_getElem (by omega)⟩
 have hx:t.x=s.prog:=by
  unfold Ds.prog;rw [hk,Nat.add_sub_cancel,← hLx,List.getElem?_map,ht];rfl
 have hkm:=hat.len_le;rw [hl,hk] at hkm;have hv:=hins t (List.mem_of_getElem? ht);rw [hx] at hv;obtain ⟨c0,_⟩:=zaw hb;obtain ⟨b,o,hpa,hbl,e0⟩:=lo_at hat ht;have HF:=jH (fun w' (g:Grow w w')=>hR w' _ g (hv.grow (g.hid H)));obtain ⟨tab,tn,tc,tx⟩:=t;dsimp only at e0 hx hv;rw [hpa,hk] at c0;clear hR hv hat hx ht hins hLx h hb hr hpa;have hk1:((k:Int)+1) - 1=(k:Int):=by omega
 go_enter func41,ntmps41
 go_wp2_with (go_quiet (fail));exact HF.out _ ((Grow.refl _).drewN _)
theorem zqy (base:Nat) (H:Nat→Bool) (B:Nat) (s:Ds) (w:World) (h:DkAt base H B w s) (hlen:s.lock.length≤100000000) (R:Ending→World→Prop)
  (hR:∀ w' v,Grow w w'→OwnI w.heap.size w' v (setL s.lock)→R (.returned v) w') :
  Calls Tryz.prog 44 #[.pointer (some ⟨B,0,none⟩)] w R:=by
 obtain ⟨V,hb,hr⟩:=h.blk;have hat:=DRow.slc zdq hr.lk;have hlm:=hat.len_le;have HB:=jH hb;have HAT:=jH hat;have HR:=jH hR;have HLN:=jH hlen;clear hR h hb hr hat hlen
 go_enter func44,ntmps44
 go_wp2_with fail
 go_loopw [3,4] (fun s3 s4 wr=>∃ (k:Nat) (na:Option Addr) (nc:Nat),k≤s.lock.length∧s3=.slice na (setN s.lock k).length nc∧s4=.int .i64 k∧Grow w wr∧wr.ownsRow w.heap.size 3 1 (.slice na (setN s.lock k).length nc) (setN s.lock k).length ((setN s.lock k).flatMap encI)) (fun _ s4 _=>s.lock.length - (intOf s4).toNat)
 case atStart=>exact ⟨0,none,0,Nat.zero_le _,rfl,rfl,Grow.refl _,World.ownsRow_nil _ _ _ _⟩
 case round=>
  obtain ⟨k,na,nc,hk,rfl,rfl,hg,ho⟩:=hrel;have HG:=jH hg;have HO:=jH ho;obtain ⟨_,_,c2,_⟩:=zaw (hg.blk HB.out);clear hg ho;by_cases hlt:k<s.lock.length;rotate_left
  ·obtain rfl:k=s.lock.length:=by omega
   have hkz:¬ (s.lock.length:Int)<(s.lock.length:Int):=by omega
   have HF:=jH (HR.out wr _ HG.out ⟨_,HO.out⟩);go_wp2_with fail;exact HF.out
  have hkz:(k:Int)<(s.lock.length:Int):=by omega
  obtain ⟨q,hq⟩:∃ q,s.lock[k]?=some q:=⟨_,List.getElem?_eq_getElem hlt⟩;obtain ⟨a',c',e',_,_,h4⟩:=HAT.out.grow HG.out;cases e';obtain ⟨b,o,hab,hbl,hcs⟩:=h4.resolve_left (by intro h0;rw [h0.1] at hq;cases hq)
  have e0:=zmb hcs k q hq;rw [hab] at c2;have HQ:=jH hq;have hsl:(setN s.lock k).length≤k∧s.lock.length≤100000000:=⟨setN_len s.lock k,HLN.out⟩;have HSL:=jH hsl;clear hcs hq hab hsl;cases q with
  | false=>
   have HS:=jH (zvc HQ.out);go_wp2_with fail;go_roundw
   case rel=>exact ⟨k+1,na,nc,by omega,by rw [HS.out],by go_num,HG.out,by rw [HS.out];exact HO.out⟩
   case measure=>simp [intOf];omega
  | true=>
   have HS:=jH (zzs HQ.out);go_wp2_with (at_builtin;refine Classical.byContradiction (fun hcon=>?_));refine hcon ?_;clear hcon;refine zad _ rfl (.tmp 21) (.tmp 23) 61 rfl w.heap.size 3 underlying61 zga rfl (by decide) (by decide) encI zal zcx (.slice na (setN s.lock k).length nc) (setN s.lock k) rfl (((Grow.refl wr).alloc _).owns HO.out) _ (k:Int) 1 rfl (zbj wr (encI (k:Int)) 3) (by obtain ⟨h1,h2⟩:=HSL.out;omega) (by have:=HG.out.sz;simp;omega) ?_
   intro v9 w9 hown9 hgr9;have hH9:Grow w w9:=zae (((Grow.refl wr).alloc (.cells (encI (k:Int)).toArray 3)).owns HO.out) hgr9 (Nat.le_refl _) (by have:=HG.out.sz;simp;omega) (HG.out.alloc _)
   obtain ⟨a9,c9,rfl⟩:∃ a c,v9=.slice a ((setN s.lock k).length+1) c:=by
    rcases hown9.2 with ⟨hv,h0⟩ | ⟨g,cap,cur,hv,_⟩
    ·simp at h0
    ·exact ⟨some ⟨g,0,none⟩,cap,by rw [hv];simp⟩
   have HW9:=jH hown9;have HH9:=jH hH9;clear hown9 hgr9 hH9;go_wp2_with fail;go_roundw
   case rel=>exact ⟨k+1,a9,c9,by omega,by rw [HS.out,List.length_append,List.length_singleton],by go_num,HH9.out,by rw [HS.out];simpa using HW9.out⟩
   case measure=>simp [intOf];omega
set_option maxRecDepth 100000
set_option maxHeartbeats 4000000
theorem passM_p (p:List Ln) (q:Tq):passM p q.t=passM p q.p:=rfl
theorem zly (base:Nat) (H:Nat→Bool) (B:Nat) (s:Ds) (w:World) (h:DkAt base H B w s) (hlk:s.lock.length=s.tests.length) (htv:valT s.tests=0) (p:List Ln) (pv:Value) (hp:LinesAt w pv p) (hpv:valP p=0) (R:Ending→World→Prop)
  (hR:∀ w' q,Grow w w'→(q=true↔∀ (k:Nat) t,s.tests[k]?=some t→s.lock[k]?=some true→passM p t=true)→R (.returned (.bool q)) w') :
  Calls Tryz.prog 76 #[.pointer (some ⟨B,0,none⟩),pv] w R:=by
 obtain ⟨V,hb,hr⟩:=h.blk;obtain ⟨T,hTs,hT⟩:=hr.tests;have hTl:T.length=s.tests.length:=by rw [← hTs,List.length_map]
 have hat:=DRow.slc zdq hr.lk;have hlm:=hat.len_le;have htok:∀ t∈T.map Tq.t,t.ok=true:=by
  intro t ht;obtain ⟨q,hq,rfl⟩:=List.mem_map.1 ht;exact (zcs.1 htv).2 q.p (by rw [← hTs];exact List.mem_map.2 ⟨q,hq,rfl⟩)
 have HB:=jH hb;have HAT:=jH hat;have HT:=jH hT;have HTS:=jH hTs;have HTK:=jH htok;have HLK:=jH hlk;have HTL:=jH hTl;have HP:=jH hp;have HPV:=jH hpv;have HR:=jH hR;have hm:s.tests.length≤9223372036854775807:=by omega
 clear hR h hb hr hat hT hTs htok hlk hTl hp hpv htv
 go_enter func76,ntmps76
 go_wp2_with fail
 go_loopw [5] (fun s5 wr=>∃ k:Nat,k≤s.tests.length∧s5=.int .i64 k∧Grow w wr∧∀ (j:Nat) t,j<k→s.tests[j]?=some t→s.lock[j]?=some true→passM p t=true) (fun s5 _=>s.tests.length - (intOf s5).toNat)
 case atStart=>exact ⟨0,Nat.zero_le _,rfl,Grow.refl _,fun j t hj=>absurd hj (Nat.not_lt_zero _)⟩
 case round=>
  obtain ⟨k,hk,rfl,hg,hall⟩:=hrel;have HG:=jH hg;have HALL:=jH hall;obtain ⟨_,c1,c2,_⟩:=zaw (hg.blk HB.out);clear hg hall;by_cases hlt:k<s.tests.length;rotate_left
  ·obtain rfl:k=s.tests.length:=by omega
   have hkz:¬ (s.tests.length:Int)<(s.tests.length:Int):=by omega
   have HF:=jH (HR.out wr true HG.out ⟨fun _ j t ht hl=>HALL.out j t (List.getElem?_eq_some_iff.1 ht).1 ht hl,fun _=>rfl⟩);go_wp2_with fail;exact HF.out
  have hkz:(k:Int)<(s.tests.length:Int):=by omega
  have hkl:(k:Int)<(s.lock.length:Int):=by have:=HLK.out;omega
  obtain ⟨l,hl⟩:∃ l,s.lock[k]?=some l:=⟨_,List.getElem?_eq_getElem (by have:=HLK.out;omega)⟩
  obtain ⟨a',c',e',_,_,h4⟩:=HAT.out.grow HG.out;cases e';obtain ⟨b,o,hab,hbl,hcs⟩:=h4.resolve_left (by intro h0;rw [h0.1] at hl;cases hl)
  have e0:=zmb hcs k l hl;rw [hab] at c2;obtain ⟨t,ht⟩:∃ t,(T.map Tq.t)[k]?=some t:=⟨_,List.getElem?_eq_getElem (by rw [List.length_map,HTL.out];exact hlt)⟩
  obtain ⟨b2,o2,hab2,hb2,d0,d1,d2⟩:=zez (HT.out.at_.grow HG.out) ht;rw [hab2] at c1;have HI:=jH ((HT.out.ins t (List.mem_of_getElem? ht)).grow HG.out);have hok:=HTK.out t (List.mem_of_getElem? ht);obtain ⟨q,hq,rfl⟩:∃ q,T[k]?=some q∧q.t=t:=by
   rw [List.getElem?_map] at ht;cases hq:T[k]? with
   | none=>rw [hq] at ht;cases ht
   | some q=>rw [hq] at ht;exact ⟨q,rfl,Option.some.inj ht⟩
  have hst:s.tests[k]?=some q.p:=by rw [← HTS.out,List.getElem?_map,hq];rfl
  have HST:=jH hst;have HL:=jH hl;have HOK:=jH hok;clear hcs hl hab hab2 ht hok hq hst;cases l with
  | false=>
   go_wp2_with fail;go_roundw
   case rel=>exact ⟨k+1,by omega,by go_num,HG.out,fun j t hj ht hl=>by
    by_cases hjk:j<k
    ·exact HALL.out j t hjk ht hl
    ·obtain rfl:j=k:=by omega
     rw [HL.out] at hl;cases hl⟩
   case measure=>simp [intOf];omega
  | true=>
   go_wp2_with fail;refine zdi p q.t pv _ (HP.out.grow HG.out) HI.out HPV.out HOK.out _ ?_;intro w2 hg2;have HG2:=jH (HG.out.trans hg2);clear hg2;cases hpm:passM p q.t with
   | true=>
    have HPM:=jH hpm;clear hpm;go_wp2_with fail;go_roundw
    case rel=>exact ⟨k+1,by omega,by go_num,HG2.out,fun j t hj ht hl=>by
     by_cases hjk:j<k
     ·exact HALL.out j t hjk ht hl
     ·obtain rfl:j=k:=by omega
      rw [HST.out] at ht;obtain rfl:=Option.some.inj ht;exact HPM.out⟩
    case measure=>simp [intOf];omega
   | false=>
    have HF:=jH (HR.out w2 false HG2.out ⟨fun h=>(by cases h),fun h=>by
     have:=h k q.p HST.out HL.out;rw [← passM_p,hpm] at this;cases this⟩)
    clear hpm;go_wp2_with fail;exact HF.out
theorem zfk (base:Nat) (H:Nat→Bool) (B:Nat) (s:Ds) (w:World) (h:DkAt base H B w s) (hne:s.progs≠[]) (htv:valT s.tests=0) (hpv:valP s.prog=0) (R:Ending→World→Prop)
  (hR:∀ w' v,Grow w w'→OwnI w.heap.size w' v (whereL (fun t=>!passM s.prog t) s.tests)→R (.returned v) w') :
  Calls Tryz.prog 46 #[.pointer (some ⟨B,0,none⟩)] w R:=by
 obtain ⟨V,hb,hr⟩:=h.blk;obtain ⟨T,hTs,hT⟩:=hr.tests;have hTl:T.length=s.tests.length:=by rw [← hTs,List.length_map]
 have htok:∀ t∈T.map Tq.t,t.ok=true:=by
  intro t ht;obtain ⟨q,hq,rfl⟩:=List.mem_map.1 ht;exact (zcs.1 htv).2 q.p (by rw [← hTs];exact List.mem_map.2 ⟨q,hq,rfl⟩)
 have hm8:=(zcs.1 htv).1;have HD:=jH h;have HNE:=jH hne;have HB:=jH hb;have HT:=jH hT;have HTS:=jH hTs;have HTK:=jH htok;have HTL:=jH hTl;have HPV:=jH hpv;have HR:=jH hR;have hm:s.tests.length≤9223372036854775807:=by omega
 have HM8:=jH hm8;clear hR h hb hr hT hTs htok hTl hpv htv hne hm8
 go_enter func46,ntmps46
 go_wp2_with fail
 go_loopw [3,4] (fun s3 s4 wr=>∃ (k:Nat) (na:Option Addr) (nc:Nat),k≤s.tests.length∧s3=.slice na (whereN (fun t=>!passM s.prog t) s.tests k).length nc∧s4=.int .i64 k∧Grow w wr∧wr.ownsRow w.heap.size 3 1 (.slice na (whereN (fun t=>!passM s.prog t) s.tests k).length nc) (whereN (fun t=>!passM s.prog t) s.tests k).length ((whereN (fun t=>!passM s.prog t) s.tests k).flatMap encI)) (fun _ s4 _=>s.tests.length - (intOf s4).toNat)
 case atStart=>exact ⟨0,none,0,Nat.zero_le _,rfl,rfl,Grow.refl _,World.ownsRow_nil _ _ _ _⟩
 case round=>
  obtain ⟨k,na,nc,hk,rfl,rfl,hg,ho⟩:=hrel;have HG:=jH hg;have HO:=jH ho;obtain ⟨_,c1,_⟩:=zaw (hg.blk HB.out);clear hg ho;by_cases hlt:k<s.tests.length;rotate_left
  ·obtain rfl:k=s.tests.length:=by omega
   have hkz:¬ (s.tests.length:Int)<(s.tests.length:Int):=by omega
   have HF:=jH (HR.out wr _ HG.out ⟨_,HO.out⟩);go_wp2_with fail;exact HF.out
  have hkz:(k:Int)<(s.tests.length:Int):=by omega
  obtain ⟨t,ht⟩:∃ t,(T.map Tq.t)[k]?=some t:=⟨_,List.getElem?_eq_getElem (by rw [List.length_map,HTL.out];exact hlt)⟩
  obtain ⟨b2,o2,hab2,hb2,d0,d1,d2⟩:=zez (HT.out.at_.grow HG.out) ht;rw [hab2] at c1;have HI:=jH ((HT.out.ins t (List.mem_of_getElem? ht)).grow HG.out);have hok:=HTK.out t (List.mem_of_getElem? ht);obtain ⟨q,hq,rfl⟩:∃ q,T[k]?=some q∧q.t=t:=by
   rw [List.getElem?_map] at ht;cases hq:T[k]? with
   | none=>rw [hq] at ht;cases ht
   | some q=>rw [hq] at ht;exact ⟨q,rfl,Option.some.inj ht⟩
  have hst:s.tests[k]?=some q.p:=by rw [← HTS.out,List.getElem?_map,hq];rfl
  have HWS:=jH (zki (f:=fun t=>!passM s.prog t) hst);have HLB:=jH (show (whereN (fun t=>!passM s.prog t) s.tests k).length<100000000000 by have:=zlu (fun t=>!passM s.prog t) s.tests k;have:=HM8.out;omega)
  have HOK:=jH hok;obtain ⟨qa,qn,qc,qx,qo,qw⟩:=q;dsimp only [Tq.t] at d0 d1 d2 HI HOK;clear hab2 ht hok hq hst;go_wp2_with fail;refine wp_region_held_drew (S:=fun X=>Grow wr X) (by kernel_rfl) ((Grow.refl wr).drew) (fun hH=>?_)
  refine tkA 0 (.pointer (some ⟨B,0,none⟩)) rfl ?_ hH ?_
  ·intro w9 hw9;go_simp
  try simp only [nrm]
  refine tkA 2 (.pointer (some ⟨B,0,none⟩)) rfl ?_ hH ?_
  ·intro w9 hw9;go_simp
  try simp only [nrm]
  refine tkA 3 (.pointer (some ⟨B,0,none⟩)) rfl ?_ hH ?_
  ·intro w9 hw9;go_simp
  try simp only [nrm]
  refine tkA 4 (.pointer (some ⟨B,1,none⟩)) rfl ?_ hH ?_
  ·intro w9 hw9;go_simp
  try simp only [nrm]
  refine tkA 5 (.slice (some ⟨b2,o2,none⟩) s.tests.length V.tc) rfl ?_ hH ?_
  ·intro w9 hw9;have z9:=Grow.cell hw9 c1;go_simp
  try simp only [nrm]
  refine tkA 6 (.int .i64 (k:Nat)) rfl ?_ hH ?_
  ·intro w9 hw9;go_simp
  try simp only [nrm]
  refine tkA 7 (.pointer (some ⟨b2,o2+k * 3,none⟩)) rfl ?_ hH ?_
  ·intro w9 hw9;go_simp
  try simp only [nrm]
  refine tkA 8 (.agg #[.slice qa qn qc,.int .i64 qo,.int .i64 qw]) rfl ?_ hH ?_
  ·intro w9 hw9;have z0:=Grow.cell hw9 d0;have z1:=Grow.cell hw9 d1;have z2:=Grow.cell hw9 d2;go_simp
  try simp only [nrm]
  refine tk1 1 rfl fun K hK=>?_;go_simp;refine zcv base H B s _ (HD.out.grow (HG.out.trans hH)) HNE.out _ ?_;intro w3 v3 hg3 hv3;have HV3:=jH hv3.unhide;clear hv3;go_wp2_with fail;refine hK.out _ _ (hH.trans hg3) ?_;clear hK K hH;intro hH;try simp only [nrm]
  clear hg3;refine tk1 9 rfl fun K hK=>?_;go_simp;refine zdi s.prog ⟨.slice qa qn qc,qx,qo,qw⟩ v3 _ HV3.out (HI.out.grow hH) HPV.out HOK.out _ ?_;intro w4 hg4;cases hpm:passM s.prog ⟨.slice qa qn qc,qx,qo,qw⟩
  ·
   have HPM:=jH hpm;clear hpm;go_wp2_with fail;refine hK.out _ _ (hH.trans hg4) ?_;clear hK K hH;intro hH;try simp only [nrm]
   clear hg4;refine tkA 10 (.bool true) rfl ?_ hH ?_
   ·intro w9 hw9;go_simp
   try simp only [nrm]
   refine wpAnyH_done (by kernel_rfl) ?_ _
   have HG4:=jH (HG.out.trans hH);have HO4:=jH (HO.out);have HGW:=jH hH;clear hH;have HBE:=jH (show whereN (fun t=>!passM s.prog t) s.tests (k+1)=whereN (fun t=>!passM s.prog t) s.tests k++[(k:Int)] by rw [HWS.out,show passM s.prog (⟨qa,qn,qc,qx,qo,qw⟩:Tq).p=false from HPM.out];simp)
   have hbs:=HG4.out.sz;go_wp2_with (at_builtin;refine Classical.byContradiction (fun hcon=>?_));refine hcon ?_;clear hcon;refine zad _ rfl (.tmp 25) (.tmp 27) 61 rfl w.heap.size 3 underlying61 zga rfl (by decide) (by decide) encI zal zcx (.slice na (whereN (fun t=>!passM s.prog t) s.tests k).length nc) (whereN (fun t=>!passM s.prog t) s.tests k) rfl (((Grow.refl w4).alloc _).owns (HGW.out.owns HO.out)) _ (k:Int) 1 rfl (zbj w4 (encI (k:Int)) 3) HLB.out (by simp;omega) ?_
   intro v9 w9 hown9 hgr9;have hH9:Grow w w9:=zae (((Grow.refl w4).alloc (.cells (encI (k:Int)).toArray 3)).owns (HGW.out.owns HO.out)) hgr9 (Nat.le_refl _) (by simp;omega) (HG4.out.alloc _)
   obtain ⟨a9,c9,rfl⟩:∃ a c,v9=.slice a ((whereN (fun t=>!passM s.prog t) s.tests k).length+1) c:=by
    rcases hown9.2 with ⟨hv,h0⟩ | ⟨g,cap,cur,hv,_⟩
    ·simp at h0
    ·exact ⟨some ⟨g,0,none⟩,cap,by rw [hv];simp⟩
   have HW9:=jH hown9;have HH9:=jH hH9;clear hown9 hgr9 hH9;go_wp2_with fail;go_roundw
   case rel=>exact ⟨k+1,a9,c9,by omega,by rw [HBE.out,List.length_append,List.length_singleton],by go_num,HH9.out,by rw [HBE.out];simpa using HW9.out⟩
   case measure=>simp [intOf];omega
  ·
   have HPM:=jH hpm;clear hpm;go_wp2_with fail;refine hK.out _ _ (hH.trans hg4) ?_;clear hK K hH;intro hH;try simp only [nrm]
   clear hg4;refine tkA 10 (.bool false) rfl ?_ hH ?_
   ·intro w9 hw9;go_simp
   try simp only [nrm]
   refine wpAnyH_done (by kernel_rfl) ?_ _
   have HG4:=jH (HG.out.trans hH);have HO4:=jH (HO.out);have HGW:=jH hH;clear hH;have HBE:=jH (show whereN (fun t=>!passM s.prog t) s.tests (k+1)=whereN (fun t=>!passM s.prog t) s.tests k by rw [HWS.out,show passM s.prog (⟨qa,qn,qc,qx,qo,qw⟩:Tq).p=true from HPM.out];simp)
   go_wp2_with fail;go_roundw
   case rel=>exact ⟨k+1,na,nc,by omega,by rw [HBE.out],by go_num,HG4.out,by rw [HBE.out];exact HGW.out.owns HO.out⟩
   case measure=>simp [intOf];omega
theorem zjq {P:Program} {α:Type} {ops:Array Oper} {o:Oper} {a:Act} {w:World} {K:Act→World→Prop} {Q:Exit→Act→World→Prop} {E:Prop} (hgd:o.guard=none) (s x:Operand) (t:TypeId)
  (ho:o.op=.call { callee:=.builtin .append,args:=#[s,x],argTypes:=#[t,t] })
  (base:Nat) (e:TypeId) {k bytes:Nat} {z:Value} (ht:P.underlying t=some (.slice e)) (info:(P.info? e).map (fun i=>(i.zero,i.size,i.bytes))=some (some z,k,bytes))
  (hzs:z.cells.size=k) (hk:0<k) (hby:bytes≤1000)
  (enc:α→List Value) (hen:∀ x,(enc x).length=k) (h1:∀ x,∀ u∈enc x,u.oneCell'=true)
  (v:Value) (xs:List α) (hs:a.eval s=v) (hown:DRow w base e k v xs.length (xs.flatMap enc)) (ad:Addr) (y:α) (c:Nat) (hx:a.eval x=.slice (some ad) 1 c)
  (hnews:∀ j u,(enc y)[j]?=some u→w.cell? (ad.add j)=some u) (hn:xs.length<100000000000) (hbase:base≤w.heap.size)
  (h:∀ v' w',w'.ownsRow base e k v' (xs++[y]).length ((xs++[y]).flatMap enc)→w.grownBy w' v.ownBlock→(v'.ownBlock=v.ownBlock∨∀ b,v'.ownBlock=some b→w.heap.size≤b)→K (a.put o.dst v') w') :
  if Region.wanted o (yielded ops a.tmps)=true then Oper.wp P o a w K Q else E:=by
 have hw:Region.wanted o (yielded ops a.tmps)=true:=by simp [Region.wanted,hgd]
 rw [if_pos hw];obtain ⟨i,hi,hz0,hz1,hz2⟩:=info_parts info;have hb2:(xs.length+1) * bytes≤140737488355328:=Nat.le_trans (Nat.mul_le_mul (show xs.length+1≤100000000000 by omega) hby) (by decide)
 rcases hown with hown | ⟨g,cur,rfl,q1,q2,q3,q4,q5,q6⟩
 ·obtain ⟨v',w',hrun,a1,a2,_,a4⟩:=run_append_own_at (P:=P) w base t o.type e i z k bytes ht hi hz0 hz1 hz2 hzs hk v xs.length (xs.flatMap enc) hown ad 1 c (enc y) (by rw [hen];omega) hnews (h1 y) (by unfold maxLen;omega) hb2 hbase
  unfold Oper.wp;simp [execOp,ho,resolve,invoke,builtin,hs,hx,hrun,Result.andThen];refine h v' w' ?_ a2 (a4.imp id fun e b hb=>?_)
  ·rw [List.length_append,List.flatMap_append];simpa using a1
  ·rw [e] at hb;have:=Option.some.inj hb;omega
 ·obtain ⟨v',w',hrun,a1,a2⟩:=run_append_arg_grows (P:=P) w t o.type e i z k bytes ht hi hz0 hz1 hz2 hzs hk ⟨g,0,none⟩ xs.length xs.length (xs.flatMap enc) q3 (fun j u hu=>by
   rw [Addr.add_lit,Nat.zero_add,cell_of_row w g j cur e (0,0) q2];rw [← q6,List.getElem?_take] at hu
   split at hu
   ·simpa using hu
   ·cases hu) ad 1 c (enc y) (by rw [hen];omega) hnews (by omega) (by unfold maxLen;omega) hb2
  unfold Oper.wp;simp [execOp,ho,resolve,invoke,builtin,hs,hx,hrun,Result.andThen];refine h v' w' ?_ ⟨a2.os,a2.tape,a2.output,a2.size,fun b hb _=>a2.block b hb (by simp)⟩ (.inr fun b hb=>(a1.lt b hb).1)
  rw [List.length_append,List.flatMap_append];obtain ⟨b1,b2⟩:=a1;obtain ⟨g2,cap,cur2,c1,c2,c3,c4,c5,c6,c7⟩:=b2.resolve_left (by intro e;have:=e.2;omega)
  exact ⟨by simpa using b1,.inr ⟨g2,cap,cur2,by simpa using c1,Nat.le_trans hbase c2,c3,by simpa using c4,c5,c6,by simpa using c7⟩⟩
set_option maxRecDepth 100000
set_option maxHeartbeats 16000000
theorem zfo (xs:List Bool):xs.flatMap encT=xs.map Value.bool:=by
 induction xs with
 | nil=>rfl
 | cons x xs ih=>rw [List.flatMap_cons,ih];rfl
theorem zhp {cur:Array Value} {lock:List Bool} {n k:Nat} (h:cur.toList.take n=lock.flatMap encT):(cur.setIfInBounds k (.bool true)).toList.take n=(lock.set k true).flatMap encT:=by
 rw [Array.toList_setIfInBounds,List.take_set,h,zfo,zfo,List.map_set]
theorem DkAt.lock_at {base:Nat} {H:Nat→Bool} {B:Nat} {w:World} {s:Ds} (h:DkAt base H B w s) {V:V5} (hb:w.heap[B]?=some (.cells (dkCells V s) 46 (0,0))) (hr:DRows base H w V s) {k:Nat} (hk:k<s.lock.length) :
  ∃ g,V.la=some ⟨g,0,none⟩∧w.frozen? ⟨g,k,none⟩=false∧(∃ b,s.lock[k]?=some b∧w.cell? ⟨g,k,none⟩=some (.bool b))∧Dst H w H (w.setCell ⟨g,k,none⟩ (.bool true))∧DkAt base H B (w.setCell ⟨g,k,none⟩ (.bool true)) { s with lock:=s.lock.set k true }:=by
 obtain ⟨g,cur,hla,hg,hcell,hrow⟩:∃ g cur,V.la=some ⟨g,0,none⟩∧w.heap[g]?=some (.cells cur 4 (0,0))∧cur.toList.take s.lock.length=s.lock.flatMap encT∧DRow (w.setCell ⟨g,k,none⟩ (.bool true)) base 4 1 (.slice V.la s.lock.length V.lc) s.lock.length ((s.lock.set k true).flatMap encT):=by
  rcases hr.lk with ho | ⟨g,cur,e,q1,q2,q3,q4,q5,q6⟩
  ·obtain ⟨o1,⟨o2,o3⟩ | ⟨g,cap,cur,e,q1,q2,q3,q4,q5,q6⟩⟩:=ho
   ·omega
   ·have hla:V.la=some ⟨g,0,none⟩:=by injection e
    have hcap:V.lc=cap:=by injection e
    rw [Nat.mul_one] at q6;refine ⟨g,cur,hla,q2,q6,.inl ⟨?_,.inr ⟨g,cap,cur.setIfInBounds k (.bool true),e,q1,heap_setCell_same _ _ _ _ _ _ q2,q3,q4,by simpa using q5,?_⟩⟩⟩
    ·rw [zfo];simp
    ·rw [Nat.mul_one];exact zhp q6
  ·have hla:V.la=some ⟨g,0,none⟩:=by injection e
   rw [Nat.mul_one] at q6 q5;refine ⟨g,cur,hla,q2,q6,.inr ⟨g,cur.setIfInBounds k (.bool true),e,q1,heap_setCell_same _ _ _ _ _ _ q2,?_,q4,?_,?_⟩⟩
   ·rw [zfo];simp
   ·rw [Nat.mul_one];simpa using q5
   ·rw [Nat.mul_one];exact zhp q6
 have hHg:H g=true:=hr.hl ⟨g,0,none⟩ hla;have hgB:B≠g:=by rintro rfl;rw [hb] at hg;cases hg
 have hh:hideW H (w.setCell ⟨g,k,none⟩ (.bool true))=hideW H w:=zak (a:=⟨g,k,none⟩) hHg _;obtain ⟨b,hbk⟩:∃ b,s.lock[k]?=some b:=⟨_,List.getElem?_eq_getElem hk⟩;have hc:w.cell? ⟨g,k,none⟩=some (.bool b):=by
  rw [cell_of_row w g k cur 4 (0,0) hg];have h1:=congrArg (fun l=>l[k]?) hcell;simp only [List.getElem?_take,if_pos hk,zfo,List.getElem?_map,hbk,Option.map_some] at h1;simpa using h1
 have hbS:(w.setCell ⟨g,k,none⟩ (.bool true)).heap[B]?=some (.cells (dkCells V s) 46 (0,0)):=by
  rw [Below.heap_setCell _ _ _ _ (by exact hgB)];exact hb
 have kp:∀ {T:TypeId} {k2:Nat} {v:Value} {m:Nat} {xs:List Value},T≠4→DRow w base T k2 v m xs→DRow (w.setCell ⟨g,k,none⟩ (.bool true)) base T k2 v m xs:=fun h2 hd=>hd.set hg k _ h2;obtain ⟨L0,a1,a2,a3⟩:=hr.pr;obtain ⟨T0,b1,b2,b3⟩:=hr.ts;obtain ⟨M0,c1,c2,c3⟩:=hr.hi;refine ⟨g,hla,zac hg k,⟨b,hbk,hc⟩,⟨by rw [hh];exact Grow.refl _,fun _ _=>rfl,fun j cs hj=>?_⟩,h.hB,⟨fun j hj=>by have:=h.hid.bd j hj;simpa [World.setCell] using this,h.hid.lo⟩,V,?_,?_⟩
 ·rw [Below.heap_setCell _ _ _ _ (by intro e;have e2:j=g:=e;rw [e2,hg] at hj;cases hj)];exact hj
 ·rw [hbS];simp [dkCells]
 ·refine ⟨⟨L0,kp (by decide) a1,a2,fun t ht=>by rw [hh];exact a3 t ht⟩,⟨T0,kp (by decide) b1,b2,fun t ht=>by rw [hh];exact b3 t ht⟩,?_,⟨M0,kp (by decide) c1,c2,fun t ht=>by rw [hh];exact c3 t ht⟩,kp (by decide) hr.od,hr.hp,hr.ht,hr.hl,hr.hh,hr.ho⟩
  simpa using hrow
theorem zzj (base:Nat) (H:Nat→Bool) (B:Nat) (s:Bn) (ok:OkB s) (i:Int) (w:World) (hd:DkAt base H B w (dsB s)) (R:Ending→World→Prop)
  (hR:∀ w' H',Dst H w H' w'→DkAt base H' B w' (dsB (lockB s i).2)→R (.returned (.int .i64 (lockB s i).1)) w') :
  Calls Tryz.prog 78 #[.pointer (some ⟨B,0,none⟩),.string ⟨#[108,111,99,107]⟩,.int .i64 i] w R:=by
 have hE:∀ e s2,lockB s i=(e,s2)→∀ w' H',Dst H w H' w'→DkAt base H' B w' (dsB s2)→R (.returned (.int .i64 e)) w':=fun e s2 h w' H' h1 h2=>by
  have h3:=hR w' H' h1;rw [h] at h3;exact h3 h2
 have hS:∀ e,lockB s i=(e,s)→∀ w',Grow w w'→R (.returned (.int .i64 e)) w':=fun e h w' g=>hE e s h w' H (Dst.of_grow g) (hd.grow g);have HE:=jH hE;have HS:=jH hS;have HD:=jH hd;have HOK:=jH ok;have hne:(dsB s).progs≠[]:=by intro e;have h:=ok.len;have e2:s.progs=[]:=e;rw [e2] at h;simp at h
 have HNE:=jH hne;have HPD:=jH (show lockB s i=_ from by unfold lockB;rfl)
 obtain ⟨V,hbk,hr⟩:=hd.blk;obtain ⟨_,c1,c2,_⟩:=zaw hbk;have htl:(dsB s).tests.length=s.tests.length:=rfl;have hll:(dsB s).lock.length=s.tests.length:=zbl _ _;rw [htl] at c1;rw [hll] at c2;have HBK:=jH hbk;have HRR:=jH hr;clear hR hE hS hd ok hne hbk hr htl
 go_enter func78,ntmps78
 by_cases hi0:i<0
 ·have HF:=jH (HS.out 4 (HPD.out.trans (if_pos (.inl hi0))) w (Grow.refl w));have hi0z:decide (i<0)=true:=by rw [decide_eq_true_eq];exact hi0
  go_wp2_with fail;exact HF.out
 have hi0z:decide (i<0)=false:=by rw [decide_eq_false_iff_not];exact hi0
 by_cases hil:(s.tests.length:Int)≤i
 ·have HF:=jH (HS.out 4 (HPD.out.trans (if_pos (.inr hil))) w (Grow.refl w));have hilz:decide (i≥(s.tests.length:Int))=true:=by rw [decide_eq_true_eq];exact hil
  go_wp2_with fail;exact HF.out
 have hilz:decide (i≥(s.tests.length:Int))=false:=by rw [decide_eq_false_iff_not];exact hil
 have HPD1:=jH (HPD.out.trans (if_neg (by omega)))
 obtain ⟨k,rfl⟩:∃ k:Nat,i=k:=⟨i.toNat,by omega⟩
 have hkl:k<s.tests.length:=by omega
 have hkz:(k:Int)<(s.tests.length:Int):=by omega
 obtain ⟨g,hla,hfz,⟨q,hq,hcq⟩,hdst,hdk⟩:=HD.out.lock_at HBK.out HRR.out (k:=k) (by rw [hll];exact hkl)
 have hqe:q=s.lk.contains (k:Int):=by
  have h1:(dsB s).lock[k]?=some (s.lk.contains (k:Int)):=zed hkl;rw [h1] at hq;exact (Option.some.inj hq).symm
 rw [hla] at c2;have HDS:=jH hdst;have HDK:=jH hdk;have HQ:=jH hqe;have HLA:=jH hla;clear hq hdst hdk hqe hla hll;cases q with
 | true=>
  have HF:=jH (HS.out 5 (HPD1.out.trans (if_pos HQ.out.symm)) w (Grow.refl w));go_wp2_with fail;exact HF.out
 | false=>
  have HPD2:=jH (HPD1.out.trans (if_neg (by rw [← HQ.out];decide)))
  obtain ⟨T,hTs,hT⟩:=HRR.out.tests;obtain ⟨t,ht⟩:∃ t,(T.map Tq.t)[k]?=some t:=⟨_,List.getElem?_eq_getElem (by rw [List.length_map];have h:=congrArg List.length hTs;rw [List.length_map] at h;have h2:(dsB s).tests.length=s.tests.length:=rfl;omega)⟩
  obtain ⟨b2,o2,hab2,hb2,d0,d1,d2⟩:=zez hT.at_ ht;rw [hab2] at c1;have HI:=jH (hT.ins t (List.mem_of_getElem? ht));obtain ⟨q,hq,rfl⟩:∃ q,T[k]?=some q∧q.t=t:=by
   rw [List.getElem?_map] at ht;cases hq:T[k]? with
   | none=>rw [hq] at ht;cases ht
   | some q=>rw [hq] at ht;exact ⟨q,rfl,Option.some.inj ht⟩
  have hst:s.tests[k]?=some q.p:=by rw [show s.tests=T.map Tq.p from hTs.symm,List.getElem?_map,hq];rfl
  have HST:=jH hst;have HTO:=jH ((zcs.1 HOK.out.tst).2 q.p (List.mem_of_getElem? hst));obtain ⟨qa,qn,qc,qx,qo,qw⟩:=q;dsimp only [Tq.t] at d0 d1 d2 HI;clear hT hTs hab2 ht hq hst;go_wp2_with fail;refine wp_region_held_drew (S:=fun X=>Grow w X) (by kernel_rfl) ((Grow.refl w).drew) (fun hH=>?_)
  refine tkA 0 (.pointer (some ⟨B,0,none⟩)) rfl ?_ hH ?_
  ·intro w9 hw9;go_simp
  try simp only [nrm]
  refine tkA 2 (.pointer (some ⟨B,0,none⟩)) rfl ?_ hH ?_
  ·intro w9 hw9;go_simp
  try simp only [nrm]
  refine tkA 3 (.pointer (some ⟨B,0,none⟩)) rfl ?_ hH ?_
  ·intro w9 hw9;go_simp
  try simp only [nrm]
  refine tkA 4 (.pointer (some ⟨B,1,none⟩)) rfl ?_ hH ?_
  ·intro w9 hw9;go_simp
  try simp only [nrm]
  refine tkA 5 (.slice (some ⟨b2,o2,none⟩) s.tests.length V.tc) rfl ?_ hH ?_
  ·intro w9 hw9;have z9:=Grow.cell hw9 c1;go_simp
  try simp only [nrm]
  refine tkA 6 (.int .i64 (k:Nat)) rfl ?_ hH ?_
  ·intro w9 hw9;go_simp
  try simp only [nrm]
  refine tkA 7 (.pointer (some ⟨b2,o2+k * 3,none⟩)) rfl ?_ hH ?_
  ·intro w9 hw9;go_simp
  try simp only [nrm]
  refine tkA 8 (.agg #[.slice qa qn qc,.int .i64 qo,.int .i64 qw]) rfl ?_ hH ?_
  ·intro w9 hw9;have z0:=Grow.cell hw9 d0;have z1:=Grow.cell hw9 d1;have z2:=Grow.cell hw9 d2;go_simp
  try simp only [nrm]
  refine tk1 1 rfl fun K hK=>?_;go_simp;refine zcv base H B (dsB s) _ (HD.out.grow hH) HNE.out _ ?_;intro w3 v3 hg3 hv3;have HV3:=jH (show LinesAt w3 v3 s.prog from hv3.unhide);clear hv3;go_wp2_with fail;refine hK.out _ _ (hH.trans hg3) ?_;clear hK K hH;intro hH;try simp only [nrm]
  clear hg3;refine tk1 9 rfl fun K hK=>?_;go_simp;refine zdi s.prog ⟨.slice qa qn qc,qx,qo,qw⟩ v3 _ HV3.out (HI.out.grow hH) HOK.out.valp HTO.out _ ?_;intro w4 hg4;cases hpm:passM s.prog ⟨.slice qa qn qc,qx,qo,qw⟩
  ·
   have hmf:=zer HOK.out.chk HST.out;have HMF:=jH (show (k:Int)∈failB s.prog s.tests↔false=false from by rw [hmf];exact iff_of_eq (congrArg (·=false) (show passM s.prog (⟨qa,qn,qc,qx,qo,qw⟩:Tq).p=false from hpm)))
   clear hpm hmf;go_wp2_with fail;refine hK.out _ _ (hH.trans hg4) ?_;clear hK K hH;intro hH;try simp only [nrm]
   clear hg4;refine tkA 10 (.bool true) rfl ?_ hH ?_
   ·intro w9 hw9;go_simp
   try simp only [nrm]
   refine wpAnyH_done (by kernel_rfl) ?_ _
   have HF:=jH (HS.out 8 (HPD2.out.trans (if_pos (List.contains_iff_mem.2 (HMF.out.2 (by trivial))))) _ hH)
   clear hH;go_wp2_with fail;exact HF.out
  ·
   have hmf:=zer HOK.out.chk HST.out;have HMF:=jH (show (k:Int)∈failB s.prog s.tests↔true=false from by rw [hmf];exact iff_of_eq (congrArg (·=false) (show passM s.prog (⟨qa,qn,qc,qx,qo,qw⟩:Tq).p=true from hpm)))
   clear hpm hmf;go_wp2_with fail;refine hK.out _ _ (hH.trans hg4) ?_;clear hK K hH;intro hH;try simp only [nrm]
   clear hg4;refine tkA 10 (.bool false) rfl ?_ hH ?_
   ·intro w9 hw9;go_simp
   try simp only [nrm]
   refine wpAnyH_done (by kernel_rfl) ?_ _
   have HPD3:=jH (HPD2.out.trans (if_neg (fun h=>by have h2:=HMF.out.1 (List.contains_iff_mem.1 h);simp at h2)))
   have HG5:=jH hH;clear hH d0 d1 d2 c1 c2 hcq hfz;generalize w4=w5 at HG5 ⊢;obtain ⟨V5,hbk5,hr5⟩:=(HD.out.grow HG5.out).blk;obtain ⟨g5,hla5,hfz5,⟨q5,hq5,hc5⟩,hdst5,hdk5⟩:=(HD.out.grow HG5.out).lock_at hbk5 hr5 (k:=k) (by rw [show (dsB s).lock.length=s.tests.length from zbl _ _];exact hkl)
   obtain ⟨_,_,c2,_⟩:=zaw hbk5;rw [hla5,show (dsB s).lock.length=s.tests.length from zbl _ _] at c2;have hds:({ dsB s with lock:=(dsB s).lock.set k true }:Ds)=dsB { s with lk:=s.lk.take (rankI s.lk k)++(k:Int) :: s.lk.drop (rankI s.lk k) }:=by
    unfold dsB;dsimp only;rw [lkB_lock (by omega)]
    rfl
   rw [hds] at hdk5;have HF:=jH (HE.out 0 _ HPD3.out _ H ((Dst.of_grow HG5.out).trans hdst5) hdk5);clear hbk5 hr5 hla5 hq5 hdst5 hdk5 hds;go_wp2_with fail;exact HF.out
theorem zdy:(Tryz.prog.info? 4).map (fun i=>(i.zero,i.size,i.bytes))=some (some (.bool false),1,1):=by kernel_rfl
theorem zhi (b:Bool):∀ u∈encT b,u.oneCell'=true:=by intro u hu;simp [encT] at hu;subst hu;rfl
theorem zhr {α:Type} {k:Nat} {enc:α→List Value} {w:World} {a:Option Addr} {n c:Nat} {xs:List α} (h:SlcAt k enc w (.slice a n c) xs) {j:Nat} (hj:j≤xs.length):SlcAt k enc w (.slice a j c) (xs.take j):=by
 obtain ⟨_,_,e,h1,h2,h3⟩:=h;cases e;have hl:(xs.take j).length=j:=by rw [List.length_take];omega
 refine ⟨a,c,by rw [hl],by omega,h2,?_⟩
 rcases h3 with ⟨e,h3⟩ | ⟨b,o,rfl,hb,h3⟩
 ·exact .inl ⟨by rw [e];simp,h3⟩
 ·refine .inr ⟨b,o,rfl,hb,fun i x hx=>h3 i x ?_⟩;rw [List.getElem?_take] at hx
  split at hx
  ·exact hx
  ·cases hx
theorem zsa {α:Type} {k:Nat} {enc:α→List Value} {w:World} {g n c:Nat} {xs:List α} (h:SlcAt k enc w (.slice (some ⟨g,0,none⟩) n c) xs) {j z:Nat} (hj:j≤xs.length) (hz:(c=j∧z=0)∨(c≠j∧z=j * k)):SlcAt k enc w (.slice (some ⟨g,z,none⟩) (n - j) (c - j)) (xs.drop j):=by
 obtain ⟨_,_,e,h1,h2,h3⟩:=h;cases e;have hl:(xs.drop j).length=xs.length - j:=List.length_drop;refine ⟨_,c - j,by rw [hl],by omega,by omega,?_⟩
 rcases h3 with ⟨e,h3⟩ | ⟨b,o,e,hb,h3⟩
 ·exact .inl ⟨by rw [e];simp,fun h=>by cases h⟩
 ·cases e;rcases hz with ⟨h4,rfl⟩ | ⟨h4,rfl⟩
  ·have hx:xs.drop j=[]:=List.drop_eq_nil_of_le (by omega)
   exact .inl ⟨hx,fun h=>by cases h⟩
  ·refine .inr ⟨g,j * k,rfl,hb,fun i x hx l u hu=>?_⟩;rw [List.getElem?_drop] at hx;have:=h3 (j+i) x hx l u hu;rw [Nat.zero_add,Nat.add_mul] at this;exact this
theorem DRow.addr {w:World} {base:Nat} {T:TypeId} {k:Nat} {a:Option Addr} {n m c:Nat} {xs:List Value} (h:DRow w base T k (.slice a n c) m xs) (hn:0<m):∃ g,a=some ⟨g,0,none⟩:=by
 rcases h with h | ⟨g,cur,e,_⟩
 ·obtain ⟨_,⟨_,h0⟩ | ⟨g,cap,cur,e,_⟩⟩:=h
  ·omega
  ·cases e;exact ⟨g,rfl⟩
 ·cases e;exact ⟨g,rfl⟩
theorem dst_new {base:Nat} {H:Nat→Bool} {w w':World} (h:HidD base H w) (hb:base≤w.heap.size) (g:Grow w w') {T:TypeId} {k n:Nat} {v:Value} {xs:List Value} (ho:w'.ownsRow w.heap.size T k v n xs) :
  ∃ H',DstT T H w H' w'∧HidD base H' w'∧(∀ b,v.ownBlock=some b→H' b=true)∧DRow w' base T k v n xs:=by
 have g0:Below w.heap.size w w':=g;obtain ⟨H',d,hd,_,ow⟩:=zgp (T:=T) (v:=.slice none 0 0) (v':=v) h (fun b e=>by cases e) ⟨g0.os,g0.tape,g0.output,g.sz,fun k hk _=>g.heap hk⟩ (fun b e=>⟨Nat.le_trans hb (ho.lt b e).1,(ho.lt b e).2⟩) (.inr fun b e=>(ho.lt b e).1)
 exact ⟨H',d,hd,ow,.inl (zhu ho hb)⟩
theorem zdx {α:Type} (xs:List α) (k:Nat):xs.take k++xs.drop (k+1)=xs.eraseIdx k:=(List.eraseIdx_eq_take_drop_succ xs k).symm
set_option maxRecDepth 100000
set_option maxHeartbeats 4000000
theorem zis {α:Type} (L:List (Lo α)) (m:Nat):(L.flatMap encLo).take (m * 1)=(L.take m).flatMap encLo:=by
 have h:∀ L:List (Lo α),L.flatMap encLo=L.map Lo.v:=fun L=>by
  induction L with
  | nil=>rfl
  | cons x xs ih=>rw [List.flatMap_cons,ih];rfl
 rw [h,h,Nat.mul_one,List.map_take]
theorem zmt {α:Type} {k:Nat} {enc:α→List Value} {w:World} {a:Option Addr} {n c:Nat} {xs:List α} (h:SlcAt k enc w (.slice a n c) xs):n≤c∧c≤9223372036854775807:=by
 obtain ⟨_,_,e,h1,h2,_⟩:=h;cases e;exact ⟨h1,h2⟩
theorem zsz {α:Type} {k:Nat} {enc:α→List Value} {w:World} {a:Option Addr} {n c:Nat} {xs:List α} (h:SlcAt k enc w (.slice a n c) xs) (hne:xs≠[]):∃ ad,a=some ad:=by
 obtain ⟨_,_,e,_,_,h4⟩:=h;cases e;rcases h4 with h4 | ⟨b,o,e2,_⟩
 ·exact absurd h4.1 hne
 ·exact ⟨_,e2⟩
theorem zqe (base:Nat) (H:Nat→Bool) (B:Nat) (s:Bn) (ok:OkB s) (v:Value) (w:World) (hd:DkAt base H B w (dsB s)) (R:Ending→World→Prop)
  (hR:∀ w' H',Dst H w H' w'→DkAt base H' B w' (dsB (undoB s).2)→R (.returned (.int .i64 (undoB s).1)) w') :
  Calls Tryz.prog 39 #[.pointer (some ⟨B,0,none⟩),.string ⟨#[117,110,100,111]⟩,v] w R:=by
 have hE:∀ e s2,undoB s=(e,s2)→∀ w' H',Dst H w H' w'→DkAt base H' B w' (dsB s2)→R (.returned (.int .i64 e)) w':=fun e s2 h w' H' h1 h2=>by
  have h3:=hR w' H' h1;rw [h] at h3;exact h3 h2
 have hS:∀ e,undoB s=(e,s)→∀ w',Grow w w'→R (.returned (.int .i64 e)) w':=fun e h w' g=>hE e s h w' H (Dst.of_grow g) (hd.grow g);have HE:=jH hE;have HS:=jH hS;have HD:=jH hd;have HOK:=jH ok;have HPD:=jH (show undoB s=_ from by unfold undoB;rfl)
 obtain ⟨V,hbk,hr⟩:=hd.blk;obtain ⟨c0,_,_,c3,_⟩:=zaw hbk;have htl:(dsB s).hist.length=s.hist.length:=rfl;have hpl:(dsB s).progs.length=s.hist.length+1:=ok.len;rw [htl] at c3;rw [hpl] at c0;obtain ⟨L,hl,hLx,hat,hins⟩:=hr.progs;rw [hpl] at hl hat;have HL:=jH hl;have HAT:=jH hat;have HIN:=jH hins;have HLX:=jH (show L.map Lo.x=s.progs from hLx);have h8:=ok.h8;clear hR hE hS hd ok hbk hr htl hpl hl hat hins hLx
 go_enter func39,ntmps39
 by_cases h0:s.hist.length=0
 ·have HF:=jH (HS.out 8 (HPD.out.trans (if_pos h0)) w (Grow.refl w));rw [h0] at c3;go_wp2_with fail;exact HF.out
 have HPD1:=jH (HPD.out.trans (if_neg h0));obtain ⟨m,hm⟩:∃ m,s.hist.length=m+1:=⟨s.hist.length - 1,by omega⟩
 have HM:=jH hm;rw [hm] at c0 c3 h8;obtain ⟨t,ht⟩:∃ t,L[m]?=some t:=⟨_,List.getElem?_eq_getElem (by have:=HL.out;omega)⟩
 have hat2:=HAT.out;rw [hm] at hat2;obtain ⟨b,o,hpa,hbl,e0⟩:=lo_at hat2 ht;have hcp:=hat2.len_le;have hx:s.progs[m]?=some t.x:=by rw [← HLX.out,List.getElem?_map,ht];rfl
 have hval:valP t.x=0:=HOK.out.val _ (List.mem_of_getElem? hx);have HX:=jH hx;have HVAL:=jH hval;have HV:=jH (HIN.out t (List.mem_of_getElem? ht));have HPA:=jH hpa;rw [hpa] at c0;obtain ⟨tab,tn,tc,tx⟩:=t;dsimp only at e0 HX HVAL HV;have h0z:((((m+1:Nat)):Int) == 0)=false:=by rw [beq_eq_false_iff_ne];omega
 have hsub:IntKind.i64.wrap ((((m+1:Nat)):Int) - 1)=(m:Int):=by rw [show (((m+1:Nat)):Int) - 1=(m:Int) by omega];exact IntWalk.i64_in _ (by omega)
 have hsub2:((m:Int)+1) - 1=(m:Int):=by omega
 clear h0 hm hat2 ht hx hval hpa;go_wp2_with fail;refine zly base H B (dsB s) _ HD.out (zbl _ _) HOK.out.tst tx _ HV.out.unhide HVAL.out _ ?_;intro w1 q hg1 hq;have hbk:=zyv (p:=tx) (lk:=s.lk) (zef.2 ⟨HVAL.out,HOK.out.tst⟩) HOK.out.inr;have HQ:=jH (show q=true↔brkB tx s.tests s.lk=false from hq.trans hbk.symm);have hgd:(s.progs[s.hist.length - 1]?).getD []=tx:=by rw [HM.out,Nat.add_sub_cancel,HX.out];rfl
 have HGD:=jH hgd;have HG1:=jH hg1;clear hq hbk hgd c0 c3 e0 hg1;cases q with
 | false=>
  have HF:=jH (HS.out 6 (HPD1.out.trans (if_pos (by
   rw [HGD.out];cases hx:brkB tx s.tests s.lk with
   | true=>rfl
   | false=>have:=HQ.out.2 hx;cases this))) w1 HG1.out)
  go_wp2_with fail;exact HF.out
 | true=>
  have HPD2:=jH (HPD1.out.trans (if_neg (by rw [HGD.out,HQ.out.1 rfl];decide)))
  obtain ⟨V1,hbk1,hr1⟩:=(HD.out.grow HG1.out).blk;obtain ⟨c0,_⟩:=zaw hbk1;obtain ⟨L1,l1,l2,l3⟩:=hr1.pr;have hl1:(dsB s).progs.length=m+2:=by show s.progs.length=m+2;rw [HOK.out.len,HM.out]
  have hl2:L1.length=m+2:=by rw [← hl1,← l2,List.length_map]
  rw [hl1] at c0 l1;rw [hl2] at l1;have hp0:=hr1.hp;have hslc:=DRow.slc (xs:=L1) zaz (by rw [hl2];exact l1)
  have hpc:=zmt hslc;have hpn:=zsz hslc (by intro e;rw [e] at hl2;simp at hl2)
  obtain ⟨hpc1,hpc2⟩:=hpc;have hcut:=DRow.cut l1 (show m+1≤m+2 by omega)
  rw [zis] at hcut;have htk:(L1.take (m+1)).length=m+1:=by rw [List.length_take,hl2];omega
  have hset:=(HD.out.grow HG1.out).set_pr (DstT.of_grow _ (Grow.refl w1)) (HD.out.grow HG1.out).hid (L1.take (m+1)) V1.pa (m+1) (by rw [htk];exact hcut) hp0 (fun t ht=>l3 t (List.mem_of_mem_take ht))
  rw [htk,List.map_take,show L1.map Lo.x=s.progs from l2] at hset;have HST:=jH hset;have z0:=zac hbk1 0;have hcz:¬ ((V1.pc:Int)<((m+1:Nat):Int)):=by omega
  obtain ⟨pad,hpad⟩:=hpn;rw [hpad] at c0 HST;clear hbk1 hr1 l1 l2 l3 hl1 hl2 hp0 hcut htk hset hpad hslc
  go_upto_region 16 with fail
  change Code.wp _ _ _ _ (w1.setCell ⟨B,0,none⟩ (.slice (some pad) (m+1) (m+1)));obtain ⟨w3,hw3⟩:∃ z:World,z=w1.setCell ⟨B,0,none⟩ (.slice (some pad) (m+1) (m+1)):=⟨_,rfl⟩;rw [← hw3] at HST ⊢;have hd3:=HST.out.2;obtain ⟨V3,hbk3,hr3⟩:=hd3.blk;obtain ⟨_,_,_,c3,_⟩:=zaw hbk3;obtain ⟨M,m1,m2,m3⟩:=hr3.hi;have hq1:({ dsB s with progs:=s.progs.take (m+1) }:Ds).hist.length=m+1:=HM.out;have hq2:M.length=m+1:=by rw [← hq1,← m2,List.length_map]
  rw [hq1] at c3 m1;rw [hq2] at m1;have hslc:=DRow.slc (xs:=M) zaz (by rw [hq2];exact m1)
  obtain ⟨hpc1,hpc2⟩:=zmt hslc;obtain ⟨had,hhad⟩:=zsz hslc (by intro e;rw [e] at hq2;simp at hq2)
  have hcut:=DRow.cut m1 (show m≤m+1 by omega)
  rw [zis] at hcut;have htk:(M.take m).length=m:=by rw [List.length_take,hq2];omega
  have hset:=hd3.set_hi (DstT.of_grow _ (Grow.refl w3)) hd3.hid (M.take m) V3.ha m (by rw [htk];exact hcut) hr3.hh (fun t ht=>m3 t (List.mem_of_mem_take ht))
  rw [htk,List.map_take,show M.map Lo.x=s.hist from m2,hhad] at hset;rw [hhad] at c3;have z3:=zac hbk3 3;have hpu:=HPD2.out;rw [HM.out,Nat.add_sub_cancel] at hpu;have HF:=jH (HE.out 0 _ hpu _ H (((Dst.of_grow HG1.out).trans HST.out.1).trans hset.1) hset.2);clear hw3 hd3 hbk3 hr3 m1 m2 m3 hq1 hq2 hslc hcut htk hset hpu hhad z0 c0;go_wp2_with fail;exact HF.out
set_option maxRecDepth 100000
set_option maxHeartbeats 16000000
theorem zfh {P:Program} {α:Type} {ops:Array Oper} {o:Oper} {a:Act} {W:World} {K:Act→World→Prop} {Q:Exit→Act→World→Prop} {E:Prop} (hgd:o.guard=none) (s x:Operand) (t:TypeId)
  (ho:o.op=.call { callee:=.builtin .append,args:=#[s,x],argTypes:=#[t,t] })
  (e:TypeId) {k bytes:Nat} {z:Value} (ht:P.underlying t=some (.slice e)) (info:(P.info? e).map (fun i=>(i.zero,i.size,i.bytes))=some (some z,k,bytes))
  (hzs:z.cells.size=k) (hk:0<k) (hby:bytes≤1000)
  (enc:α→List Value) (hen:∀ x,(enc x).length=k) (h1:∀ x,∀ u∈enc x,u.oneCell'=true)
  (hs:a.eval s=.slice (some ⟨W.heap.size,0,none⟩) 0 0) (u:Value) (ys:List α) (hx:a.eval x=u) (hsrc:SlcAt k enc W u ys) (hn:ys.length<100000000000)
  (h:∀ v' w',Grow W w'→w'.ownsRow W.heap.size e k v' ys.length (ys.flatMap enc)→K (a.put o.dst v') w') :
  if Region.wanted o (yielded ops a.tmps)=true then Oper.wp P o a (W.alloc (.cells #[] e)) K Q else E:=
 zec hgd s x t ho W.heap.size e ht info hzs hk hby enc hen h1 _ [] hs (zah W k e enc _ (Nat.le_refl _)) u ys hx (hsrc.grow ((Grow.refl W).alloc _)) (by simpa using hn) (by rw [World.size_alloc];omega) fun v' w' h1 h2 _=>h v' w' (zae (zah (α:=α) W k e enc _ (Nat.le_refl _)) h2 (Nat.le_refl _) (by rw [World.size_alloc];omega) ((Grow.refl W).alloc _)) (by simpa using h1)
theorem zgh {P:Program} {α:Type} {ops:Array Oper} {o:Oper} {a:Act} {W wA:World} {K:Act→World→Prop} {Q:Exit→Act→World→Prop} {E:Prop} (hgd:o.guard=none) (s x:Operand) (t:TypeId)
  (ho:o.op=.call { callee:=.builtin .append,args:=#[s,x],argTypes:=#[t,t] })
  (e:TypeId) {k bytes:Nat} {z:Value} (ht:P.underlying t=some (.slice e)) (info:(P.info? e).map (fun i=>(i.zero,i.size,i.bytes))=some (some z,k,bytes))
  (hzs:z.cells.size=k) (hk:0<k) (hby:bytes≤1000)
  (enc:α→List Value) (hen:∀ x,(enc x).length=k) (h1:∀ x,∀ u∈enc x,u.oneCell'=true)
  (hg:Grow W wA) (v:Value) (xs:List α) (hs:a.eval s=v) (hown:wA.ownsRow W.heap.size e k v xs.length (xs.flatMap enc)) (u:Value) (ys:List α) (hx:a.eval x=u) (hsrc:SlcAt k enc W u ys) (hn:(xs++ys).length<100000000000)
  (h:∀ v' w',Grow W w'→w'.ownsRow W.heap.size e k v' (xs++ys).length ((xs++ys).flatMap enc)→K (a.put o.dst v') w') :
  if Region.wanted o (yielded ops a.tmps)=true then Oper.wp P o a wA K Q else E:=
 zec hgd s x t ho W.heap.size e ht info hzs hk hby enc hen h1 v xs hs hown u ys hx (hsrc.grow hg) (by rwa [List.length_append] at hn) hg.sz fun v' w' h1 h2 _=>h v' w' (zae hown h2 (Nat.le_refl _) hg.sz hg) h1
theorem DkAt.lay_ts {base:Nat} {H:Nat→Bool} {B:Nat} {w wB:World} {s:Ds} (h:DkAt base H B w s) (hbs:base≤w.heap.size) {L:List Tq} {v:Value} (g:Grow w wB) (ho:wB.ownsRow w.heap.size 63 3 v L.length (L.flatMap encTq)) (hins:∀ q∈L,IntsAt (hideW H w) (.slice q.a q.n q.c) q.xs) :
  ∃ a m c H9,v=.slice a m c∧(Dst H w H9 (wB.setCell ⟨B,1,none⟩ (.slice a m c))∧DkAt base H9 B (wB.setCell ⟨B,1,none⟩ (.slice a m c)) { s with tests:=L.map Tq.p })∧wB.frozen? ⟨B,1,none⟩=false∧∃ u,wB.cell? ⟨B,1,none⟩=some u:=by
 obtain ⟨H9,d9,hid9,ow9,row9⟩:=dst_new h.hid hbs g ho;obtain ⟨a,c,rfl,_⟩:=zaa zat ho;obtain ⟨V,hb,_⟩:=h.blk;have hb2:=g.blk hb;have hset:=h.set_ts d9 hid9 L a c row9 (fun ad e=>ow9 ad.block (by rw [e];rfl)) (fun q hq=>(hins q hq).grow d9.g)
 exact ⟨a,L.length,c,H9,rfl,hset,zac hb2 1,_,(zaw hb2).2.1⟩
theorem DkAt.lay_lk {base:Nat} {H:Nat→Bool} {B:Nat} {w wB:World} {s:Ds} (h:DkAt base H B w s) (hbs:base≤w.heap.size) {L:List Bool} {v:Value} (g:Grow w wB) (ho:wB.ownsRow w.heap.size 4 1 v L.length (L.flatMap encT)) :
  ∃ a m c H9,v=.slice a m c∧(Dst H w H9 (wB.setCell ⟨B,2,none⟩ (.slice a m c))∧DkAt base H9 B (wB.setCell ⟨B,2,none⟩ (.slice a m c)) { s with lock:=L })∧wB.frozen? ⟨B,2,none⟩=false∧∃ u,wB.cell? ⟨B,2,none⟩=some u:=by
 obtain ⟨H9,d9,hid9,ow9,row9⟩:=dst_new h.hid hbs g ho;obtain ⟨a,c,rfl,_⟩:=zaa zdq ho;obtain ⟨V,hb,_⟩:=h.blk;have hb2:=g.blk hb;have hset:=h.set_lk d9 hid9 L a c row9 (fun ad e=>ow9 ad.block (by rw [e];rfl))
 exact ⟨a,L.length,c,H9,rfl,hset,zac hb2 2,_,(zaw hb2).2.2.1⟩
theorem zqh (base:Nat) (H:Nat→Bool) (B:Nat) (s:Bn) (ok:OkB s) (i:Int) (w:World) (hd:DkAt base H B w (dsB s)) (hbase:base≤w.heap.size) (R:Ending→World→Prop)
  (hR:∀ w' H',Dst H w H' w'→DkAt base H' B w' (dsB (forgetB s i).2)→R (.returned (.int .i64 (forgetB s i).1)) w') :
  Calls Tryz.prog 78 #[.pointer (some ⟨B,0,none⟩),.string ⟨#[102,111,114,103,101,116]⟩,.int .i64 i] w R:=by
 have hE:∀ e s2,forgetB s i=(e,s2)→∀ w' H',Dst H w H' w'→DkAt base H' B w' (dsB s2)→R (.returned (.int .i64 e)) w':=fun e s2 h w' H' h1 h2=>by
  have h3:=hR w' H' h1;rw [h] at h3;exact h3 h2
 have hS:∀ e,forgetB s i=(e,s)→∀ w',Grow w w'→R (.returned (.int .i64 e)) w':=fun e h w' g=>hE e s h w' H (Dst.of_grow g) (hd.grow g);have HE:=jH hE;have HS:=jH hS;have HD:=jH hd;have HOK:=jH ok;have HBS:=jH hbase;have HPD:=jH (show forgetB s i=_ from by unfold forgetB;rfl)
 obtain ⟨V,hbk,hr⟩:=hd.blk;obtain ⟨_,c1,c2,_⟩:=zaw hbk;have htl:(dsB s).tests.length=s.tests.length:=rfl;have hll:(dsB s).lock.length=s.tests.length:=zbl _ _;rw [htl] at c1;rw [hll] at c2;have HBK:=jH hbk;have HRR:=jH hr;have ht8:=ok.t8;have HT8:=jH ht8;clear hR hE hS hd ok hbase hbk hr htl ht8
 go_enter func78,ntmps78
 by_cases hi0:i<0
 ·have HF:=jH (HS.out 4 (HPD.out.trans (if_pos (.inl hi0))) w (Grow.refl w));have hi0z:decide (i<0)=true:=by rw [decide_eq_true_eq];exact hi0
  go_wp2_with fail;exact HF.out
 have hi0z:decide (i<0)=false:=by rw [decide_eq_false_iff_not];exact hi0
 by_cases hil:(s.tests.length:Int)≤i
 ·have HF:=jH (HS.out 4 (HPD.out.trans (if_pos (.inr hil))) w (Grow.refl w));have hilz:decide (i≥(s.tests.length:Int))=true:=by rw [decide_eq_true_eq];exact hil
  go_wp2_with fail;exact HF.out
 have hilz:decide (i≥(s.tests.length:Int))=false:=by rw [decide_eq_false_iff_not];exact hil
 have HPD1:=jH (HPD.out.trans (if_neg (by omega)))
 obtain ⟨k,rfl⟩:∃ k:Nat,i=k:=⟨i.toNat,by omega⟩
 have hkl:k<s.tests.length:=by omega
 have hkz:(k:Int)<(s.tests.length:Int):=by omega
 obtain ⟨g,hla,hfz,⟨q,hq,hcq⟩,_,_⟩:=HD.out.lock_at HBK.out HRR.out (k:=k) (by rw [hll];exact hkl)
 have hqe:q=s.lk.contains (k:Int):=by
  have h1:(dsB s).lock[k]?=some (s.lk.contains (k:Int)):=zed hkl;rw [h1] at hq;exact (Option.some.inj hq).symm
 rw [hla] at c2;have HQ:=jH hqe;have HLA:=jH hla;clear hq hqe hla hll hfz;cases q with
 | true=>
  have HF:=jH (HS.out 8 (HPD1.out.trans (if_pos HQ.out.symm)) w (Grow.refl w));go_wp2_with fail;exact HF.out
 | false=>
  have HPD2:=jH (HPD1.out.trans (if_neg (by rw [← HQ.out];decide)))
  obtain ⟨T,t1,t2,t3⟩:=HRR.out.ts;have htp:T.map Tq.p=s.tests:=t2;have hTl:T.length=s.tests.length:=by rw [← htp,List.length_map]
  obtain ⟨g0,hta⟩:=DRow.addr t1 (by omega)
  have hTA:=DRow.slc zat t1;rw [show (dsB s).tests.length=s.tests.length from rfl,hta] at hTA;rw [hta] at c1;have hcp:=zmt hTA;obtain ⟨z1,hz1⟩:∃ z,(V.tc=k+1∧z=0)∨(V.tc≠k+1∧z=(k+1) * 3):=by
   by_cases h:V.tc=k+1
   ·exact ⟨0,.inl ⟨h,rfl⟩⟩
   ·exact ⟨_,.inr ⟨h,rfl⟩⟩
  have HTK:=jH (zhr (j:=k) hTA (by omega))
  have HTD:=jH (zsa (j:=k+1) hTA (by omega) hz1)
  have HZ1:=jH hz1;have HTI:=jH t3;have HTP:=jH htp;have HC1:=jH c1;obtain ⟨tc,htc⟩:∃ z,V.tc=z:=⟨_,rfl⟩;rw [htc] at c1 hcp HTK HTD HZ1 HC1;obtain ⟨hcp1,hcp2⟩:=hcp;have hln:(T.take k++T.drop (k+1)).length<100000000000:=by rw [List.length_append,List.length_take,List.length_drop];have:=HT8.out;omega
  have HLN:=jH hln;have hadd:IntKind.i64.wrap ((k:Int)+1)=((k+1:Nat):Int):=by rw [show (k:Int)+1=((k+1:Nat):Int) by omega];exact IntWalk.i64_in _ (by omega)
  have hkn:(k:Int)≤(s.tests.length:Int):=by omega
  have hkc:(k:Int)≤(tc:Int):=by omega
  have hk1:((k+1:Nat):Int)≤(s.tests.length:Int):=by omega
  have hk0:(0:Int)≤(k:Int)+1:=by omega
  have hk2:¬ ((s.tests.length:Int)<(k:Int)+1):=by omega
  clear hz1 htp t1 t2 t3 hTA hta htc hTl hln
  go_upto_region 12 with fail
  go_cut [6] from 51 to 69 (fun s6 wx=>s6=.int .i64 0∧∃ H1,Dst H w H1 wx∧DkAt base H1 B wx { dsB s with tests:=s.tests.eraseIdx k })
  case first=>
   go_wp2_with fail;refine wp_region_held_drew (S:=fun X=>True) (by kernel_rfl) trivial (fun hH=>?_)
   obtain ⟨W,hWe⟩:∃ W:World,W=w.drew:=⟨_,rfl⟩;have HGW:=jH (show Grow w W by rw [hWe];exact (Grow.refl w).drew)
   rw [← hWe];clear hWe;have HTW:=jH (HTK.out.grow HGW.out);have HDW:=jH (HTD.out.grow HGW.out);refine tkA 0 (.pointer (some ⟨B,0,none⟩)) rfl ?_ hH ?_
   ·intro w9 hw9;go_simp
   try simp only [nrm]
   refine tkA 2 (.pointer (some ⟨B,0,none⟩)) rfl ?_ hH ?_
   ·intro w9 hw9;go_simp
   try simp only [nrm]
   refine tkA 3 (.pointer (some ⟨B,0,none⟩)) rfl ?_ hH ?_
   ·intro w9 hw9;go_simp
   try simp only [nrm]
   refine tkA 4 (.pointer (some ⟨B,1,none⟩)) rfl ?_ hH ?_
   ·intro w9 hw9;go_simp
   try simp only [nrm]
   refine tkA 6 (.int .i64 (k:Int)) rfl ?_ hH ?_
   ·intro w9 hw9;go_simp
   try simp only [nrm]
   refine tkA 9 (.pointer (some ⟨B,0,none⟩)) rfl ?_ hH ?_
   ·intro w9 hw9;go_simp
   try simp only [nrm]
   refine tkA 10 (.pointer (some ⟨B,0,none⟩)) rfl ?_ hH ?_
   ·intro w9 hw9;go_simp
   try simp only [nrm]
   refine tkA 11 (.pointer (some ⟨B,1,none⟩)) rfl ?_ hH ?_
   ·intro w9 hw9;go_simp
   try simp only [nrm]
   refine tkA 13 (.int .i64 (k:Int)) rfl ?_ hH ?_
   ·intro w9 hw9;go_simp
   try simp only [nrm]
   refine tkA 14 (.int .i64 ((k+1:Nat):Int)) rfl ?_ hH ?_
   ·intro w9 hw9;go_simp
   try simp only [nrm]
   clear hH
   apply zge
   rotate_left
   ·intro key1
    apply zge
    rotate_left
    ·intro key0;have hH:True:=trivial;refine wpAnyH_ready (rs:=[1,5,12]) (by kernel_rfl) (by simp) ?_
     refine AllReadyH.cons rfl (fun K hK=>?_) (AllReadyH.cons rfl (fun K hK=>?_) (AllReadyH.cons rfl (fun K hK=>?_) (AllReadyH.nil)))
     ·
      go_simp;refine hK.out _ _ trivial ?_;clear hK K hH;intro hH;try simp only [nrm]
      refine tk2 5 12 rfl rfl (fun K hK=>?_) fun K hK=>?_
      ·
       have c9:=Grow.cell (HGW.out.alloc (.cells #[] 63)) HC1.out;go_simp;refine hK.out _ _ trivial ?_;clear hK K hH;intro hH;try simp only [nrm]
       clear c9;refine tkA 7 (.slice (some ⟨g0,0,none⟩) k tc) rfl ?_ hH ?_
       ·intro w9 hw9;go_simp
       try simp only [nrm]
       exact key0.out
      ·
       have c9:=Grow.cell (HGW.out.alloc (.cells #[] 63)) HC1.out;go_simp;refine hK.out _ _ trivial ?_;clear hK K hH;intro hH;try simp only [nrm]
       clear c9;refine tkA 15 (.slice (some ⟨g0,z1,none⟩) (s.tests.length - (k+1)) (tc - (k+1))) rfl ?_ hH ?_
       ·intro w9 hw9;rcases HZ1.out with ⟨y1,y2⟩ | ⟨y1,y2⟩<;>(subst y2;go_simp)
       try simp only [nrm]
       refine tk1 5 rfl fun K hK=>?_;have c9:=Grow.cell (HGW.out.alloc (.cells #[] 63)) HC1.out;go_simp;refine hK.out _ _ trivial ?_;clear hK K hH;intro hH;try simp only [nrm]
       clear c9;refine tkA 7 (.slice (some ⟨g0,0,none⟩) k tc) rfl ?_ hH ?_
       ·intro w9 hw9;go_simp
       try simp only [nrm]
       exact key1.out
     ·
      have c9:=Grow.cell HGW.out HC1.out;go_simp;refine hK.out _ _ trivial ?_;clear hK K hH;intro hH;try simp only [nrm]
      clear c9;refine tkA 7 (.slice (some ⟨g0,0,none⟩) k tc) rfl ?_ hH ?_
      ·intro w9 hw9;go_simp
      try simp only [nrm]
      refine tk2 1 12 rfl rfl (fun K hK=>?_) fun K hK=>?_
      ·
       go_simp;refine hK.out _ _ trivial ?_;clear hK K hH;intro hH;try simp only [nrm]
       exact key0.out
      ·
       have c9:=Grow.cell HGW.out HC1.out;go_simp;refine hK.out _ _ trivial ?_;clear hK K hH;intro hH;try simp only [nrm]
       clear c9;refine tkA 15 (.slice (some ⟨g0,z1,none⟩) (s.tests.length - (k+1)) (tc - (k+1))) rfl ?_ hH ?_
       ·intro w9 hw9;rcases HZ1.out with ⟨y1,y2⟩ | ⟨y1,y2⟩<;>(subst y2;go_simp)
       try simp only [nrm]
       refine tk1 1 rfl fun K hK=>?_;go_simp;refine hK.out _ _ trivial ?_;clear hK K hH;intro hH;try simp only [nrm]
       exact key1.out
     ·
      have c9:=Grow.cell HGW.out HC1.out;go_simp;refine hK.out _ _ trivial ?_;clear hK K hH;intro hH;try simp only [nrm]
      clear c9;refine tkA 15 (.slice (some ⟨g0,z1,none⟩) (s.tests.length - (k+1)) (tc - (k+1))) rfl ?_ hH ?_
      ·intro w9 hw9;rcases HZ1.out with ⟨y1,y2⟩ | ⟨y1,y2⟩<;>(subst y2;go_simp)
      try simp only [nrm]
      refine tk2 1 5 rfl rfl (fun K hK=>?_) fun K hK=>?_
      ·
       go_simp;refine hK.out _ _ trivial ?_;clear hK K hH;intro hH;try simp only [nrm]
       refine tk1 5 rfl fun K hK=>?_;have c9:=Grow.cell (HGW.out.alloc (.cells #[] 63)) HC1.out;go_simp;refine hK.out _ _ trivial ?_;clear hK K hH;intro hH;try simp only [nrm]
       clear c9;refine tkA 7 (.slice (some ⟨g0,0,none⟩) k tc) rfl ?_ hH ?_
       ·intro w9 hw9;go_simp
       try simp only [nrm]
       exact key1.out
      ·
       have c9:=Grow.cell HGW.out HC1.out;go_simp;refine hK.out _ _ trivial ?_;clear hK K hH;intro hH;try simp only [nrm]
       clear c9;refine tkA 7 (.slice (some ⟨g0,0,none⟩) k tc) rfl ?_ hH ?_
       ·intro w9 hw9;go_simp
       try simp only [nrm]
       refine tk1 1 rfl fun K hK=>?_;go_simp;refine hK.out _ _ trivial ?_;clear hK K hH;intro hH;try simp only [nrm]
       exact key1.out
    ·
     have hH:True:=trivial;refine tk2 8 12 rfl rfl (fun K hK=>?_) fun K hK=>?_
     ·
      refine zfh rfl (.tmp 52) (.tmp 58) 42 rfl 63 underlying42 zbz rfl (by decide) (by decide) encTq zat zcb (by simp [Act.eval]) _ (T.take k) (by simp [Act.eval]) HTW.out (by have h1:=HLN.out;rw [List.length_append] at h1;omega) ?_
      intro vA wA hA oA;have HGWA:=jH hA;have HOA:=jH oA;have HGA:=jH (HGW.out.trans hA);clear hA oA;refine hK.out _ _ trivial ?_;clear hK K hH;intro hH;try simp only [nrm]
      refine tk1 12 rfl fun K hK=>?_;have c9:=Grow.cell HGA.out HC1.out;go_simp;refine hK.out _ _ trivial ?_;clear hK K hH;intro hH;try simp only [nrm]
      clear c9;refine tkA 15 (.slice (some ⟨g0,z1,none⟩) (s.tests.length - (k+1)) (tc - (k+1))) rfl ?_ hH ?_
      ·intro w9 hw9;rcases HZ1.out with ⟨y1,y2⟩ | ⟨y1,y2⟩<;>(subst y2;go_simp)
      try simp only [nrm]
      refine tk1 16 rfl fun K hK=>?_;refine zgh rfl (.tmp 59) (.tmp 66) 42 rfl 63 underlying42 zbz rfl (by decide) (by decide) encTq zat zcb HGWA.out vA (T.take k) (by simp [Act.eval]) HOA.out _ (T.drop (k+1)) (by simp [Act.eval]) HDW.out HLN.out ?_
      intro vB wB hB oB;obtain ⟨aB,m9,cB,H9,rfl,hst,z9,u9,e9⟩:=(HD.out.grow HGW.out).lay_ts (Nat.le_trans HBS.out HGW.out.sz) hB oB (fun q hq=>(HTI.out q ((List.mem_append.1 hq).elim List.mem_of_mem_take List.mem_of_mem_drop)).grow (HGW.out.hid H));have HST:=jH hst;clear hB oB hst;refine hK.out _ _ trivial ?_;clear hK K hH;intro hH;try simp only [nrm]
      refine tkA 17 (.pointer (some ⟨B,0,none⟩)) rfl ?_ hH ?_
      ·intro w9 hw9;go_simp
      try simp only [nrm]
      refine tkA 18 (.pointer (some ⟨B,1,none⟩)) rfl ?_ hH ?_
      ·intro w9 hw9;go_simp
      try simp only [nrm]
      refine tk1 19 rfl fun K hK=>?_;go_simp;refine hK.out _ _ trivial ?_;clear hK K hH;intro hH;try simp only [nrm]
      clear e9 z9;refine wpAnyH_done (by kernel_rfl) ?_ _
      clear hH;go_wp2_with fail;go_meet;have hT9:(T.take k++T.drop (k+1)).map Tq.p=s.tests.eraseIdx k:=by rw [List.map_append,List.map_take,List.map_drop,HTP.out,zdx]
      have hs9:=HST.out.2;rw [hT9] at hs9;exact ⟨rfl,H9,(Dst.of_grow HGW.out).trans HST.out.1,hs9⟩
     ·
      have c9:=Grow.cell (HGW.out.alloc (.cells #[] 63)) HC1.out;go_simp;refine hK.out _ _ trivial ?_;clear hK K hH;intro hH;try simp only [nrm]
      clear c9;refine tkA 15 (.slice (some ⟨g0,z1,none⟩) (s.tests.length - (k+1)) (tc - (k+1))) rfl ?_ hH ?_
      ·intro w9 hw9;rcases HZ1.out with ⟨y1,y2⟩ | ⟨y1,y2⟩<;>(subst y2;go_simp)
      try simp only [nrm]
      exact key1.out
   ·
    have hH:True:=trivial;refine tk1 8 rfl fun K hK=>?_;refine zfh rfl (.tmp 52) (.tmp 58) 42 rfl 63 underlying42 zbz rfl (by decide) (by decide) encTq zat zcb (by simp [Act.eval]) _ (T.take k) (by simp [Act.eval]) HTW.out (by have h1:=HLN.out;rw [List.length_append] at h1;omega) ?_
    intro vA wA hA oA;have HGWA:=jH hA;have HOA:=jH oA;have HGA:=jH (HGW.out.trans hA);clear hA oA;refine hK.out _ _ trivial ?_;clear hK K hH;intro hH;try simp only [nrm]
    refine tk1 16 rfl fun K hK=>?_;refine zgh rfl (.tmp 59) (.tmp 66) 42 rfl 63 underlying42 zbz rfl (by decide) (by decide) encTq zat zcb HGWA.out vA (T.take k) (by simp [Act.eval]) HOA.out _ (T.drop (k+1)) (by simp [Act.eval]) HDW.out HLN.out ?_
    intro vB wB hB oB;obtain ⟨aB,m9,cB,H9,rfl,hst,z9,u9,e9⟩:=(HD.out.grow HGW.out).lay_ts (Nat.le_trans HBS.out HGW.out.sz) hB oB (fun q hq=>(HTI.out q ((List.mem_append.1 hq).elim List.mem_of_mem_take List.mem_of_mem_drop)).grow (HGW.out.hid H));have HST:=jH hst;clear hB oB hst;refine hK.out _ _ trivial ?_;clear hK K hH;intro hH;try simp only [nrm]
    refine tkA 17 (.pointer (some ⟨B,0,none⟩)) rfl ?_ hH ?_
    ·intro w9 hw9;go_simp
    try simp only [nrm]
    refine tkA 18 (.pointer (some ⟨B,1,none⟩)) rfl ?_ hH ?_
    ·intro w9 hw9;go_simp
    try simp only [nrm]
    refine tk1 19 rfl fun K hK=>?_;go_simp;refine hK.out _ _ trivial ?_;clear hK K hH;intro hH;try simp only [nrm]
    clear e9 z9;refine wpAnyH_done (by kernel_rfl) ?_ _
    clear hH;go_wp2_with fail;go_meet;have hT9:(T.take k++T.drop (k+1)).map Tq.p=s.tests.eraseIdx k:=by rw [List.map_append,List.map_take,List.map_drop,HTP.out,zdx]
    have hs9:=HST.out.2;rw [hT9] at hs9;exact ⟨rfl,H9,(Dst.of_grow HGW.out).trans HST.out.1,hs9⟩
  case rest=>
   obtain ⟨rfl,H1,hdst,hd1⟩:=hcut;have HDST:=jH hdst;have HD1:=jH hd1;have hbs:base≤wc.heap.size:=Nat.le_trans HBS.out hdst.sz;have HBS1:=jH hbs;obtain ⟨V1,hbk1,hr1⟩:=hd1.blk;obtain ⟨_,_,c2',_⟩:=zaw hbk1;obtain ⟨LK,hLK⟩:∃ z,lkB s.tests.length s.lk=z:=⟨_,rfl⟩;have hkk:({ dsB s with tests:=s.tests.eraseIdx k }:Ds).lock=LK:=hLK;have hLl:LK.length=s.tests.length:=by rw [← hLK];exact zbl _ _
   have t1:DRow wc base 4 1 (.slice V1.la LK.length V1.lc) LK.length (LK.flatMap encT):=by
    have h:=hr1.lk;rw [hkk] at h;exact h
   rw [hkk,hLl] at c2';obtain ⟨g1,hla1⟩:=DRow.addr t1 (by omega)
   have hTA:=DRow.slc zdq t1;rw [hla1,hLl] at hTA;rw [hla1] at c2';have hcp:=zmt hTA;obtain ⟨z2,hz2⟩:∃ z,(V1.lc=k+1∧z=0)∨(V1.lc≠k+1∧z=(k+1) * 1):=by
    by_cases h:V1.lc=k+1
    ·exact ⟨0,.inl ⟨h,rfl⟩⟩
    ·exact ⟨_,.inr ⟨h,rfl⟩⟩
   have HTK1:=jH (zhr (j:=k) hTA (by omega))
   have HTD1:=jH (zsa (j:=k+1) hTA (by omega) hz2)
   rw [Nat.mul_one] at hz2;have HZ2:=jH hz2;have HC2:=jH c2';obtain ⟨lc,hlc⟩:∃ z,V1.lc=z:=⟨_,rfl⟩;rw [hlc] at c2' hcp HTK1 HTD1 HZ2 HC2;obtain ⟨hlp1,hlp2⟩:=hcp;have hln:(LK.take k++LK.drop (k+1)).length<100000000000:=by rw [List.length_append,List.length_take,List.length_drop];have:=HT8.out;omega
   have HLN1:=jH hln;have hkc2:(k:Int)≤(lc:Int):=by omega
   have HBK1:=jH hbk1;have hfg:lkB (s.tests.length - 1) (s.lk.map (downI (k:Int)))=LK.eraseIdx k:=by
    rw [← hLK,zut (by omega) (by omega) HQ.out.symm,Int.toNat_natCast]
   have hds:dsB { s with tests:=s.tests.eraseIdx k,lk:=s.lk.map (downI (k:Int)) }={ dsB s with tests:=s.tests.eraseIdx k,lock:=LK.take k++LK.drop (k+1) }:=by
    unfold dsB;dsimp only;rw [zdx,List.length_eraseIdx_of_lt hkl,hfg]
   have HDSB:=jH hds;have HFE:=jH (HE.out 0 { s with tests:=s.tests.eraseIdx k,lk:=s.lk.map (downI (k:Int)) } (by rw [HPD2.out,Int.toNat_natCast]))
   clear hz2 t1 hTA hla1 hlc hln hdst hd1 hbk1 hr1 hLK hkk hLl hbs hfg hds;go_wp2_with fail;refine wp_region_held_drew (S:=fun X=>True) (by kernel_rfl) trivial (fun hH=>?_)
   obtain ⟨W,hWe⟩:∃ W:World,W=wc.drew:=⟨_,rfl⟩;have HGW:=jH (show Grow wc W by rw [hWe];exact (Grow.refl wc).drew)
   rw [← hWe];clear hWe;have HTW:=jH (HTK1.out.grow HGW.out);have HDW:=jH (HTD1.out.grow HGW.out);refine tkA 0 (.pointer (some ⟨B,0,none⟩)) rfl ?_ hH ?_
   ·intro w9 hw9;go_simp
   try simp only [nrm]
   refine tkA 2 (.pointer (some ⟨B,0,none⟩)) rfl ?_ hH ?_
   ·intro w9 hw9;go_simp
   try simp only [nrm]
   refine tkA 3 (.pointer (some ⟨B,0,none⟩)) rfl ?_ hH ?_
   ·intro w9 hw9;go_simp
   try simp only [nrm]
   refine tkA 4 (.pointer (some ⟨B,2,none⟩)) rfl ?_ hH ?_
   ·intro w9 hw9;go_simp
   try simp only [nrm]
   refine tkA 6 (.int .i64 (k:Int)) rfl ?_ hH ?_
   ·intro w9 hw9;go_simp
   try simp only [nrm]
   refine tkA 9 (.pointer (some ⟨B,0,none⟩)) rfl ?_ hH ?_
   ·intro w9 hw9;go_simp
   try simp only [nrm]
   refine tkA 10 (.pointer (some ⟨B,0,none⟩)) rfl ?_ hH ?_
   ·intro w9 hw9;go_simp
   try simp only [nrm]
   refine tkA 11 (.pointer (some ⟨B,2,none⟩)) rfl ?_ hH ?_
   ·intro w9 hw9;go_simp
   try simp only [nrm]
   refine tkA 13 (.int .i64 (k:Int)) rfl ?_ hH ?_
   ·intro w9 hw9;go_simp
   try simp only [nrm]
   refine tkA 14 (.int .i64 ((k+1:Nat):Int)) rfl ?_ hH ?_
   ·intro w9 hw9;go_simp
   try simp only [nrm]
   clear hH
   apply zge
   rotate_left
   ·intro key1
    apply zge
    rotate_left
    ·intro key0;have hH:True:=trivial;refine wpAnyH_ready (rs:=[1,5,12]) (by kernel_rfl) (by simp) ?_
     refine AllReadyH.cons rfl (fun K hK=>?_) (AllReadyH.cons rfl (fun K hK=>?_) (AllReadyH.cons rfl (fun K hK=>?_) (AllReadyH.nil)))
     ·
      go_simp;refine hK.out _ _ trivial ?_;clear hK K hH;intro hH;try simp only [nrm]
      refine tk2 5 12 rfl rfl (fun K hK=>?_) fun K hK=>?_
      ·
       have c9:=Grow.cell (HGW.out.alloc (.cells #[] 4)) HC2.out;go_simp;refine hK.out _ _ trivial ?_;clear hK K hH;intro hH;try simp only [nrm]
       clear c9;refine tkA 7 (.slice (some ⟨g1,0,none⟩) k lc) rfl ?_ hH ?_
       ·intro w9 hw9;go_simp
       try simp only [nrm]
       exact key0.out
      ·
       have c9:=Grow.cell (HGW.out.alloc (.cells #[] 4)) HC2.out;go_simp;refine hK.out _ _ trivial ?_;clear hK K hH;intro hH;try simp only [nrm]
       clear c9;refine tkA 15 (.slice (some ⟨g1,z2,none⟩) (s.tests.length - (k+1)) (lc - (k+1))) rfl ?_ hH ?_
       ·intro w9 hw9;rcases HZ2.out with ⟨y1,y2⟩ | ⟨y1,y2⟩<;>(subst y2;go_simp)
       try simp only [nrm]
       refine tk1 5 rfl fun K hK=>?_;have c9:=Grow.cell (HGW.out.alloc (.cells #[] 4)) HC2.out;go_simp;refine hK.out _ _ trivial ?_;clear hK K hH;intro hH;try simp only [nrm]
       clear c9;refine tkA 7 (.slice (some ⟨g1,0,none⟩) k lc) rfl ?_ hH ?_
       ·intro w9 hw9;go_simp
       try simp only [nrm]
       exact key1.out
     ·
      have c9:=Grow.cell HGW.out HC2.out;go_simp;refine hK.out _ _ trivial ?_;clear hK K hH;intro hH;try simp only [nrm]
      clear c9;refine tkA 7 (.slice (some ⟨g1,0,none⟩) k lc) rfl ?_ hH ?_
      ·intro w9 hw9;go_simp
      try simp only [nrm]
      refine tk2 1 12 rfl rfl (fun K hK=>?_) fun K hK=>?_
      ·
       go_simp;refine hK.out _ _ trivial ?_;clear hK K hH;intro hH;try simp only [nrm]
       exact key0.out
      ·
       have c9:=Grow.cell HGW.out HC2.out;go_simp;refine hK.out _ _ trivial ?_;clear hK K hH;intro hH;try simp only [nrm]
       clear c9;refine tkA 15 (.slice (some ⟨g1,z2,none⟩) (s.tests.length - (k+1)) (lc - (k+1))) rfl ?_ hH ?_
       ·intro w9 hw9;rcases HZ2.out with ⟨y1,y2⟩ | ⟨y1,y2⟩<;>(subst y2;go_simp)
       try simp only [nrm]
       refine tk1 1 rfl fun K hK=>?_;go_simp;refine hK.out _ _ trivial ?_;clear hK K hH;intro hH;try simp only [nrm]
       exact key1.out
     ·
      have c9:=Grow.cell HGW.out HC2.out;go_simp;refine hK.out _ _ trivial ?_;clear hK K hH;intro hH;try simp only [nrm]
      clear c9;refine tkA 15 (.slice (some ⟨g1,z2,none⟩) (s.tests.length - (k+1)) (lc - (k+1))) rfl ?_ hH ?_
      ·intro w9 hw9;rcases HZ2.out with ⟨y1,y2⟩ | ⟨y1,y2⟩<;>(subst y2;go_simp)
      try simp only [nrm]
      refine tk2 1 5 rfl rfl (fun K hK=>?_) fun K hK=>?_
      ·
       go_simp;refine hK.out _ _ trivial ?_;clear hK K hH;intro hH;try simp only [nrm]
       refine tk1 5 rfl fun K hK=>?_;have c9:=Grow.cell (HGW.out.alloc (.cells #[] 4)) HC2.out;go_simp;refine hK.out _ _ trivial ?_;clear hK K hH;intro hH;try simp only [nrm]
       clear c9;refine tkA 7 (.slice (some ⟨g1,0,none⟩) k lc) rfl ?_ hH ?_
       ·intro w9 hw9;go_simp
       try simp only [nrm]
       exact key1.out
      ·
       have c9:=Grow.cell HGW.out HC2.out;go_simp;refine hK.out _ _ trivial ?_;clear hK K hH;intro hH;try simp only [nrm]
       clear c9;refine tkA 7 (.slice (some ⟨g1,0,none⟩) k lc) rfl ?_ hH ?_
       ·intro w9 hw9;go_simp
       try simp only [nrm]
       refine tk1 1 rfl fun K hK=>?_;go_simp;refine hK.out _ _ trivial ?_;clear hK K hH;intro hH;try simp only [nrm]
       exact key1.out
    ·
     have hH:True:=trivial;refine tk2 8 12 rfl rfl (fun K hK=>?_) fun K hK=>?_
     ·
      refine zfh rfl (.tmp 71) (.tmp 77) 43 rfl 4 underlying43 zdy rfl (by decide) (by decide) encT zdq zhi (by simp [Act.eval]) _ (LK.take k) (by simp [Act.eval]) HTW.out (by have h1:=HLN1.out;rw [List.length_append] at h1;omega) ?_
      intro vA wA hA oA;have HGWA:=jH hA;have HOA:=jH oA;have HGA:=jH (HGW.out.trans hA);clear hA oA;refine hK.out _ _ trivial ?_;clear hK K hH;intro hH;try simp only [nrm]
      refine tk1 12 rfl fun K hK=>?_;have c9:=Grow.cell HGA.out HC2.out;go_simp;refine hK.out _ _ trivial ?_;clear hK K hH;intro hH;try simp only [nrm]
      clear c9;refine tkA 15 (.slice (some ⟨g1,z2,none⟩) (s.tests.length - (k+1)) (lc - (k+1))) rfl ?_ hH ?_
      ·intro w9 hw9;rcases HZ2.out with ⟨y1,y2⟩ | ⟨y1,y2⟩<;>(subst y2;go_simp)
      try simp only [nrm]
      refine tk1 16 rfl fun K hK=>?_;refine zgh rfl (.tmp 78) (.tmp 85) 43 rfl 4 underlying43 zdy rfl (by decide) (by decide) encT zdq zhi HGWA.out vA (LK.take k) (by simp [Act.eval]) HOA.out _ (LK.drop (k+1)) (by simp [Act.eval]) HDW.out HLN1.out ?_
      intro vB wB hB oB;obtain ⟨aB,m9,cB,H9,rfl,hst,z9,u9,e9⟩:=(HD1.out.grow HGW.out).lay_lk (Nat.le_trans HBS1.out HGW.out.sz) hB oB;have HST:=jH hst;clear hB oB hst;refine hK.out _ _ trivial ?_;clear hK K hH;intro hH;try simp only [nrm]
      refine tkA 17 (.pointer (some ⟨B,0,none⟩)) rfl ?_ hH ?_
      ·intro w9 hw9;go_simp
      try simp only [nrm]
      refine tkA 18 (.pointer (some ⟨B,2,none⟩)) rfl ?_ hH ?_
      ·intro w9 hw9;go_simp
      try simp only [nrm]
      refine tk1 19 rfl fun K hK=>?_;go_simp;refine hK.out _ _ trivial ?_;clear hK K hH;intro hH;try simp only [nrm]
      clear e9 z9;refine wpAnyH_done (by kernel_rfl) ?_ _
      have hs9:=HST.out.2;have HF:=jH (HFE.out _ H9 (HDST.out.trans ((Dst.of_grow HGW.out).trans HST.out.1)) (by rw [HDSB.out];exact hs9))
      clear hH hs9;go_wp2_with fail;exact HF.out
     ·
      have c9:=Grow.cell (HGW.out.alloc (.cells #[] 4)) HC2.out;go_simp;refine hK.out _ _ trivial ?_;clear hK K hH;intro hH;try simp only [nrm]
      clear c9;refine tkA 15 (.slice (some ⟨g1,z2,none⟩) (s.tests.length - (k+1)) (lc - (k+1))) rfl ?_ hH ?_
      ·intro w9 hw9;rcases HZ2.out with ⟨y1,y2⟩ | ⟨y1,y2⟩<;>(subst y2;go_simp)
      try simp only [nrm]
      exact key1.out
   ·
    have hH:True:=trivial;refine tk1 8 rfl fun K hK=>?_;refine zfh rfl (.tmp 71) (.tmp 77) 43 rfl 4 underlying43 zdy rfl (by decide) (by decide) encT zdq zhi (by simp [Act.eval]) _ (LK.take k) (by simp [Act.eval]) HTW.out (by have h1:=HLN1.out;rw [List.length_append] at h1;omega) ?_
    intro vA wA hA oA;have HGWA:=jH hA;have HOA:=jH oA;have HGA:=jH (HGW.out.trans hA);clear hA oA;refine hK.out _ _ trivial ?_;clear hK K hH;intro hH;try simp only [nrm]
    refine tk1 16 rfl fun K hK=>?_;refine zgh rfl (.tmp 78) (.tmp 85) 43 rfl 4 underlying43 zdy rfl (by decide) (by decide) encT zdq zhi HGWA.out vA (LK.take k) (by simp [Act.eval]) HOA.out _ (LK.drop (k+1)) (by simp [Act.eval]) HDW.out HLN1.out ?_
    intro vB wB hB oB;obtain ⟨aB,m9,cB,H9,rfl,hst,z9,u9,e9⟩:=(HD1.out.grow HGW.out).lay_lk (Nat.le_trans HBS1.out HGW.out.sz) hB oB;have HST:=jH hst;clear hB oB hst;refine hK.out _ _ trivial ?_;clear hK K hH;intro hH;try simp only [nrm]
    refine tkA 17 (.pointer (some ⟨B,0,none⟩)) rfl ?_ hH ?_
    ·intro w9 hw9;go_simp
    try simp only [nrm]
    refine tkA 18 (.pointer (some ⟨B,2,none⟩)) rfl ?_ hH ?_
    ·intro w9 hw9;go_simp
    try simp only [nrm]
    refine tk1 19 rfl fun K hK=>?_;go_simp;refine hK.out _ _ trivial ?_;clear hK K hH;intro hH;try simp only [nrm]
    clear e9 z9;refine wpAnyH_done (by kernel_rfl) ?_ _
    have hs9:=HST.out.2;have HF:=jH (HFE.out _ H9 (HDST.out.trans ((Dst.of_grow HGW.out).trans HST.out.1)) (by rw [HDSB.out];exact hs9))
    clear hH hs9;go_wp2_with fail;exact HF.out
theorem DkAt.app_pr {base:Nat} {H:Nat→Bool} {B:Nat} {w w1 w8:World} {s:Ds} (h:DkAt base H B w s) {V:V5} (hb:w.heap[B]?=some (.cells (dkCells V s) 46 (0,0))) (hr:DRows base H w V s) {L:List (Lo Ln)} (l1:DRow w base 22 1 (.slice V.pa L.length V.pc) L.length (L.flatMap encLo)) (l2:L.map Lo.x=s.progs) (l3:∀ t∈L,SlcAt 4 encL (hideW H w) t.v t.x) {t:Lo Ln} (ht:SlcAt 4 encL (hideW H w) t.v t.x) (hwl:Grow w w1) {v8:Value} (hown:w8.ownsRow base 22 1 v8 (L++[t]).length ((L++[t]).flatMap encLo)) (hgr:w1.grownBy w8 (Value.slice V.pa L.length V.pc).ownBlock) (hat:v8.ownBlock=(Value.slice V.pa L.length V.pc).ownBlock∨∀ b,v8.ownBlock=some b→w1.heap.size≤b) :
  ∃ a8 c8 H8,v8=.slice a8 (L.length+1) c8∧w8.heap[B]?=some (.cells (dkCells V s) 46 (0,0))∧Dst H w H8 (w8.setCell ⟨B,0,none⟩ (.slice a8 (L.length+1) c8))∧DkAt base H8 B (w8.setCell ⟨B,0,none⟩ (.slice a8 (L.length+1) c8)) { s with progs:=s.progs++[t.x] }∧(∀ (k:Nat) (cs:Array Value) (T2:TypeId),w.heap[k]?=some (.cells cs T2 (0,0))→T2≠22→w8.heap[k]?=some (.cells cs T2 (0,0)))∧w1.heap.size≤w8.heap.size:=by
 have hdl:=h.grow hwl;obtain ⟨H8,d8,hid8,_,own8⟩:=zgp (T:=22) (w:=w1) hdl.hid (fun b9 hb9=>by
  obtain ⟨_,cur,h⟩:=l1.blk hb9;refine ⟨?_,cur,hwl.blk h⟩;cases hpa:V.pa with
  | none=>rw [hpa] at hb9;cases hb9
  | some ad=>rw [hpa] at hb9;cases hb9;exact hr.hp ad hpa) hgr (fun b9 hb9=>hown.lt b9 hb9) hat
 obtain ⟨a8,c8,rfl⟩:∃ a c,v8=.slice a (L.length+1) c:=by
  rcases hown.2 with ⟨hv,h0⟩ | ⟨g9,cap,cur,hv,_⟩
  ·simp at h0
  ·exact ⟨some ⟨g9,0,none⟩,cap,by rw [hv];simp⟩
 have hset:=hdl.set_pr d8 hid8 (L++[t]) a8 c8 (.inl (by simpa using hown)) (fun ad e=>own8 ad.block (by rw [e];rfl)) (fun q hq=>by
  rcases List.mem_append.1 hq with hq | hq
  ·exact ((l3 q hq).grow (hwl.hid H)).grow d8.g
  ·rw [List.mem_singleton] at hq;subst hq;exact (ht.grow (hwl.hid H)).grow d8.g)
 rw [List.length_append,List.length_singleton,List.map_append,l2] at hset;exact ⟨a8,c8,H8,rfl,d8.kp B _ _ (hwl.blk hb) (by decide),(Dst.of_grow hwl).trans hset.1,hset.2,fun k cs T2 hk hT=>d8.kp k cs T2 (hwl.blk hk) hT,d8.sz⟩
theorem DkAt.app_hi {base:Nat} {H:Nat→Bool} {B:Nat} {w w1 w8:World} {s:Ds} (h:DkAt base H B w s) {V:V5} (hb:w.heap[B]?=some (.cells (dkCells V s) 46 (0,0))) (hr:DRows base H w V s) {L:List (Lo Ed)} (l1:DRow w base 58 1 (.slice V.ha L.length V.hc) L.length (L.flatMap encLo)) (l2:L.map Lo.x=s.hist) (l3:∀ t∈L,SlcAt 5 encE (hideW H w) t.v t.x) {t:Lo Ed} (ht:SlcAt 5 encE (hideW H w) t.v t.x) (hwl:Grow w w1) {v8:Value} (hown:w8.ownsRow base 58 1 v8 (L++[t]).length ((L++[t]).flatMap encLo)) (hgr:w1.grownBy w8 (Value.slice V.ha L.length V.hc).ownBlock) (hat:v8.ownBlock=(Value.slice V.ha L.length V.hc).ownBlock∨∀ b,v8.ownBlock=some b→w1.heap.size≤b) :
  ∃ a8 c8 H8,v8=.slice a8 (L.length+1) c8∧w8.heap[B]?=some (.cells (dkCells V s) 46 (0,0))∧Dst H w H8 (w8.setCell ⟨B,3,none⟩ (.slice a8 (L.length+1) c8))∧DkAt base H8 B (w8.setCell ⟨B,3,none⟩ (.slice a8 (L.length+1) c8)) { s with hist:=s.hist++[t.x] }∧(∀ (k:Nat) (cs:Array Value) (T2:TypeId),w.heap[k]?=some (.cells cs T2 (0,0))→T2≠58→w8.heap[k]?=some (.cells cs T2 (0,0)))∧w1.heap.size≤w8.heap.size:=by
 have hdl:=h.grow hwl;obtain ⟨H8,d8,hid8,_,own8⟩:=zgp (T:=58) (w:=w1) hdl.hid (fun b9 hb9=>by
  obtain ⟨_,cur,h⟩:=l1.blk hb9;refine ⟨?_,cur,hwl.blk h⟩;cases hpa:V.ha with
  | none=>rw [hpa] at hb9;cases hb9
  | some ad=>rw [hpa] at hb9;cases hb9;exact hr.hh ad hpa) hgr (fun b9 hb9=>hown.lt b9 hb9) hat
 obtain ⟨a8,c8,rfl⟩:∃ a c,v8=.slice a (L.length+1) c:=by
  rcases hown.2 with ⟨hv,h0⟩ | ⟨g9,cap,cur,hv,_⟩
  ·simp at h0
  ·exact ⟨some ⟨g9,0,none⟩,cap,by rw [hv];simp⟩
 have hset:=hdl.set_hi d8 hid8 (L++[t]) a8 c8 (.inl (by simpa using hown)) (fun ad e=>own8 ad.block (by rw [e];rfl)) (fun q hq=>by
  rcases List.mem_append.1 hq with hq | hq
  ·exact ((l3 q hq).grow (hwl.hid H)).grow d8.g
  ·rw [List.mem_singleton] at hq;subst hq;exact (ht.grow (hwl.hid H)).grow d8.g)
 rw [List.length_append,List.length_singleton,List.map_append,l2] at hset;exact ⟨a8,c8,H8,rfl,d8.kp B _ _ (hwl.blk hb) (by decide),(Dst.of_grow hwl).trans hset.1,hset.2,fun k cs T2 hk hT=>d8.kp k cs T2 (hwl.blk hk) hT,d8.sz⟩
theorem DkAt.app_ts {base:Nat} {H:Nat→Bool} {B:Nat} {w w1 w8:World} {s:Ds} (h:DkAt base H B w s) {V:V5} (hb:w.heap[B]?=some (.cells (dkCells V s) 46 (0,0))) (hr:DRows base H w V s) {L:List Tq} (l1:DRow w base 63 3 (.slice V.ta L.length V.tc) L.length (L.flatMap encTq)) (l2:L.map Tq.p=s.tests) (l3:∀ q∈L,IntsAt (hideW H w) (.slice q.a q.n q.c) q.xs) {t:Tq} (ht:IntsAt (hideW H w) (.slice t.a t.n t.c) t.xs) (hwl:Grow w w1) {v8:Value} (hown:w8.ownsRow base 63 3 v8 (L++[t]).length ((L++[t]).flatMap encTq)) (hgr:w1.grownBy w8 (Value.slice V.ta L.length V.tc).ownBlock) (hat:v8.ownBlock=(Value.slice V.ta L.length V.tc).ownBlock∨∀ b,v8.ownBlock=some b→w1.heap.size≤b) :
  ∃ a8 c8 H8,v8=.slice a8 (L.length+1) c8∧w8.heap[B]?=some (.cells (dkCells V s) 46 (0,0))∧Dst H w H8 (w8.setCell ⟨B,1,none⟩ (.slice a8 (L.length+1) c8))∧DkAt base H8 B (w8.setCell ⟨B,1,none⟩ (.slice a8 (L.length+1) c8)) { s with tests:=s.tests++[t.p] }∧(∀ (k:Nat) (cs:Array Value) (T2:TypeId),w.heap[k]?=some (.cells cs T2 (0,0))→T2≠63→w8.heap[k]?=some (.cells cs T2 (0,0)))∧w1.heap.size≤w8.heap.size:=by
 have hdl:=h.grow hwl;obtain ⟨H8,d8,hid8,_,own8⟩:=zgp (T:=63) (w:=w1) hdl.hid (fun b9 hb9=>by
  obtain ⟨_,cur,h⟩:=l1.blk hb9;refine ⟨?_,cur,hwl.blk h⟩;cases hpa:V.ta with
  | none=>rw [hpa] at hb9;cases hb9
  | some ad=>rw [hpa] at hb9;cases hb9;exact hr.ht ad hpa) hgr (fun b9 hb9=>hown.lt b9 hb9) hat
 obtain ⟨a8,c8,rfl⟩:∃ a c,v8=.slice a (L.length+1) c:=by
  rcases hown.2 with ⟨hv,h0⟩ | ⟨g9,cap,cur,hv,_⟩
  ·simp at h0
  ·exact ⟨some ⟨g9,0,none⟩,cap,by rw [hv];simp⟩
 have hset:=hdl.set_ts d8 hid8 (L++[t]) a8 c8 (.inl (by simpa using hown)) (fun ad e=>own8 ad.block (by rw [e];rfl)) (fun q hq=>by
  rcases List.mem_append.1 hq with hq | hq
  ·exact ((l3 q hq).grow (hwl.hid H)).grow d8.g
  ·rw [List.mem_singleton] at hq;subst hq;exact (ht.grow (hwl.hid H)).grow d8.g)
 rw [List.length_append,List.length_singleton,List.map_append,l2] at hset;exact ⟨a8,c8,H8,rfl,d8.kp B _ _ (hwl.blk hb) (by decide),(Dst.of_grow hwl).trans hset.1,hset.2,fun k cs T2 hk hT=>d8.kp k cs T2 (hwl.blk hk) hT,d8.sz⟩
theorem DkAt.app_lk {base:Nat} {H:Nat→Bool} {B:Nat} {w w1 w8:World} {s:Ds} (h:DkAt base H B w s) {V:V5} (hb:w.heap[B]?=some (.cells (dkCells V s) 46 (0,0))) (hr:DRows base H w V s) {L:List Bool} (l1:DRow w base 4 1 (.slice V.la L.length V.lc) L.length (L.flatMap encT)) (l2:L=s.lock) {t:Bool} (hwl:Grow w w1) {v8:Value} (hown:w8.ownsRow base 4 1 v8 (L++[t]).length ((L++[t]).flatMap encT)) (hgr:w1.grownBy w8 (Value.slice V.la L.length V.lc).ownBlock) (hat:v8.ownBlock=(Value.slice V.la L.length V.lc).ownBlock∨∀ b,v8.ownBlock=some b→w1.heap.size≤b) :
  ∃ a8 c8 H8,v8=.slice a8 (L.length+1) c8∧w8.heap[B]?=some (.cells (dkCells V s) 46 (0,0))∧Dst H w H8 (w8.setCell ⟨B,2,none⟩ (.slice a8 (L.length+1) c8))∧DkAt base H8 B (w8.setCell ⟨B,2,none⟩ (.slice a8 (L.length+1) c8)) { s with lock:=s.lock++[t] }∧(∀ (k:Nat) (cs:Array Value) (T2:TypeId),w.heap[k]?=some (.cells cs T2 (0,0))→T2≠4→w8.heap[k]?=some (.cells cs T2 (0,0)))∧w1.heap.size≤w8.heap.size:=by
 have hdl:=h.grow hwl;obtain ⟨H8,d8,hid8,_,own8⟩:=zgp (T:=4) (w:=w1) hdl.hid (fun b9 hb9=>by
  obtain ⟨_,cur,h⟩:=l1.blk hb9;refine ⟨?_,cur,hwl.blk h⟩;cases hpa:V.la with
  | none=>rw [hpa] at hb9;cases hb9
  | some ad=>rw [hpa] at hb9;cases hb9;exact hr.hl ad hpa) hgr (fun b9 hb9=>hown.lt b9 hb9) hat
 obtain ⟨a8,c8,rfl⟩:∃ a c,v8=.slice a (L.length+1) c:=by
  rcases hown.2 with ⟨hv,h0⟩ | ⟨g9,cap,cur,hv,_⟩
  ·simp at h0
  ·exact ⟨some ⟨g9,0,none⟩,cap,by rw [hv];simp⟩
 have hset:=hdl.set_lk d8 hid8 (L++[t]) a8 c8 (.inl (by simpa using hown)) (fun ad e=>own8 ad.block (by rw [e];rfl))
 rw [List.length_append,List.length_singleton] at hset;subst l2;exact ⟨a8,c8,H8,rfl,d8.kp B _ _ (hwl.blk hb) (by decide),(Dst.of_grow hwl).trans hset.1,hset.2,fun k cs T2 hk hT=>d8.kp k cs T2 (hwl.blk hk) hT,d8.sz⟩
theorem DkAt.app_od {base:Nat} {H:Nat→Bool} {B:Nat} {w w1 w8:World} {s:Ds} (h:DkAt base H B w s) {V:V5} (hb:w.heap[B]?=some (.cells (dkCells V s) 46 (0,0))) (hr:DRows base H w V s) {L:List ByteArray} (l1:DRow w base 9 1 (.slice V.oa L.length V.oc) L.length (L.flatMap encTx)) (l2:L=s.orders) {t:ByteArray} (hwl:Grow w w1) {v8:Value} (hown:w8.ownsRow base 9 1 v8 (L++[t]).length ((L++[t]).flatMap encTx)) (hgr:w1.grownBy w8 (Value.slice V.oa L.length V.oc).ownBlock) (hat:v8.ownBlock=(Value.slice V.oa L.length V.oc).ownBlock∨∀ b,v8.ownBlock=some b→w1.heap.size≤b) :
  ∃ a8 c8 H8,v8=.slice a8 (L.length+1) c8∧w8.heap[B]?=some (.cells (dkCells V s) 46 (0,0))∧Dst H w H8 (w8.setCell ⟨B,6,none⟩ (.slice a8 (L.length+1) c8))∧DkAt base H8 B (w8.setCell ⟨B,6,none⟩ (.slice a8 (L.length+1) c8)) { s with orders:=s.orders++[t] }∧(∀ (k:Nat) (cs:Array Value) (T2:TypeId),w.heap[k]?=some (.cells cs T2 (0,0))→T2≠9→w8.heap[k]?=some (.cells cs T2 (0,0)))∧w1.heap.size≤w8.heap.size:=by
 have hdl:=h.grow hwl;obtain ⟨H8,d8,hid8,_,own8⟩:=zgp (T:=9) (w:=w1) hdl.hid (fun b9 hb9=>by
  obtain ⟨_,cur,h⟩:=l1.blk hb9;refine ⟨?_,cur,hwl.blk h⟩;cases hpa:V.oa with
  | none=>rw [hpa] at hb9;cases hb9
  | some ad=>rw [hpa] at hb9;cases hb9;exact hr.ho ad hpa) hgr (fun b9 hb9=>hown.lt b9 hb9) hat
 obtain ⟨a8,c8,rfl⟩:∃ a c,v8=.slice a (L.length+1) c:=by
  rcases hown.2 with ⟨hv,h0⟩ | ⟨g9,cap,cur,hv,_⟩
  ·simp at h0
  ·exact ⟨some ⟨g9,0,none⟩,cap,by rw [hv];simp⟩
 have hset:=hdl.set_od d8 hid8 (L++[t]) a8 c8 (.inl (by simpa using hown)) (fun ad e=>own8 ad.block (by rw [e];rfl))
 rw [List.length_append,List.length_singleton] at hset;subst l2;exact ⟨a8,c8,H8,rfl,d8.kp B _ _ (hwl.blk hb) (by decide),(Dst.of_grow hwl).trans hset.1,hset.2,fun k cs T2 hk hT=>d8.kp k cs T2 (hwl.blk hk) hT,d8.sz⟩
theorem DkAt.app_hi1 {base:Nat} {H:Nat→Bool} {B:Nat} {w w1 w8:World} {s:Ds} (h:DkAt base H B w s) {V:V5} (hb:w.heap[B]?=some (.cells (dkCells V s) 46 (0,0))) (hr:DRows base H w V s) {L:List (Lo Ed)} (l1:DRow w base 58 1 (.slice V.ha L.length V.hc) L.length (L.flatMap encLo)) (l2:L.map Lo.x=s.hist) (l3:∀ t∈L,SlcAt 5 encE (hideW H w) t.v t.x) {t:Lo Ed} (ht:SlcAt 5 encE (hideW H w1) t.v t.x) (hwl:Grow w w1) {v8:Value} (hown:w8.ownsRow base 58 1 v8 (L++[t]).length ((L++[t]).flatMap encLo)) (hgr:w1.grownBy w8 (Value.slice V.ha L.length V.hc).ownBlock) (hat:v8.ownBlock=(Value.slice V.ha L.length V.hc).ownBlock∨∀ b,v8.ownBlock=some b→w1.heap.size≤b) :
  ∃ a8 c8 H8,v8=.slice a8 (L.length+1) c8∧w8.heap[B]?=some (.cells (dkCells V s) 46 (0,0))∧Dst H w H8 (w8.setCell ⟨B,3,none⟩ (.slice a8 (L.length+1) c8))∧DkAt base H8 B (w8.setCell ⟨B,3,none⟩ (.slice a8 (L.length+1) c8)) { s with hist:=s.hist++[t.x] }∧(∀ (k:Nat) (cs:Array Value) (T2:TypeId),w.heap[k]?=some (.cells cs T2 (0,0))→T2≠58→w8.heap[k]?=some (.cells cs T2 (0,0)))∧w1.heap.size≤w8.heap.size:=by
 have hdl:=h.grow hwl;obtain ⟨H8,d8,hid8,_,own8⟩:=zgp (T:=58) (w:=w1) hdl.hid (fun b9 hb9=>by
  obtain ⟨_,cur,h⟩:=l1.blk hb9;refine ⟨?_,cur,hwl.blk h⟩;cases hpa:V.ha with
  | none=>rw [hpa] at hb9;cases hb9
  | some ad=>rw [hpa] at hb9;cases hb9;exact hr.hh ad hpa) hgr (fun b9 hb9=>hown.lt b9 hb9) hat
 obtain ⟨a8,c8,rfl⟩:∃ a c,v8=.slice a (L.length+1) c:=by
  rcases hown.2 with ⟨hv,h0⟩ | ⟨g9,cap,cur,hv,_⟩
  ·simp at h0
  ·exact ⟨some ⟨g9,0,none⟩,cap,by rw [hv];simp⟩
 have hset:=hdl.set_hi d8 hid8 (L++[t]) a8 c8 (.inl (by simpa using hown)) (fun ad e=>own8 ad.block (by rw [e];rfl)) (fun q hq=>by
  rcases List.mem_append.1 hq with hq | hq
  ·exact ((l3 q hq).grow (hwl.hid H)).grow d8.g
  ·rw [List.mem_singleton] at hq;subst hq;exact ht.grow d8.g)
 rw [List.length_append,List.length_singleton,List.map_append,l2] at hset;exact ⟨a8,c8,H8,rfl,d8.kp B _ _ (hwl.blk hb) (by decide),(Dst.of_grow hwl).trans hset.1,hset.2,fun k cs T2 hk hT=>d8.kp k cs T2 (hwl.blk hk) hT,d8.sz⟩
set_option maxRecDepth 100000
set_option maxHeartbeats 16000000
theorem rPut_any (base:Nat) (H:Nat→Bool) (B:Nat) (s:Bn) (ok:OkB s) (i op d a b:Int) (w:World) (hd:DkAt base H B w (dsB s)) (hbase:base≤w.heap.size) (R:Ending→World→Prop)
  (hR:∀ w' H',Dst H w H' w'→DkAt base H' B w' (dsB (putB s i ⟨op,d,a,b⟩).2)→R (.returned (.int .i64 (putB s i ⟨op,d,a,b⟩).1)) w') :
  Calls Tryz.prog 75 #[.pointer (some ⟨B,0,none⟩),.int .i64 i,.agg #[.int .i64 op,.int .i64 d,.int .i64 a,.int .i64 b]] w R:=by
 have hE:∀ e s2,putB s i ⟨op,d,a,b⟩=(e,s2)→∀ w' H',Dst H w H' w'→DkAt base H' B w' (dsB s2)→R (.returned (.int .i64 e)) w':=fun e s2 h w' H' h1 h2=>by
  have h3:=hR w' H' h1;rw [h] at h3;exact h3 h2
 have hS:∀ e,putB s i ⟨op,d,a,b⟩=(e,s)→∀ w',Grow w w'→R (.returned (.int .i64 e)) w':=fun e h w' g=>hE e s h w' H (Dst.of_grow g) (hd.grow g);have HE:=jH hE;have HS:=jH hS;have HPD:=jH (put_D ok i ⟨op,d,a,b⟩);have HD:=jH hd;have HOK:=jH ok;have hne:(dsB s).progs≠[]:=by intro e;have h:=ok.len;have e2:s.progs=[]:=e;rw [e2] at h;simp at h
 have HNE:=jH hne;have HBS:=jH hbase;have hp8:=(zba.1 ok.valp).1;clear hR hE hS hd ok hne hbase
 go_enter func75,ntmps75
 go_upto_region 1 with fail
 obtain ⟨w1,hw1⟩:∃ z:World,z=w.alloc (.cells #[.int .i64 op,.int .i64 d,.int .i64 a,.int .i64 b] 57):=⟨_,rfl⟩;change Code.wp _ _ _ _ (w.alloc (.cells #[.int .i64 op,.int .i64 d,.int .i64 a,.int .i64 b] 57));have hg1:Grow w w1:=by rw [hw1];exact (Grow.refl w).alloc _
 have hb1:w1.heap[w.heap.size]?=some (.cells #[.int .i64 op,.int .i64 d,.int .i64 a,.int .i64 b] 57 (0,0)):=by rw [hw1];exact heap_alloc_new _ _
 rw [← hw1];obtain ⟨x,hx⟩:∃ z,w.heap.size=z:=⟨_,rfl⟩;rw [hx] at hb1 ⊢;have HXW:=jH hx;have HG1:=jH hg1;have HBX:=jH hb1;clear hw1 hg1 hb1 hx;go_wp2_with fail;refine zcv base H B (dsB s) _ (HD.out.grow HG1.out) HNE.out _ ?_;intro w2 pv hg2 hpv;have HPV:=jH (show LinesAt w2 pv s.prog from hpv.unhide);obtain ⟨pa,pc,rfl,p1,p2,jk⟩:=(show LinesAt w2 pv s.prog from hpv.unhide);have HG2:=jH (HG1.out.trans hg2);have HBX2:=jH (hg2.blk HBX.out);clear hg2 hpv jk;by_cases hi0:i<0
 ·have HF:=jH (HS.out 4 (by rw [HPD.out,if_pos (.inl hi0)]) w2 HG2.out)
  have hi0z:decide (i<0)=true:=by rw [decide_eq_true_eq];exact hi0
  go_wp2_with fail;exact HF.out
 have hi0z:decide (i<0)=false:=by rw [decide_eq_false_iff_not];exact hi0
 by_cases hil:(s.prog.length:Int)≤i
 ·have HF:=jH (HS.out 4 (by rw [HPD.out,if_pos (.inr hil)]) w2 HG2.out)
  have hilz:decide (i≥(s.prog.length:Int))=true:=by rw [decide_eq_true_eq];exact hil
  go_wp2_with fail;exact HF.out
 have hilz:decide (i≥(s.prog.length:Int))=false:=by rw [decide_eq_false_iff_not];exact hil
 have HPD1:=jH (HPD.out.trans (if_neg (by omega)))
 obtain ⟨e0,e1,e2,e3⟩:=box4 HBX2.out;go_wp2_with fail;refine zdc op d a b _ _ ?_;intro w3 hg3;have HG3:=jH (HG2.out.trans hg3);have HPV3:=jH (HPV.out.grow hg3);have HBX3:=jH (hg3.blk HBX2.out);clear hg3;cases hbb:vL op d a b with
 | false=>
  have HF:=jH (HS.out 1 (HPD1.out.trans (if_pos hbb)) w3 HG3.out);have t1:(errB false != 0)=true:=rfl;have t2:errB false=1:=rfl;rw [t2];clear hbb;go_wp2_with fail;exact HF.out
 | true=>
  have HPD2:=jH (HPD1.out.trans (if_neg (by rw [show (⟨op,d,a,b⟩:Ln).ok=true from hbb];decide)))
  have HLK:=jH (show (⟨op,d,a,b⟩:Ln).ok=true from hbb);obtain ⟨k,rfl⟩:∃ k:Nat,i=k:=⟨i.toNat,by omega⟩
  obtain ⟨⟨p0,px1,px2,px3⟩,hpk⟩:∃ x,s.prog[k]?=some x:=⟨_,List.getElem?_eq_getElem (by omega)⟩
  have hla:lineAt s.prog (k:Int)=⟨p0,px1,px2,px3⟩:=by unfold lineAt;rw [Int.toNat_natCast,hpk];rfl
  have HLA:=jH hla;obtain ⟨pb,po,hpa,hpb,f0,f1,f2,f3⟩:=zbr HPV3.out hpk;subst hpa;have hkl:(k:Int)<(s.prog.length:Int):=by omega
  have hkl2:k<s.prog.length:=by omega
  rw [show errB true=0 from rfl];have HPK:=jH hpk;clear hpk hla e0 e1 e2 e3 hbb;obtain ⟨e0,e1,e2,e3⟩:=box4 HBX3.out;go_wp2_with fail;by_cases heq:(⟨p0,px1,px2,px3⟩:Ln)=⟨op,d,a,b⟩
  ·
   have HPE:=jH (HPD2.out.trans (if_pos (HLA.out.trans heq)));injection heq with q0 q1 q2 q3;subst q0 q1 q2 q3;refine wp_region_held_drew (S:=fun X=>Grow w3 X) (by kernel_rfl) ((Grow.refl w3).drew) (fun hH=>?_)
   refine tkA 0 (.slice (some ⟨pb,po,none⟩) s.prog.length pc) rfl ?_ hH ?_
   ·intro w9 hw9;go_simp
   try simp only [nrm]
   refine tkA 1 (.int .i64 (k:Int)) rfl ?_ hH ?_
   ·intro w9 hw9;go_simp
   try simp only [nrm]
   refine tkA 2 (.pointer (some ⟨pb,po+k * 4,none⟩)) rfl ?_ hH ?_
   ·intro w9 hw9;go_simp
   try simp only [nrm]
   refine tkA 3 (.agg #[.int .i64 p0,.int .i64 px1,.int .i64 px2,.int .i64 px3]) rfl ?_ hH ?_
   ·intro w9 hw9;have g0:=Grow.cell hw9 f0;have g1:=Grow.cell hw9 f1;have g2:=Grow.cell hw9 f2;have g3:=Grow.cell hw9 f3;go_simp
   try simp only [nrm]
   refine tkA 4 (.agg #[.int .i64 p0,.int .i64 px1,.int .i64 px2,.int .i64 px3]) rfl ?_ hH ?_
   ·intro w9 hw9;have g0:=Grow.cell hw9 e0;have g1:=Grow.cell hw9 e1;have g2:=Grow.cell hw9 e2;have g3:=Grow.cell hw9 e3;go_simp
   try simp only [nrm]
   refine tkA 5 (.bool true) rfl ?_ hH ?_
   ·intro w9 hw9;go_simp
   try simp only [nrm]
   refine wpAnyH_done (by kernel_rfl) ?_ _
   have HF:=jH (HS.out 5 HPE.out _ (HG3.out.trans hH));clear hH;go_wp2_with fail;exact HF.out
  ·
   have HPE:=jH (HPD2.out.trans (if_neg (by rw [HLA.out];exact heq)))
   refine wp_region_held_drew (S:=fun X=>Grow w3 X) (by kernel_rfl) ((Grow.refl w3).drew) (fun hH=>?_)
   refine tkA 0 (.slice (some ⟨pb,po,none⟩) s.prog.length pc) rfl ?_ hH ?_
   ·intro w9 hw9;go_simp
   try simp only [nrm]
   refine tkA 1 (.int .i64 (k:Int)) rfl ?_ hH ?_
   ·intro w9 hw9;go_simp
   try simp only [nrm]
   refine tkA 2 (.pointer (some ⟨pb,po+k * 4,none⟩)) rfl ?_ hH ?_
   ·intro w9 hw9;go_simp
   try simp only [nrm]
   refine tkA 3 (.agg #[.int .i64 p0,.int .i64 px1,.int .i64 px2,.int .i64 px3]) rfl ?_ hH ?_
   ·intro w9 hw9;have g0:=Grow.cell hw9 f0;have g1:=Grow.cell hw9 f1;have g2:=Grow.cell hw9 f2;have g3:=Grow.cell hw9 f3;go_simp
   try simp only [nrm]
   refine tkA 4 (.agg #[.int .i64 op,.int .i64 d,.int .i64 a,.int .i64 b]) rfl ?_ hH ?_
   ·intro w9 hw9;have g0:=Grow.cell hw9 e0;have g1:=Grow.cell hw9 e1;have g2:=Grow.cell hw9 e2;have g3:=Grow.cell hw9 e3;go_simp
   try simp only [nrm]
   have hun:p0≠op∨px1≠d∨px2≠a∨px3≠b:=by
    by_cases q0:p0=op
    ·by_cases q1:px1=d
     ·by_cases q2:px2=a
      ·by_cases q3:px3=b
       ·subst q0 q1 q2 q3;exact absurd rfl heq
       ·exact .inr (.inr (.inr q3))
      ·exact .inr (.inr (.inl q2))
     ·exact .inr (.inl q1)
    ·exact .inl q0
   refine tkA 5 (.bool false) rfl ?_ hH ?_
   ·intro w9 hw9;rcases hun with q | q | q | q<;>(have t1:=beq_eq_false_iff_ne.2 q;go_simp)
   try simp only [nrm]
   refine wpAnyH_done (by kernel_rfl) ?_ _
   clear hun heq;have HG4:=jH (HG3.out.trans hH);have HPV4:=jH (HPV3.out.grow hH);have HBX4:=jH (Grow.blk hH HBX3.out);clear hH f0 f1 f2 f3 e0 e1 e2 e3;generalize w3.drew=w4 at HG4 HPV4 HBX4 ⊢;obtain ⟨V,hbk,hr⟩:=(HD.out.grow HG4.out).blk;obtain ⟨c0,_,_,c3,_⟩:=zaw hbk;have hhl:(dsB s).hist.length=s.hist.length:=rfl;rw [hhl] at c3;by_cases h8:8≤s.hist.length
   ·have HF:=jH (HS.out 3 (HPE.out.trans (if_pos h8)) w4 HG4.out);have h8z:decide ((s.hist.length:Int)≥8)=true:=by rw [decide_eq_true_eq];omega
    clear hbk hr c0;go_wp2_with fail;exact HF.out
   have HPF:=jH (HPE.out.trans (if_neg h8));have h8z:decide ((s.hist.length:Int)≥8)=false:=by rw [decide_eq_false_iff_not];omega
   clear hbk hr c0;go_wp2_with (at_builtin;refine Classical.byContradiction (fun hcon=>?_));refine hcon ?_;clear hcon;refine zay _ rfl (.tmp 34) (.tmp 35) 22 rfl w4.heap.size 57 underlying22 zhg rfl (by decide) (by decide) encL zab zaj _ [] rfl (zah w4 4 _ _ _ (Nat.le_refl _)) _ s.prog rfl (HPV4.out.grow ((Grow.refl w4).alloc _)) (by simp;omega) (by simp) ?_
   intro v5 w5 hown5 hgr5;have hg5:Grow w4 w5:=zae (zah (α:=Ln) w4 4 57 encL _ (Nat.le_refl _)) hgr5 (Nat.le_refl _) (by simp) ((Grow.refl w4).alloc _)
   have how:w5.ownsRow w4.heap.size 57 4 v5 s.prog.length (s.prog.flatMap encL):=by simpa using hown5
   have hs5:=zaa zab how;obtain ⟨a5,c5,rfl,q1,q2,jk⟩:=hs5;obtain ⟨g,rfl,hbg,hgl⟩:=ownS how (by omega)
   obtain ⟨_,_,ee,_,k0,k1,k2,k3⟩:=zbr (zaa zab how) HPK.out;cases ee;simp only [Nat.zero_add] at k0 k1 k2 k3;have z0:=zbn how (k * 4);have z1:=zbn how (k * 4+1);have z2:=zbn how (k * 4+2);have z3:=zbn how (k * 4+3);obtain ⟨e0,e1,e2,e3⟩:=box4 (hg5.blk HBX4.out);have hs6:=zjk how k hkl2 ⟨op,d,a,b⟩;have hv6:=zaa zab hs6;rw [List.length_set] at hv6;have HV6:=jH hv6;have HG6:=jH (zcc (i:=k * 4) (g:=g) ⟨op,d,a,b⟩ hg5 hbg);have hxg:x<w4.heap.size:=lt_of_block HBX4.out;have hne1:x≠g:=by omega
   have hne2:g≠x:=by omega
   clear hown5 hgr5 hg5 how jk hs6 hv6;go_wp2_with fail;have hpo:=zxc HOK.out (i:=(k:Int)) (l:=⟨op,d,a,b⟩) (by omega) hkl HLK.out
   rw [Int.toNat_natCast] at hpo;have hval:valP (s.prog.set k ⟨op,d,a,b⟩)=0:=by
    rw [← hpo.2];exact zmh HOK.out.valp fun e he=>by simp at he;subst he;exact HLK.out
   have HVAL:=jH hval;clear hpo hval;refine zly base H B (dsB s) _ (HD.out.grow (HG4.out.trans HG6.out)) (zbl _ _) HOK.out.tst (s.prog.set k ⟨op,d,a,b⟩) _ HV6.out HVAL.out _ ?_;intro w7 q hg7 hq;have HG47:=jH (show Grow w4 w7 from Grow.trans HG6.out hg7);have HV7:=jH (HV6.out.grow hg7);have HG7:=jH (HG4.out.trans HG47.out);have hbk:=zyv (p:=s.prog.set k ⟨op,d,a,b⟩) (lk:=s.lk) (zef.2 ⟨HVAL.out,HOK.out.tst⟩) HOK.out.inr;have hqb:q=true↔brkB (s.prog.set k ⟨op,d,a,b⟩) s.tests s.lk=false:=hq.trans hbk.symm;have HQ:=jH hqb;clear hg7 hq hbk hqb z0 z1 z2 z3 e0 e1 e2 e3;cases q with
   | false=>
    have HF:=jH (HE.out 6 s (HPF.out.trans (if_pos (by
     cases hx:brkB (s.prog.set (k:Int).toNat ⟨op,d,a,b⟩) s.tests s.lk with
     | true=>rfl
     | false=>have:=HQ.out.2 (by rw [Int.toNat_natCast] at hx;exact hx);cases this))) w7 H (Dst.of_grow HG7.out) (HD.out.grow HG7.out))
    go_wp2_with fail;exact HF.out
   | true=>
    have HPG:=jH (HPF.out.trans (if_neg (by rw [Int.toNat_natCast,HQ.out.1 rfl];simp)))
    have HBX7:=jH (Grow.blk HG47.out HBX4.out);have HD7:=jH (HD.out.grow HG7.out);have hns:∀ y,H y=true→y<w4.heap.size:=(HD.out.grow HG4.out).hid.bd;have hv7:=HV7.out.hide (H:=H) fun b' o' n' c' e=>.inl (by
     cases e;cases hh:H g with
     | false=>rfl
     | true=>have:=hns g hh;omega)
    have HVH:=jH hv7;obtain ⟨V7,hbk7,hr7⟩:=HD7.out.blk;obtain ⟨c0,_⟩:=zaw hbk7;obtain ⟨L,l1,l2,l3⟩:=hr7.pr;have hLl:L.length=s.progs.length:=by rw [show s.progs=L.map Lo.x from l2.symm,List.length_map]
    have hpp:(dsB s).progs.length=L.length:=hLl.symm;rw [hpp] at c0 l1;have HL1:=jH l1;have HL2:=jH (show L.map Lo.x=s.progs from l2);have HL3:=jH l3;have HLB:=jH (show L.length<100000000000 by rw [hLl,HOK.out.len];omega)
    have HR7:=jH hr7;have HBK7:=jH hbk7;have hbs:base≤w7.heap.size:=Nat.le_trans HBS.out HG7.out.sz;clear hns hv7 hbk7 hr7 l1 l2 l3 hLl hpp;go_wp2_with (at_builtin;refine Classical.byContradiction (fun hcon=>?_));refine hcon ?_;clear hcon;refine zdw _ rfl (.tmp 49) (.tmp 51) 41 rfl base 22 underlying41 zfz rfl (by decide) (by decide) encLo zaz zce (.slice V7.pa L.length V7.pc) L rfl (DRow.keep HL1.out fun b' o' _ ho=>((Grow.refl w7).alloc _).blk ho) _ (⟨some ⟨g,0,none⟩,s.prog.length,c5,s.prog.set k ⟨op,d,a,b⟩⟩:Lo Ln) 1 rfl (zbj w7 (encLo (⟨some ⟨g,0,none⟩,s.prog.length,c5,s.prog.set k ⟨op,d,a,b⟩⟩:Lo Ln)) 22) HLB.out (by simp;omega) ?_
    intro v8 w8 hown8 hgr8 hat8;obtain ⟨a8,c8,H8,rfl,hb8,hdst8,hd8,hk8,hsz8⟩:=HD7.out.app_pr HBK7.out HR7.out HL1.out HL2.out HL3.out (t:=(⟨some ⟨g,0,none⟩,s.prog.length,c5,s.prog.set k ⟨op,d,a,b⟩⟩:Lo Ln)) HVH.out ((Grow.refl w7).alloc _) hown8 hgr8 hat8;have hset:=(⟨hdst8,hd8⟩:_∧_);have HST:=jH hset;have hbx8:=hk8 x _ _ HBX7.out (by decide)
    have HBX8:=jH hbx8;obtain ⟨d0,_⟩:=zaw hb8;have z0:=zac hb8 0;have hxB:x≠B:=by rintro rfl;rw [hbx8] at hb8;cases hb8
    have HXB:=jH hxB;have hb9:(w8.setCell ⟨B,0,none⟩ (.slice a8 (L.length+1) c8)).heap[x]?=some (.cells #[.int .i64 op,.int .i64 d,.int .i64 a,.int .i64 b] 57 (0,0)):=by
     rw [Below.heap_setCell _ _ _ _ (by exact hxB)];exact hbx8
    have HB9:=jH hb9;have HDST:=jH ((Dst.of_grow (H:=H) HG7.out).trans hdst8);have HBS9:=jH (Nat.le_trans hbs hdst8.sz);clear hown8 hgr8 hat8 hset hdst8 hd8 hk8 hsz8 hbx8 hxB hb9 hb8 hbs c0;go_wp2_with fail;obtain ⟨w9,hw9⟩:∃ z:World,z=w8.setCell ⟨B,0,none⟩ (.slice a8 (L.length+1) c8):=⟨_,rfl⟩;rw [← hw9] at HST HB9 HBS9 HDST ⊢;have hd9:=HST.out.2;obtain ⟨V9,hbk9,hr9⟩:=hd9.blk;obtain ⟨M,m1,m2,m3⟩:=hr9.hi;have hml:s.hist.length=M.length:=by rw [show s.hist=M.map Lo.x from m2.symm,List.length_map]
    have hmm:({ dsB s with progs:=s.progs++[s.prog.set k ⟨op,d,a,b⟩] }:Ds).hist.length=M.length:=hml;rw [hmm] at m1;have HM1:=jH m1;have HM2:=jH (show M.map Lo.x=s.hist from m2);have HM3:=jH m3;have HR9:=jH hr9;have HMB:=jH (show M.length<100000000000 by rw [← hml];have:=HOK.out.h8;omega)
    have hc3:w9.cell? ⟨B,3,none⟩=some (.slice V9.ha M.length V9.hc):=by
     have h:=(zaw hbk9).2.2.2.1;rw [hmm] at h;exact h
    have HBKX:=jH hbk9;obtain ⟨CS,hcs,hbk9⟩:∃ cs,dkCells V9 { dsB s with progs:=s.progs++[s.prog.set k ⟨op,d,a,b⟩] }=cs∧w9.heap[B]?=some (.cells cs 46 (0,0)):=⟨_,rfl,hbk9⟩;have HCS:=jH hcs;have HBK9:=jH hbk9;have HD9:=jH hd9;have HC3:=jH hc3;clear hw9 hd9 hbk9 hr9 m1 m2 m3 hml hmm hcs hc3 d0 z0;refine wp_region_held_drew (S:=fun X=>X.heap[x]?=some (.cells #[.int .i64 op,.int .i64 d,.int .i64 a,.int .i64 b] 57 (0,0))) (by kernel_rfl) ((Grow.refl w9).drew.blk HB9.out) (fun hH=>?_)
    obtain ⟨W,hWe⟩:∃ W:World,W=w9.drew:=⟨_,rfl⟩;have HGW:=jH (show Grow w9 W by rw [hWe];exact (Grow.refl w9).drew)
    rw [← hWe] at hH ⊢;clear hWe;refine tkA 0 (.pointer (some ⟨B,0,none⟩)) rfl ?_ hH ?_
    ·intro w9 hw9;go_simp
    try simp only [nrm]
    refine tkA 1 (.pointer (some ⟨B,0,none⟩)) rfl ?_ hH ?_
    ·intro w9 hw9;go_simp
    try simp only [nrm]
    refine tkA 2 (.pointer (some ⟨B,0,none⟩)) rfl ?_ hH ?_
    ·intro w9 hw9;go_simp
    try simp only [nrm]
    refine tkA 3 (.pointer (some ⟨B,3,none⟩)) rfl ?_ hH ?_
    ·intro w9 hw9;go_simp
    try simp only [nrm]
    refine tkA 5 (.int .i64 (k:Int)) rfl ?_ hH ?_
    ·intro w9 hw9;go_simp
    try simp only [nrm]
    refine tkA 6 (.agg #[.int .i64 op,.int .i64 d,.int .i64 a,.int .i64 b]) rfl ?_ hH ?_
    ·intro w9 hw9;obtain ⟨g0,g1,g2,g3⟩:=box4 hw9;go_simp
    try simp only [nrm]
    refine tkA 7 (.agg #[.int .i64 (k:Int),.int .i64 op,.int .i64 d,.int .i64 a,.int .i64 b]) rfl ?_ hH ?_
    ·intro w9 hw9;go_simp
    try simp only [nrm]
    have HBW:=jH hH;clear hH
    apply zge
    rotate_left
    ·intro key;have hH:=HBW.out;refine tk2 4 8 rfl rfl (fun K hK=>?_) fun K hK=>?_
     ·
      have c3:=Grow.cell (show Grow w9 W from HGW.out) HC3.out;go_simp;refine hK.out _ _ hH ?_;clear hK K hH;intro hH;try simp only [nrm]
      clear c3;refine tk1 8 rfl fun K hK=>?_;go_simp;refine hK.out _ _ (((Grow.refl _).alloc _).blk hH) ?_;clear hK K hH;intro hH;try simp only [nrm]
      refine tk1 9 rfl fun K hK=>?_;go_simp;refine hK.out _ _ (((Grow.refl _).alloc _).blk hH) ?_;clear hK K hH;intro hH;try simp only [nrm]
      exact key.out
     ·
      go_simp;refine hK.out _ _ (((Grow.refl _).alloc _).blk hH) ?_;clear hK K hH;intro hH;try simp only [nrm]
      refine tk2 4 9 rfl rfl (fun K hK=>?_) fun K hK=>?_
      ·
       have c3:=Grow.cell (show Grow w9 (W.alloc (.cells #[.int .i64 (k:Int),.int .i64 op,.int .i64 d,.int .i64 a,.int .i64 b] 60)) from (HGW.out.alloc _)) HC3.out;go_simp;refine hK.out _ _ hH ?_;clear hK K hH;intro hH;try simp only [nrm]
       clear c3;refine tk1 9 rfl fun K hK=>?_;go_simp;refine hK.out _ _ (((Grow.refl _).alloc _).blk hH) ?_;clear hK K hH;intro hH;try simp only [nrm]
       exact key.out
      ·
       go_simp;refine hK.out _ _ (((Grow.refl _).alloc _).blk hH) ?_;clear hK K hH;intro hH;try simp only [nrm]
       refine tk1 4 rfl fun K hK=>?_;have c3:=Grow.cell (show Grow w9 ((W.alloc (.cells #[.int .i64 (k:Int),.int .i64 op,.int .i64 d,.int .i64 a,.int .i64 b] 60)).alloc (.cells #[.slice (some ⟨W.heap.size,0,none⟩) 1 1] 58)) from ((HGW.out.alloc _).alloc _)) HC3.out;go_simp;refine hK.out _ _ hH ?_;clear hK K hH;intro hH;try simp only [nrm]
       clear c3;exact key.out
    have hH:=(((Grow.refl W).alloc (.cells #[.int .i64 (k:Int),.int .i64 op,.int .i64 d,.int .i64 a,.int .i64 b] 60)).alloc (.cells #[.slice (some ⟨W.heap.size,0,none⟩) 1 1] 58)).blk HBW.out;refine tk1 10 rfl fun K hK=>?_;refine zjq rfl (.tmp 59) (.tmp 64) 44 rfl base 58 underlying44 zdv rfl (by decide) (by decide) encLo zaz zce (.slice V9.ha M.length V9.hc) M (by simp [Act.eval]) (DRow.keep HM1.out fun b9 o9 _ ho=>(show Grow w9 _ from ((HGW.out.alloc _).alloc _)).blk ho) ⟨W.heap.size+1,0,none⟩ (⟨some ⟨W.heap.size,0,none⟩,1,1,[⟨(k:Int),⟨op,d,a,b⟩⟩]⟩:Lo Ed) 1 (by simp [Act.eval]) (zsn W (.cells #[.int .i64 (k:Int),.int .i64 op,.int .i64 d,.int .i64 a,.int .i64 b] 60) (encLo (⟨some ⟨W.heap.size,0,none⟩,1,1,[⟨(k:Int),⟨op,d,a,b⟩⟩]⟩:Lo Ed)) 58) HMB.out (by have h1:=HBS9.out;have h2:=HGW.out.sz;simp;omega) ?_
    intro v11 w11 hown11 hgr11 hat11;have hwl:=show Grow w9 ((W.alloc (.cells #[.int .i64 (k:Int),.int .i64 op,.int .i64 d,.int .i64 a,.int .i64 b] 60)).alloc (.cells #[.slice (some ⟨W.heap.size,0,none⟩) 1 1] 58)) from ((HGW.out.alloc _).alloc _);have hey:EditsAt (W.alloc (.cells #[.int .i64 (k:Int),.int .i64 op,.int .i64 d,.int .i64 a,.int .i64 b] 60)) (.slice (some ⟨W.heap.size,0,none⟩) 1 1) [(⟨(k:Int),⟨op,d,a,b⟩⟩:Ed)]:=by
     refine ⟨_,_,rfl,by simp,by decide,.inr ⟨W.heap.size,0,rfl,by rw [World.size_alloc];omega,fun j y hy i u hu=>?_⟩⟩
     have hj:j=0:=by have:=(List.getElem?_eq_some_iff.1 hy).1;simpa using this
     subst hj;have hyy:(⟨(k:Int),⟨op,d,a,b⟩⟩:Ed)=y:=by simpa using hy
     subst hyy;have:=zbj W (encE (⟨(k:Int),⟨op,d,a,b⟩⟩:Ed)) 60 i u hu;rw [Addr.add_lit] at this;simpa [encE,encL] using this
    have hyh:=hey.hide (H:=H8) fun b9 o9 n9 c9 e=>.inl (by
     cases e;cases hh:H8 W.heap.size with
     | false=>rfl
     | true=>have h1:=HD9.out.hid.bd _ hh;have h2:=HGW.out.sz;omega)
    have hyh:=hyh.grow (((Grow.refl (W.alloc (.cells #[.int .i64 (k:Int),.int .i64 op,.int .i64 d,.int .i64 a,.int .i64 b] 60))).alloc (.cells #[.slice (some ⟨W.heap.size,0,none⟩) 1 1] 58)).hid H8);obtain ⟨a11,c11,H11,rfl,hb11,hdst11,hd11,hk11,_⟩:=HD9.out.app_hi1 HBKX.out HR9.out HM1.out HM2.out HM3.out (t:=(⟨some ⟨W.heap.size,0,none⟩,1,1,[⟨(k:Int),⟨op,d,a,b⟩⟩]⟩:Lo Ed)) hyh hwl hown11 hgr11 hat11;have hx11:=hk11 x _ _ HB9.out (by decide)
    have HF:=jH (HE.out 0 _ HPG.out _ H11 (HDST.out.trans hdst11) hd11);have HX11:=jH hx11;have HB11:=jH hb11;clear hown11 hgr11 hat11 hwl hdst11 hd11 hk11 hey hyh hb11 hx11;refine hK.out _ _ HX11.out ?_;clear hK K hH;intro hH;try simp only [nrm]
    refine tkA 11 (.pointer (some ⟨B,0,none⟩)) rfl ?_ hH ?_
    ·intro w9 hw9;go_simp
    try simp only [nrm]
    refine tkA 12 (.pointer (some ⟨B,3,none⟩)) rfl ?_ hH ?_
    ·intro w9 hw9;go_simp
    try simp only [nrm]
    refine tk1 13 rfl fun K hK=>?_;obtain ⟨_,_,_,d3,_⟩:=zaw HB11.out;have z3:=zac HB11.out 3;go_simp;refine hK.out _ _ (by rw [Below.heap_setCell _ _ _ _ (by exact HXB.out)];exact HX11.out) ?_
    clear hK K hH;intro hH;try simp only [nrm]
    clear d3 z3;refine wpAnyH_done (by kernel_rfl) ?_ _
    clear hH;go_wp2_with fail;exact HF.out
set_option maxRecDepth 100000
set_option maxHeartbeats 4000000
theorem zwa {w:World} {v:Value} {x0 x1 x2 x3 x4:Int} (h:IntsAt w v [x0,x1,x2,x3,x4]):∃ b o c,v=.slice (some ⟨b,o,none⟩) 5 c∧5≤c∧c≤9223372036854775807:=by
 obtain ⟨a,c,e,h1,h2,h4⟩:=h;rcases h4 with h4 | ⟨b,o,e2,_⟩
 ·cases h4.1
 ·exact ⟨b,o,c,by rw [e,e2];rfl,h1,h2⟩
theorem zjx {w:World} {b o c:Nat} {x0 x1 x2 x3 x4:Int} (h:IntsAt w (.slice (some ⟨b,o,none⟩) 5 c) [x0,x1,x2,x3,x4]) :
  w.cell? ⟨b,o,none⟩=some (.int .i64 x0)∧w.cell? ⟨b,o+1,none⟩=some (.int .i64 x1)∧w.cell? ⟨b,o+2,none⟩=some (.int .i64 x2)∧w.cell? ⟨b,o+3,none⟩=some (.int .i64 x3)∧w.cell? ⟨b,o+4,none⟩=some (.int .i64 x4):=by
 obtain ⟨a,c',e,_,_,h4⟩:=h;injection e with e1 e2 e3;rcases h4 with h4 | ⟨b',o',e2,_,hc⟩
 ·cases h4.1
 ·rw [e2] at e1;cases e1;exact ⟨by have:=zbb hc 0 x0 rfl;simpa using this,zbb hc 1 x1 rfl,zbb hc 2 x2 rfl,zbb hc 3 x3 rfl,zbb hc 4 x4 rfl⟩
theorem zuo (base:Nat) (H:Nat→Bool) (B:Nat) (s:Bn) (ok:OkB s) (x0 x1 x2 x3 x4:Int) (v:Value) (w:World) (hd:DkAt base H B w (dsB s)) (hbase:base≤w.heap.size) (hv:IntsAt (hideW H w) v [x0,x1,x2,x3,x4]) (R:Ending→World→Prop)
  (hR:∀ w' H',Dst H w H' w'→DkAt base H' B w' (dsB (putB s x0 ⟨x1,x2,x3,x4⟩).2)→R (.returned (.int .i64 (putB s x0 ⟨x1,x2,x3,x4⟩).1)) w') :
  Calls Tryz.prog 39 #[.pointer (some ⟨B,0,none⟩),.string ⟨#[112,117,116]⟩,v] w R:=by
 obtain ⟨b,o,c,rfl,k1,k2⟩:=zwa hv;have HR:=jH hR;have HD:=jH hd;have HV:=jH hv;have HBS:=jH hbase;clear hR hd hv hbase
 go_enter func39,ntmps39
 go_wp2_with fail;refine wp_region_held_drew (S:=fun X=>IntsAt X (.slice (some ⟨b,o,none⟩) 5 c) [x0,x1,x2,x3,x4]) (by kernel_rfl) ((HV.out.unhide.grow (Grow.refl w).drew)) (fun hH=>?_)
 obtain ⟨W,hWe⟩:∃ W:World,W=w.drew:=⟨_,rfl⟩;have HGW:=jH (show Grow w W by rw [hWe];exact (Grow.refl w).drew)
 rw [← hWe] at hH ⊢;clear hWe;refine tkA 0 (.pointer (some ⟨B,0,none⟩)) rfl ?_ hH ?_
 ·intro w9 hw9;go_simp
 try simp only [nrm]
 refine tkA 1 (.slice (some ⟨b,o,none⟩) 5 c) rfl ?_ hH ?_
 ·intro w9 hw9;go_simp
 try simp only [nrm]
 refine tkA 2 (.pointer (some ⟨b,o,none⟩)) rfl ?_ hH ?_
 ·intro w9 hw9;go_simp
 try simp only [nrm]
 refine tkA 3 (.int .i64 x0) rfl ?_ hH ?_
 ·intro w9 hw9;obtain ⟨g0,g1,g2,g3,g4⟩:=zjx hw9;go_simp
 try simp only [nrm]
 refine tkA 4 (.slice (some ⟨b,o,none⟩) 5 c) rfl ?_ hH ?_
 ·intro w9 hw9;go_simp
 try simp only [nrm]
 refine tkA 5 (.pointer (some ⟨b,o+1,none⟩)) rfl ?_ hH ?_
 ·intro w9 hw9;go_simp
 try simp only [nrm]
 refine tkA 6 (.int .i64 x1) rfl ?_ hH ?_
 ·intro w9 hw9;obtain ⟨g0,g1,g2,g3,g4⟩:=zjx hw9;go_simp
 try simp only [nrm]
 refine tkA 7 (.slice (some ⟨b,o,none⟩) 5 c) rfl ?_ hH ?_
 ·intro w9 hw9;go_simp
 try simp only [nrm]
 refine tkA 8 (.pointer (some ⟨b,o+2,none⟩)) rfl ?_ hH ?_
 ·intro w9 hw9;go_simp
 try simp only [nrm]
 refine tkA 9 (.int .i64 x2) rfl ?_ hH ?_
 ·intro w9 hw9;obtain ⟨g0,g1,g2,g3,g4⟩:=zjx hw9;go_simp
 try simp only [nrm]
 refine tkA 10 (.slice (some ⟨b,o,none⟩) 5 c) rfl ?_ hH ?_
 ·intro w9 hw9;go_simp
 try simp only [nrm]
 refine tkA 11 (.pointer (some ⟨b,o+3,none⟩)) rfl ?_ hH ?_
 ·intro w9 hw9;go_simp
 try simp only [nrm]
 refine tkA 12 (.int .i64 x3) rfl ?_ hH ?_
 ·intro w9 hw9;obtain ⟨g0,g1,g2,g3,g4⟩:=zjx hw9;go_simp
 try simp only [nrm]
 refine tkA 13 (.slice (some ⟨b,o,none⟩) 5 c) rfl ?_ hH ?_
 ·intro w9 hw9;go_simp
 try simp only [nrm]
 refine tkA 14 (.pointer (some ⟨b,o+4,none⟩)) rfl ?_ hH ?_
 ·intro w9 hw9;go_simp
 try simp only [nrm]
 refine tkA 15 (.int .i64 x4) rfl ?_ hH ?_
 ·intro w9 hw9;obtain ⟨g0,g1,g2,g3,g4⟩:=zjx hw9;go_simp
 try simp only [nrm]
 refine tkA 16 (.agg #[.int .i64 x1,.int .i64 x2,.int .i64 x3,.int .i64 x4]) rfl ?_ hH ?_
 ·intro w9 hw9;go_simp
 try simp only [nrm]
 refine tk1 17 rfl fun K hK=>?_;go_simp;refine rPut_any base H B s ok x0 x1 x2 x3 x4 _ (HD.out.grow HGW.out) (Nat.le_trans HBS.out HGW.out.sz) _ ?_;intro w2 H2 d2 hd2;have HF:=jH (HR.out w2 H2 ((Dst.of_grow HGW.out).trans d2) hd2);obtain ⟨e2,he2⟩:∃ e,(putB s x0 ⟨x1,x2,x3,x4⟩).1=e:=⟨_,rfl⟩;rw [he2] at HF ⊢;have hi2:IntsAt w2 (.slice (some ⟨b,o,none⟩) 5 c) [x0,x1,x2,x3,x4]:=((HV.out.grow (HGW.out.hid H)).grow d2.g).unhide;clear d2 hd2 he2;go_wp2_with fail;refine hK.out _ _ hi2 ?_;clear hK K hH;intro hH;try simp only [nrm]
 clear hi2;refine tkA 18 (.int .i64 e2) rfl ?_ hH ?_
 ·intro w9 hw9;go_simp
 try simp only [nrm]
 refine wpAnyH_done (by kernel_rfl) ?_ _
 clear hH;go_wp2_with fail;exact HF.out
theorem zrh {w:World} {v:Value} {x0:Int} (h:IntsAt w v [x0]):∃ b o c,v=.slice (some ⟨b,o,none⟩) 1 c∧w.cell? ⟨b,o,none⟩=some (.int .i64 x0):=by
 obtain ⟨a,c,e,h1,h2,h4⟩:=h;rcases h4 with h4 | ⟨b,o,e2,_,hc⟩
 ·cases h4.1
 ·exact ⟨b,o,c,by rw [e,e2];rfl,by have:=zbb hc 0 x0 rfl;simpa using this⟩
theorem zqm (base:Nat) (H:Nat→Bool) (B:Nat) (s:Bn) (ok:OkB s) (x0:Int) (v:Value) (w:World) (hd:DkAt base H B w (dsB s)) (hv:IntsAt w v [x0]) (R:Ending→World→Prop)
  (hR:∀ w' H',Dst H w H' w'→DkAt base H' B w' (dsB (lockB s x0).2)→R (.returned (.int .i64 (lockB s x0).1)) w') :
  Calls Tryz.prog 39 #[.pointer (some ⟨B,0,none⟩),.string ⟨#[108,111,99,107]⟩,v] w R:=by
 obtain ⟨b,o,c,rfl,k1⟩:=zrh hv;have HR:=jH hR;have HD:=jH hd;clear hR hd hv
 go_enter func39,ntmps39
 go_wp2_with fail;refine zzj base H B s ok x0 _ HD.out _ ?_;intro w2 H2 d2 hd2;have HF:=jH (HR.out w2 H2 d2 hd2);obtain ⟨e2,he2⟩:∃ e,(lockB s x0).1=e:=⟨_,rfl⟩;rw [he2] at HF ⊢;clear d2 hd2 he2;go_wp2_with fail;exact HF.out
set_option maxRecDepth 100000
set_option maxHeartbeats 4000000
theorem zpd (base:Nat) (H:Nat→Bool) (B:Nat) (s:Bn) (ok:OkB s) (v:Value) (w:World) (hd:DkAt base H B w (dsB s)) (R:Ending→World→Prop)
  (hR:∀ w' H',Dst H w H' w'→DkAt base H' B w' (dsB (verifyB s).2)→R (.returned (.int .i64 (verifyB s).1)) w') :
  Calls Tryz.prog 39 #[.pointer (some ⟨B,0,none⟩),.string ⟨#[99,104,101,99,107]⟩,v] w R:=by
 have hE:∀ e s2,verifyB s=(e,s2)→∀ w' H',Dst H w H' w'→DkAt base H' B w' (dsB s2)→R (.returned (.int .i64 e)) w':=fun e s2 h w' H' h1 h2=>by
  have h3:=hR w' H' h1;rw [h] at h3;exact h3 h2
 have hS:∀ e,verifyB s=(e,s)→∀ w',Grow w w'→R (.returned (.int .i64 e)) w':=fun e h w' g=>hE e s h w' H (Dst.of_grow g) (hd.grow g);have HE:=jH hE;have HS:=jH hS;have HD:=jH hd;have HOK:=jH ok;have hne:(dsB s).progs≠[]:=by intro e;have h:=ok.len;have e2:s.progs=[]:=e;rw [e2] at h;simp at h
 have HNE:=jH hne;have HPD:=jH (show verifyB s=_ from by unfold verifyB;rfl)
 obtain ⟨V,hbk,hr⟩:=hd.blk;obtain ⟨_,c1,_⟩:=zaw hbk;have htl:(dsB s).tests.length=s.tests.length:=rfl;rw [htl] at c1;clear hR hE hS hd ok hne hbk hr htl
 go_enter func39,ntmps39
 by_cases h0:s.tests.length=0
 ·have HF:=jH (HS.out 8 (HPD.out.trans (if_pos h0)) w (Grow.refl w));rw [h0] at c1;go_wp2_with fail;exact HF.out
 have HPD1:=jH (HPD.out.trans (if_neg h0));have h0z:((s.tests.length:Int) == 0)=false:=by rw [beq_eq_false_iff_ne];omega
 clear h0;go_wp2_with fail;refine zfk base H B (dsB s) _ HD.out HNE.out HOK.out.tst HOK.out.valp _ ?_;intro w1 fv hg1 hf1;have hf2:IntsAt w1 fv (failB s.prog s.tests):=by rw [zhh HOK.out.chk];exact hf1.slc zal
 obtain ⟨fa,fc,rfl,q1,q2,jk⟩:=hf2;have HG1:=jH hg1;clear hg1 hf1 jk;by_cases hfl:0<(failB s.prog s.tests).length
 ·have HF:=jH (HS.out 7 (HPD1.out.trans (if_pos hfl)) w1 HG1.out);have hflz:decide (((failB s.prog s.tests).length:Int) > 0)=true:=by rw [decide_eq_true_eq];omega
  go_wp2_with fail;exact HF.out
 have HPD2:=jH (HPD1.out.trans (if_neg hfl));have hflz:decide (((failB s.prog s.tests).length:Int) > 0)=false:=by rw [decide_eq_false_iff_not];omega
 obtain ⟨V1,hbk1,hr1⟩:=(HD.out.grow HG1.out).blk;obtain ⟨_,_,_,_,_,c5,_⟩:=zaw hbk1;have hck:(dsB s).checks=s.checks:=rfl;rw [hck] at c5;have z5:=zac hbk1 5;have hset:=(HD.out.grow HG1.out).set_num 5 (s.checks+1) (dsB { s with checks:=s.checks+1 }) ⟨rfl,rfl,rfl,rfl,rfl⟩ (fun V=>by unfold dkCells dsB;rfl)
 have HF:=jH (HE.out 0 _ HPD2.out _ H ((Dst.of_grow HG1.out).trans hset.1) hset.2);have hckb:=HOK.out.ck;have hord:=HOK.out.ord;have hw64:IntKind.i64.wrap (s.checks+1)=s.checks+1:=IntWalk.i64_in _ (by omega)
 clear hbk1 hr1 hck hset hckb hord;go_wp2_with fail;exact HF.out
set_option maxRecDepth 100000
set_option maxHeartbeats 16000000
theorem rFix_any (base:Nat) (H:Nat→Bool) (B:Nat) (s:Bn) (ok:OkB s) (w:World) (hd:DkAt base H B w (dsB s)) (hbase:base≤w.heap.size) (R:Ending→World→Prop)
  (hR:∀ w' H',Dst H w H' w'→DkAt base H' B w' (dsB (fixBn s).2)→R (.returned (.int .i64 (fixBn s).1)) w') :
  Calls Tryz.prog 79 #[.pointer (some ⟨B,0,none⟩)] w R:=by
 have hE:∀ e s2,fixBn s=(e,s2)→∀ w' H',Dst H w H' w'→DkAt base H' B w' (dsB s2)→R (.returned (.int .i64 e)) w':=fun e s2 h w' H' h1 h2=>by
  have h3:=hR w' H' h1;rw [h] at h3;exact h3 h2
 have hS:∀ e,fixBn s=(e,s)→∀ w',Grow w w'→R (.returned (.int .i64 e)) w':=fun e h w' g=>hE e s h w' H (Dst.of_grow g) (hd.grow g);have HE:=jH hE;have HS:=jH hS;have HD:=jH hd;have HOK:=jH ok;have hne:(dsB s).progs≠[]:=by intro e;have h:=ok.len;have e2:s.progs=[]:=e;rw [e2] at h;simp at h
 have HNE:=jH hne;have HBS:=jH hbase;clear hR hE hS hd ok hne hbase
 go_enter func79,ntmps79
 go_wp2_with fail;refine zfk base H B (dsB s) _ HD.out HNE.out HOK.out.tst HOK.out.valp _ ?_;intro w1 fv hg1 hf1;have hf2:IntsAt w1 fv (failB s.prog s.tests):=by rw [zhh HOK.out.chk];exact hf1.slc zal
 obtain ⟨fa,fc,rfl,q1,q2,jk⟩:=hf2;have HG1:=jH hg1;clear hg1 hf1 jk;by_cases hfl:(failB s.prog s.tests).length=0
 ·have HF:=jH (HS.out 8 (by unfold fixBn;rw [if_pos hfl]) w1 HG1.out)
  rw [hfl];clear hfl q1 q2;go_wp2_with fail;exact HF.out
 have HFL:=jH hfl;have hflz:(((failB s.prog s.tests).length:Int) == 0)=false:=by rw [beq_eq_false_iff_ne];omega
 obtain ⟨V,hbk,hr⟩:=(HD.out.grow HG1.out).blk;obtain ⟨c0,c1,_,c3,_⟩:=zaw hbk;have hhl:(dsB s).hist.length=s.hist.length:=rfl;rw [hhl] at c3;obtain ⟨T,t1,t2,t3⟩:=hr.ts;have HTQ:=jH (show TqAt w1 (.slice V.ta (dsB s).tests.length V.tc) T from ⟨DRow.slc zat t1,fun q hq=>(t3 q hq).unhide⟩);have HTP:=jH (show T.map Tq.p=s.tests from t2);clear hbk hr t1 t2 t3 hhl hfl;by_cases h8:8≤s.hist.length
 ·have h88:s.hist.length=8:=by have:=HOK.out.h8;omega
  have HF:=jH (HS.out 3 (by unfold fixBn;rw [if_neg HFL.out,if_pos h88]) w1 HG1.out)
  have h8z:decide ((s.hist.length:Int)≥8)=true:=by rw [decide_eq_true_eq];omega
  clear h88;go_wp2_with fail;exact HF.out
 have H8:=jH h8;have h8z:decide ((s.hist.length:Int)≥8)=false:=by rw [decide_eq_false_iff_not];omega
 obtain ⟨ta,tn,htn⟩:∃ a n,(Value.slice V.ta (dsB s).tests.length V.tc)=.slice a n V.tc:=⟨_,_,rfl⟩;rw [htn] at c1 HTQ;have HC1:=jH c1;clear htn c0 h8 q1 q2;go_wp2_with fail;refine wp_region_held_drew (S:=fun X=>Grow w1 X) (by kernel_rfl) ((Grow.refl w1).drew) (fun hH=>?_)
 refine tkA 0 (.pointer (some ⟨B,0,none⟩)) rfl ?_ hH ?_
 ·intro w9 hw9;go_simp
 try simp only [nrm]
 refine tkA 2 (.pointer (some ⟨B,0,none⟩)) rfl ?_ hH ?_
 ·intro w9 hw9;go_simp
 try simp only [nrm]
 refine tkA 3 (.pointer (some ⟨B,0,none⟩)) rfl ?_ hH ?_
 ·intro w9 hw9;go_simp
 try simp only [nrm]
 refine tkA 4 (.pointer (some ⟨B,1,none⟩)) rfl ?_ hH ?_
 ·intro w9 hw9;go_simp
 try simp only [nrm]
 refine tkA 5 (.slice ta tn V.tc) rfl ?_ hH ?_
 ·intro w9 hw9;have z9:=Grow.cell hw9 HC1.out;go_simp
 try simp only [nrm]
 refine tk1 1 rfl fun K hK=>?_;go_simp;refine zcv base H B (dsB s) _ (HD.out.grow (HG1.out.trans hH)) HNE.out _ ?_;intro w2 pv hg2 hpv;have HPV:=jH (show LinesAt w2 pv s.prog from hpv.unhide);clear hpv;go_wp2_with fail;refine hK.out _ _ (hH.trans hg2) ?_;clear hK K hH;intro hH;try simp only [nrm]
 have HG2:=jH (show Grow w1 w2 from hH);clear hg2;refine tk1 6 rfl fun K hK=>?_;go_simp;refine zox s.prog (T.map Tq.t) _ _ _ HPV.out ((HTQ.out.grow HG2.out).tests) _ ?_;intro w3 xv x n okb hg3 hxv hrep;have hrep2:=zxj hrep;rw [noV_t,HTP.out] at hrep2;have HRP:=jH hrep2;have HXV:=jH (show EdN w1.heap.size w3 xv x from ⟨hxv.1,hxv.2.mono HG2.out.sz⟩);obtain ⟨⟨xa,xc,rfl,_,_,jk4⟩,jk5⟩:=hxv;obtain ⟨er,her⟩:∃ e,sgtE s.prog (T.map Tq.t) 0=e:=⟨_,rfl⟩;rw [her];clear jk4 jk5 hrep hrep2 her;go_wp2_with fail;refine hK.out _ _ (hH.trans hg3) ?_;clear hK K hH;intro hH;try simp only [nrm]
 clear hg3;refine tkA 7 (.tuple #[.slice xa x.length xc,.int .i64 n,.bool okb,.int .i64 er]) rfl ?_ hH ?_
 ·intro w9 hw9;go_simp
 try simp only [nrm]
 refine tkA 8 (.slice xa x.length xc) rfl ?_ hH ?_
 ·intro w9 hw9;go_simp
 try simp only [nrm]
 refine tkA 9 (.int .i64 n) rfl ?_ hH ?_
 ·intro w9 hw9;go_simp
 try simp only [nrm]
 refine tkA 10 (.bool okb) rfl ?_ hH ?_
 ·intro w9 hw9;go_simp
 try simp only [nrm]
 refine tkA 11 (.int .i64 er) rfl ?_ hH ?_
 ·intro w9 hw9;go_simp
 try simp only [nrm]
 refine tkA 12 (.slice xa x.length xc) rfl ?_ hH ?_
 ·intro w9 hw9;go_simp
 try simp only [nrm]
 refine tkA 13 (.int .i64 n) rfl ?_ hH ?_
 ·intro w9 hw9;go_simp
 try simp only [nrm]
 refine tkA 14 (.bool okb) rfl ?_ hH ?_
 ·intro w9 hw9;go_simp
 try simp only [nrm]
 refine tkA 15 (.int .i64 er) rfl ?_ hH ?_
 ·intro w9 hw9;go_simp
 try simp only [nrm]
 refine wpAnyH_done (by kernel_rfl) ?_ _
 have HG3:=jH (show Grow w1 (_) from hH);clear hH;cases okb with
 | false=>
  have HF:=jH (HS.out 4 (fix_D HOK.out HFL.out H8.out HRP.out) _ (HG1.out.trans HG3.out));go_wp2_with fail;exact HF.out
 | true=>
 have HFX:=jH (fix_D HOK.out HFL.out H8.out HRP.out);obtain ⟨g1,g2,_⟩:=zse HRP.out;have hc:=zdn.1 g1;have HVP:=jH hc.1;have HVX:=jH hc.2.1;have hin:∀ e∈x,0≤e.at_∧e.at_<(s.prog.length:Int):=fun e he=>by
  obtain ⟨i,hi⟩:=List.getElem?_of_mem he;refine ⟨(zde (zdm.1 hc.2.1).2 hi).1.1,?_⟩;by_cases h:e.at_<(s.prog.length:Int)
  ·exact h
  ·have h9:=hc.2.2.2;unfold offB at h9;rw [List.any_eq_false] at h9;exact absurd (decide_eq_true (by omega:(s.prog.length:Int)≤e.at_)) (h9 e he)
 have HIN:=jH hin;clear g1 g2 hc hin;go_wp2_with fail;refine zcv base H B (dsB s) _ (HD.out.grow (HG1.out.trans HG3.out)) HNE.out _ ?_;intro w4 pv4 hg4 hpv4;have HPV4:=jH (show LinesAt w4 pv4 s.prog from hpv4.unhide);have HG4:=jH (HG3.out.trans hg4);have HX4:=jH (HXV.out.grow hg4);clear hg4 hpv4;go_wp2_with fail;refine rDo4_any s.prog x _ _ _ HPV4.out HX4.out.1 HVP.out HVX.out HIN.out _ ?_;intro w5 v5 hg5 ho5;have HG5:=jH (HG1.out.trans (HG4.out.trans hg5));have HX5:=jH (HX4.out.grow hg5);have hd5:=HD.out.grow HG5.out;have hns:=NewS.of_own ho5;obtain ⟨T5,how5⟩:=ho5;have hs5:=zaa zab how5;have hh5:=hs5.hide_new hns (H:=H) fun b hb=>by
  cases hx:H b with
  | false=>rfl
  | true=>have h1:=HD.out.hid.bd b hx;have h2:=HG1.out.sz;have h3:=HG4.out.sz;omega
 obtain ⟨a5,c5,rfl,_,_,jk⟩:=hs5;obtain ⟨P2,hP2⟩:∃ z,doM s.prog x=z:=⟨_,rfl⟩;rw [hP2] at hh5 ⊢;have HP2:=jH hP2;have HH5:=jH hh5;obtain ⟨V5',hbk5,hr5⟩:=hd5.blk;obtain ⟨d0,_⟩:=zaw hbk5;obtain ⟨L,l1,l2,l3⟩:=hr5.pr;have hLl:L.length=s.progs.length:=by rw [show s.progs=L.map Lo.x from l2.symm,List.length_map]
 have hpp:(dsB s).progs.length=L.length:=hLl.symm;rw [hpp] at d0 l1;have HL1:=jH l1;have HL2:=jH l2;have HL3:=jH l3;have HLB:=jH (show L.length<100000000000 by rw [hLl,HOK.out.len];have:=HOK.out.h8;omega)
 have HR5:=jH hr5;have HBK5:=jH hbk5;have HD5:=jH hd5;have hbs:base≤w5.heap.size:=Nat.le_trans HBS.out HG5.out.sz;clear hg5 hd5 hns how5 hh5 jk hP2 hbk5 hr5 l1 l2 l3 hLl hpp;go_wp2_with (at_builtin;refine Classical.byContradiction (fun hcon=>?_));refine hcon ?_;clear hcon;refine zdw _ rfl (.tmp 44) (.tmp 46) 41 rfl base 22 underlying41 zfz rfl (by decide) (by decide) encLo zaz zce (.slice V5'.pa L.length V5'.pc) L rfl (DRow.keep HL1.out fun b' o' _ ho=>((Grow.refl w5).alloc _).blk ho) _ (⟨a5,P2.length,c5,P2⟩:Lo Ln) 1 rfl (zbj w5 (encLo (⟨a5,P2.length,c5,P2⟩:Lo Ln)) 22) HLB.out (by simp;omega) ?_
 intro v6 w6 hown6 hgr6 hat6;obtain ⟨a6,c6,H6,rfl,hb6,hdst6,hd6,_,_⟩:=HD5.out.app_pr HBK5.out HR5.out HL1.out HL2.out HL3.out HH5.out ((Grow.refl w5).alloc _) hown6 hgr6 hat6;have e0:=zaw hb6;have z0:=zac hb6 0;have HDS6:=jH ((Dst.of_grow HG5.out).trans hdst6);have HD6:=jH hd6;have HX6:=jH (((HX5.out.1.hide_new HX5.out.2 (H:=H) fun b hb=>by
  cases hx:H b with
  | false=>rfl
  | true=>have h1:=HD.out.hid.bd b hx;have h2:=HG1.out.sz;omega).grow hdst6.g))
 have hbs6:base≤(w6.setCell ⟨B,0,none⟩ (.slice a6 (L.length+1) c6)).heap.size:=Nat.le_trans hbs hdst6.sz;clear hown6 hgr6 hat6 hb6 hdst6 hd6 hbs;obtain ⟨e0,_⟩:=e0
 go_upto_region 10 with fail
 change Code.wp _ _ _ _ (w6.setCell ⟨B,0,none⟩ (.slice a6 (L.length+1) c6));obtain ⟨w7,hw7⟩:∃ z:World,z=w6.setCell ⟨B,0,none⟩ (.slice a6 (L.length+1) c6):=⟨_,rfl⟩;rw [← hw7] at HD6 HDS6 HX6 hbs6 ⊢;have hd7:=HD6.out;obtain ⟨V7,hbk7,hr7⟩:=hd7.blk;obtain ⟨_,_,_,u3,_⟩:=zaw hbk7;obtain ⟨M,m1,m2,m3⟩:=hr7.hi;have hMl:s.hist.length=M.length:=by rw [show s.hist=M.map Lo.x from m2.symm,List.length_map]
 have hmm:({ dsB s with progs:=s.progs++[P2] }:Ds).hist.length=M.length:=hMl;have hmm2:({ dsB s with progs:=(dsB s).progs++[P2] }:Ds).hist.length=M.length:=hMl;have u3':w7.cell? ⟨B,3,none⟩=some (.slice V7.ha M.length V7.hc):=by rw [← hmm];exact u3
 have m1':DRow w7 base 58 1 (.slice V7.ha M.length V7.hc) M.length (M.flatMap encLo):=by
  have h:=m1;rw [show ({ dsB s with progs:=(dsB s).progs++[(⟨a5,P2.length,c5,P2⟩:Lo Ln).x] }:Ds).hist.length=M.length from hMl] at h;exact h
 have HM1:=jH m1';have HM2:=jH m2;have HM3:=jH m3;have HR7:=jH hr7;have HBK7:=jH hbk7;have HMB:=jH (show M.length<100000000000 by rw [← hMl];have:=HOK.out.h8;omega)
 clear hw7 hd7 hbk7 hr7 m1 m2 m3 m1' u3 hMl hmm hmm2 e0 z0 d0;go_wp2_with (at_builtin;refine Classical.byContradiction (fun hcon=>?_));refine hcon ?_;clear hcon;refine zdw _ rfl (.tmp 54) (.tmp 56) 44 rfl base 58 underlying44 zdv rfl (by decide) (by decide) encLo zaz zce (.slice V7.ha M.length V7.hc) M rfl (DRow.keep HM1.out fun b' o' _ ho=>((Grow.refl w7).alloc _).blk ho) _ (⟨xa,x.length,xc,x⟩:Lo Ed) 1 rfl (zbj w7 (encLo (⟨xa,x.length,xc,x⟩:Lo Ed)) 58) HMB.out (by simp;omega) ?_
 intro v8 w8 hown8 hgr8 hat8;obtain ⟨a8,c8,H8',rfl,hb8,hdst8,hd8,_,_⟩:=HD6.out.app_hi HBK7.out HR7.out HM1.out HM2.out HM3.out (t:=(⟨xa,x.length,xc,x⟩:Lo Ed)) HX6.out ((Grow.refl w7).alloc _) hown8 hgr8 hat8;have e0:=zaw hb8;have z0:=zac hb8 3;have HDS8:=jH (HDS6.out.trans hdst8);have HD8:=jH hd8;obtain ⟨_,_,_,e3,_⟩:=e0;clear hown8 hgr8 hat8 hb8 hdst8 hd8 hbs6 u3'
 go_upto_region 11 with fail
 change Code.wp _ _ _ _ (w8.setCell ⟨B,3,none⟩ (.slice a8 (M.length+1) c8));obtain ⟨w9,hw9⟩:∃ z:World,z=w8.setCell ⟨B,3,none⟩ (.slice a8 (M.length+1) c8):=⟨_,rfl⟩;rw [← hw9] at HD8 HDS8 ⊢;obtain ⟨V9,hbk9,_⟩:=HD8.out.blk;obtain ⟨_,_,_,_,u4,_⟩:=zaw hbk9;have z4:=zac hbk9 4;have hfx:(dsB s).fixes=s.fixes:=rfl;have hset:=HD8.out.set_num 4 (s.fixes+1) (dsB { s with progs:=s.progs++[P2],hist:=s.hist++[x],fixes:=s.fixes+1 }) ⟨rfl,rfl,rfl,rfl,rfl⟩ (fun V=>by unfold dkCells dsB;rfl)
 have HF:=jH (HE.out 0 { s with progs:=s.progs++[P2],hist:=s.hist++[x],fixes:=s.fixes+1 } (by rw [HFX.out,← HP2.out];rfl) _ _ (HDS8.out.trans hset.1) hset.2)
 have hfxb:=HOK.out.fx;have hord:=HOK.out.ord;have hw64:IntKind.i64.wrap (s.fixes+1)=s.fixes+1:=IntWalk.i64_in _ (by omega)
 have u4':w9.cell? ⟨B,4,none⟩=some (.int .i64 s.fixes):=u4;clear hw9 hbk9 hset hfxb hord hfx u4 e3 z0;go_wp2_with fail;exact HF.out
set_option maxRecDepth 100000
set_option maxHeartbeats 16000000
theorem zbc {w:World} {base:Nat} {e:TypeId} {k n bx i:Nat} {v u:Value} {xs:List Value} (h:w.ownsRow base e k v n xs) (hb:v.ownBlock≠some bx):(w.setCell ⟨bx,i,none⟩ u).ownsRow base e k v n xs:=by
 refine ⟨h.1,h.2.imp id ?_⟩;rintro ⟨g,cap,cur,rfl,h1,h2,h3⟩;have hne:g≠bx:=by rintro rfl;exact hb rfl
 exact ⟨g,cap,cur,rfl,h1,by rw [Below.heap_setCell _ _ _ _ (by exact hne)];exact h2,h3⟩
theorem zwq {w:World} {v:Value} {x0 x1 x2 x3 x4 x5:Int} (h:IntsAt w v [x0,x1,x2,x3,x4,x5]):∃ b o c,v=.slice (some ⟨b,o,none⟩) 6 c∧6≤c∧c≤9223372036854775807:=by
 obtain ⟨a,c,e,h1,h2,h4⟩:=h;rcases h4 with h4 | ⟨b,o,e2,_⟩
 ·cases h4.1
 ·exact ⟨b,o,c,by rw [e,e2];rfl,h1,h2⟩
theorem six_at {w:World} {b o c:Nat} {x0 x1 x2 x3 x4 x5:Int} (h:IntsAt w (.slice (some ⟨b,o,none⟩) 6 c) [x0,x1,x2,x3,x4,x5]) :
  w.cell? ⟨b,o+4,none⟩=some (.int .i64 x4)∧w.cell? ⟨b,o+5,none⟩=some (.int .i64 x5):=by
 obtain ⟨a,c',e,_,_,h4⟩:=h;injection e with e1 e2 e3;rcases h4 with h4 | ⟨b',o',e2,_,hc⟩
 ·cases h4.1
 ·rw [e2] at e1;cases e1;exact ⟨zbb hc 4 x4 rfl,zbb hc 5 x5 rfl⟩
theorem znj (base:Nat) (H:Nat→Bool) (B:Nat) (s:Bn) (ok:OkB s) (x0:Int) (v:Value) (w:World) (hd:DkAt base H B w (dsB s)) (hbase:base≤w.heap.size) (hv:IntsAt w v [x0]) (R:Ending→World→Prop)
  (hR:∀ w' H',Dst H w H' w'→DkAt base H' B w' (dsB (forgetB s x0).2)→R (.returned (.int .i64 (forgetB s x0).1)) w') :
  Calls Tryz.prog 39 #[.pointer (some ⟨B,0,none⟩),.string ⟨#[102,111,114,103,101,116]⟩,v] w R:=by
 obtain ⟨b,o,c,rfl,k1⟩:=zrh hv;have HR:=jH hR;have HD:=jH hd;have HBS:=jH hbase;clear hR hd hv hbase
 go_enter func39,ntmps39
 go_wp2_with fail;refine zqh base H B s ok x0 _ HD.out HBS.out _ ?_;intro w2 H2 d2 hd2;have HF:=jH (HR.out w2 H2 d2 hd2);obtain ⟨e2,he2⟩:∃ e,(forgetB s x0).1=e:=⟨_,rfl⟩;rw [he2] at HF ⊢;clear d2 hd2 he2;go_wp2_with fail;exact HF.out
theorem zve (base:Nat) (H:Nat→Bool) (B:Nat) (s:Bn) (ok:OkB s) (v:Value) (w:World) (hd:DkAt base H B w (dsB s)) (hbase:base≤w.heap.size) (R:Ending→World→Prop)
  (hR:∀ w' H',Dst H w H' w'→DkAt base H' B w' (dsB (fixBn s).2)→R (.returned (.int .i64 (fixBn s).1)) w') :
  Calls Tryz.prog 39 #[.pointer (some ⟨B,0,none⟩),.string ⟨#[102,105,120]⟩,v] w R:=by
 have HR:=jH hR;have HD:=jH hd;have HBS:=jH hbase;clear hR hd hbase
 go_enter func39,ntmps39
 go_wp2_with fail;refine rFix_any base H B s ok _ HD.out HBS.out _ ?_;intro w2 H2 d2 hd2;have HF:=jH (HR.out w2 H2 d2 hd2);obtain ⟨e2,he2⟩:∃ e,(fixBn s).1=e:=⟨_,rfl⟩;rw [he2] at HF ⊢;clear d2 hd2 he2;go_wp2_with fail;exact HF.out
theorem zpr (base:Nat) (H:Nat→Bool) (B:Nat) (s:Bn) (ok:OkB s) (x0 x1 x2 x3 x4 x5:Int) (v:Value) (w:World) (hd:DkAt base H B w (dsB s)) (hbase:base≤w.heap.size) (hv:IntsAt (hideW H w) v [x0,x1,x2,x3,x4,x5]) (R:Ending→World→Prop)
  (hR:∀ w' H',Dst H w H' w'→DkAt base H' B w' (dsB (testB s [x0,x1,x2,x3] x4 x5).2)→R (.returned (.int .i64 (testB s [x0,x1,x2,x3] x4 x5).1)) w') :
  Calls Tryz.prog 39 #[.pointer (some ⟨B,0,none⟩),.string ⟨#[116,101,115,116]⟩,v] w R:=by
 have hE:∀ e s2,testB s [x0,x1,x2,x3] x4 x5=(e,s2)→∀ w' H',Dst H w H' w'→DkAt base H' B w' (dsB s2)→R (.returned (.int .i64 e)) w':=fun e s2 h w' H' h1 h2=>by
  have h3:=hR w' H' h1;rw [h] at h3;exact h3 h2
 have hS:∀ e,testB s [x0,x1,x2,x3] x4 x5=(e,s)→∀ w',Grow w w'→R (.returned (.int .i64 e)) w':=fun e h w' g=>hE e s h w' H (Dst.of_grow g) (hd.grow g);obtain ⟨b,o,c,rfl,k1,k2⟩:=zwq hv;have HE:=jH hE;have HS:=jH hS;have HD:=jH hd;have HOK:=jH ok;have HBS:=jH hbase;have HV:=jH hv.unhide;have HPD:=jH (test_D ok [x0,x1,x2,x3] x4 x5);have k3:(4:Int)≤(c:Int):=by omega
 clear hR hE hS hd ok hbase hv
 go_enter func39,ntmps39
 go_upto_region 18 with fail
 go_cut [8] from 95 to 105 (fun s8 wx=>∃ (bx:Nat) (la:Option Addr) (lc:Nat),s8=.pointer (some ⟨bx,0,none⟩)∧Grow w wx∧wx.ownsRow w.heap.size 3 1 (.slice la 4 lc) 4 ([x0,x1,x2,x3].flatMap encI)∧w.heap.size≤bx∧wx.heap[bx]?=some (.cells #[.slice la 4 lc,.int .i64 x4,.int .i64 x5] 63 (0,0)))
 case first=>
  go_wp2_with fail;refine wp_region_held_drew (S:=fun X=>IntsAt X (.slice (some ⟨b,o,none⟩) 6 c) [x0,x1,x2,x3,x4,x5]) (by kernel_rfl) (HV.out.grow (Grow.refl w).drew) (fun hH=>?_)
  obtain ⟨W,hWe⟩:∃ W:World,W=w.drew:=⟨_,rfl⟩;have HGW:=jH (show Grow w W by rw [hWe];exact (Grow.refl w).drew)
  rw [← hWe] at hH ⊢;clear hWe;refine tkA 1 (.slice (some ⟨b,o,none⟩) 6 c) rfl ?_ hH ?_
  ·intro w9 hw9;go_simp
  try simp only [nrm]
  refine tkA 2 (.slice (some ⟨b,o,none⟩) 4 c) rfl ?_ hH ?_
  ·intro w9 hw9;go_simp
  try simp only [nrm]
  refine tkA 4 (.slice (some ⟨b,o,none⟩) 6 c) rfl ?_ hH ?_
  ·intro w9 hw9;go_simp
  try simp only [nrm]
  refine tkA 5 (.pointer (some ⟨b,o+4,none⟩)) rfl ?_ hH ?_
  ·intro w9 hw9;go_simp
  try simp only [nrm]
  refine tkA 6 (.int .i64 x4) rfl ?_ hH ?_
  ·intro w9 hw9;obtain ⟨g4,g5⟩:=six_at hw9;go_simp
  try simp only [nrm]
  refine tkA 7 (.slice (some ⟨b,o,none⟩) 6 c) rfl ?_ hH ?_
  ·intro w9 hw9;go_simp
  try simp only [nrm]
  refine tkA 8 (.pointer (some ⟨b,o+5,none⟩)) rfl ?_ hH ?_
  ·intro w9 hw9;go_simp
  try simp only [nrm]
  refine tkA 9 (.int .i64 x5) rfl ?_ hH ?_
  ·intro w9 hw9;obtain ⟨g4,g5⟩:=six_at hw9;go_simp
  try simp only [nrm]
  have HGC0:=jH (Grow.refl W);obtain ⟨wz,hwz⟩:∃ n,n=W.heap.size:=⟨_,rfl⟩;have HWZ:=jH hwz;clear hwz;refine tk2 0 11 rfl rfl (fun K hK=>?_) fun K hK=>?_
  ·
   go_simp;refine hK.out _ _ (hH.grow ((Grow.refl _).alloc _)) ?_;clear hK K hH;intro hH;try simp only [nrm]
   obtain ⟨wL,hwL⟩:∃ z:World,z=W.alloc (.cells #[] 3):=⟨_,rfl⟩;have hgl:Grow W wL:=by rw [hwL];exact (Grow.refl _).alloc _
   have hol:wL.ownsRow wz 3 1 (.slice (some ⟨W.heap.size,0,none⟩) 0 0) ([]:List Int).length (([]:List Int).flatMap encI):=by rw [hwL];exact zah W 1 _ encI _ (by have h1:=HWZ.out;have h2:=HGC0.out.sz;omega)
   have hlsz:W.heap.size<wL.heap.size:=by rw [hwL,World.size_alloc];omega
   rw [← hwL] at hH ⊢;clear hwL;obtain ⟨lb,hlb⟩:∃ n,W.heap.size=n:=⟨_,rfl⟩;rw [hlb] at hol hlsz ⊢;have HOL:=jH hol;have HGC1:=jH (HGC0.out.trans hgl);clear hgl hol hlb;refine tk2 3 11 rfl rfl (fun K hK=>?_) fun K hK=>?_
   ·
    refine zec rfl (.tmp 95) (.tmp 97) 61 rfl wz 3 underlying61 zeo rfl (by decide) (by decide) encI zal zcx (.slice (some ⟨lb,0,none⟩) 0 0) [] (by simp [Act.eval]) HOL.out _ [x0,x1,x2,x3] (by simp [Act.eval]) (zhr (j:=4) hH (by simp)) (by simp) (by have h1:=HWZ.out;have h2:=HGC1.out.sz;omega) ?_
    intro vA wA hA grA hatA;have hgA:Grow W wA:=zae HOL.out grA (Nat.le_of_eq HWZ.out.symm) HGC1.out.sz HGC1.out;obtain ⟨la,lc,rfl,q1,q2,jk⟩:=zaa zal hA;simp only [List.nil_append,List.length_cons,List.length_nil,Nat.zero_add,Nat.reduceAdd] at hA hatA ⊢;clear jk q1 q2;have HOA:=jH hA;have HGC2:=jH hgA;have hHA:IntsAt wA (.slice (some ⟨b,o,none⟩) 6 c) [x0,x1,x2,x3,x4,x5]:=(HV.out.grow HGW.out).grow hgA;refine hK.out _ _ hHA ?_;clear hK K hH;intro hH;try simp only [nrm]
    clear hA grA hatA hgA hHA;refine tkA 10 (.agg #[.slice la 4 lc,.int .i64 x4,.int .i64 x5]) rfl ?_ hH ?_
    ·intro w9 hw9;go_simp
    try simp only [nrm]
    refine tk1 11 rfl fun K hK=>?_;go_simp;refine hK.out _ _ (hH.grow ((Grow.refl _).alloc _)) ?_;clear hK K hH;intro hH;try simp only [nrm]
    obtain ⟨wX,hwX⟩:∃ z:World,z=wA.alloc (.cells #[.slice none 0 0,.int .i64 0,.int .i64 0] 63):=⟨_,rfl⟩;have hgx:Grow wA wX:=by rw [hwX];exact (Grow.refl _).alloc _
    have hpb:wX.heap[wA.heap.size]?=some (.cells #[.slice none 0 0,.int .i64 0,.int .i64 0] 63 (0,0)):=by rw [hwX];exact heap_alloc_new _ _
    rw [← hwX] at hH ⊢;clear hwX;obtain ⟨bx,hbx⟩:∃ n,wA.heap.size=n:=⟨_,rfl⟩;have hnb:(Value.slice la 4 lc).ownBlock≠some bx:=by
     intro e;have:=(HOA.out.lt bx e).2;omega
    have HNB:=jH hnb;have HOA:=jH (Grow.owns hgx HOA.out);clear hnb;have hWb:W.heap.size≤bx:=by have:=HGC2.out.sz;omega
    rw [hbx] at hpb ⊢;have HPB:=jH hpb;have HGC3:=jH (HGC2.out.trans hgx);clear hgx hpb hbx;refine tk1 12 rfl fun K hK=>?_;have hzb:=HPB.out;have z0:=zac hzb 0;have z1:=zac hzb 1;have z2:=zac hzb 2;obtain ⟨d0,d1,d2⟩:=box3 hzb;have hpb:=zau (zau (zau hzb 0 (.slice la 4 lc)) 1 (.int .i64 x4)) 2 (.int .i64 x5);simp only [List.setIfInBounds_toArray,List.set_cons_zero,List.set_cons_succ] at hpb;have hg3:Grow W (((wX.setCell ⟨bx,0,none⟩ (.slice la 4 lc)).setCell ⟨bx,1,none⟩ (.int .i64 x4)).setCell ⟨bx,2,none⟩ (.int .i64 x5)):=Below.setCell (Below.setCell (Below.setCell HGC3.out hWb _) hWb _) hWb _;have ho3:=zbc (i:=2) (u:=.int .i64 x5) (zbc (i:=1) (u:=.int .i64 x4) (zbc (i:=0) (u:=.slice la 4 lc) HOA.out HNB.out) HNB.out) HNB.out;go_simp;refine hK.out _ _ ((HV.out.grow HGW.out).grow hg3) ?_;clear hK K hH;intro hH;try simp only [nrm]
    refine wpAnyH_done (by kernel_rfl) ?_ _
    clear z0 z1 z2 d0 d1 d2 hzb hH;have hww:w.heap.size≤wz:=by have h1:=HWZ.out;have h2:=HGW.out.sz;omega
    go_wp2_with fail;go_meet;exact ⟨bx,la,lc,rfl,HGW.out.trans hg3,zhu ho3 hww,Nat.le_trans HGW.out.sz hWb,hpb⟩
   ·
    go_simp;refine hK.out _ _ (hH.grow ((Grow.refl _).alloc _)) ?_;clear hK K hH;intro hH;try simp only [nrm]
    obtain ⟨wX,hwX⟩:∃ z:World,z=wL.alloc (.cells #[.slice none 0 0,.int .i64 0,.int .i64 0] 63):=⟨_,rfl⟩;have hgx:Grow wL wX:=by rw [hwX];exact (Grow.refl _).alloc _
    have hpb:wX.heap[wL.heap.size]?=some (.cells #[.slice none 0 0,.int .i64 0,.int .i64 0] 63 (0,0)):=by rw [hwX];exact heap_alloc_new _ _
    rw [← hwX] at hH ⊢;clear hwX;obtain ⟨bx,hbx⟩:∃ n,wL.heap.size=n:=⟨_,rfl⟩;have hne:bx≠lb:=by omega
    have HOL:=jH (Grow.owns hgx HOL.out);have hWb:W.heap.size≤bx:=by have:=HGC1.out.sz;omega
    rw [hbx] at hpb ⊢;have HPB:=jH hpb;have HGC2:=jH (HGC1.out.trans hgx);have hlsz:lb<wX.heap.size:=Nat.lt_of_lt_of_le hlsz hgx.sz;clear hgx hpb hbx;refine tk1 3 rfl fun K hK=>?_;refine zec rfl (.tmp 95) (.tmp 97) 61 rfl wz 3 underlying61 zeo rfl (by decide) (by decide) encI zal zcx (.slice (some ⟨lb,0,none⟩) 0 0) [] (by simp [Act.eval]) HOL.out _ [x0,x1,x2,x3] (by simp [Act.eval]) (zhr (j:=4) hH (by simp)) (by simp) (by have h1:=HWZ.out;have h2:=HGC2.out.sz;omega) ?_
    intro vA wA hA grA hatA;have hgA:Grow W wA:=zae HOL.out grA (Nat.le_of_eq HWZ.out.symm) HGC2.out.sz HGC2.out;obtain ⟨la,lc,rfl,q1,q2,jk⟩:=zaa zal hA;simp only [List.nil_append,List.length_cons,List.length_nil,Nat.zero_add,Nat.reduceAdd] at hA hatA ⊢;clear jk q1 q2;have hpb:wA.heap[bx]?=_:=(grA.block bx (lt_of_block HPB.out) (by intro e;exact hne (Option.some.inj e))).trans HPB.out
    have hbl:=lt_of_block HPB.out;have hnb:(Value.slice la 4 lc).ownBlock≠some bx:=by
     rcases hatA with h | h<;>rw [h]
     ·intro e;exact hne (Option.some.inj e).symm
     ·intro e;have:=Option.some.inj e;omega
    have HNB:=jH hnb;have HPB:=jH hpb;clear hpb hnb hbl;have HOA:=jH hA;have HGC3:=jH hgA;have hHA:IntsAt wA (.slice (some ⟨b,o,none⟩) 6 c) [x0,x1,x2,x3,x4,x5]:=(HV.out.grow HGW.out).grow hgA;refine hK.out _ _ hHA ?_;clear hK K hH;intro hH;try simp only [nrm]
    clear hA grA hatA hgA hHA;refine tkA 10 (.agg #[.slice la 4 lc,.int .i64 x4,.int .i64 x5]) rfl ?_ hH ?_
    ·intro w9 hw9;go_simp
    try simp only [nrm]
    refine tk1 12 rfl fun K hK=>?_;have hzb:=HPB.out;have z0:=zac hzb 0;have z1:=zac hzb 1;have z2:=zac hzb 2;obtain ⟨d0,d1,d2⟩:=box3 hzb;have hpb:=zau (zau (zau hzb 0 (.slice la 4 lc)) 1 (.int .i64 x4)) 2 (.int .i64 x5);simp only [List.setIfInBounds_toArray,List.set_cons_zero,List.set_cons_succ] at hpb;have hg3:Grow W (((wA.setCell ⟨bx,0,none⟩ (.slice la 4 lc)).setCell ⟨bx,1,none⟩ (.int .i64 x4)).setCell ⟨bx,2,none⟩ (.int .i64 x5)):=Below.setCell (Below.setCell (Below.setCell HGC3.out hWb _) hWb _) hWb _;have ho3:=zbc (i:=2) (u:=.int .i64 x5) (zbc (i:=1) (u:=.int .i64 x4) (zbc (i:=0) (u:=.slice la 4 lc) HOA.out HNB.out) HNB.out) HNB.out;go_simp;refine hK.out _ _ ((HV.out.grow HGW.out).grow hg3) ?_;clear hK K hH;intro hH;try simp only [nrm]
    refine wpAnyH_done (by kernel_rfl) ?_ _
    clear z0 z1 z2 d0 d1 d2 hzb hH;have hww:w.heap.size≤wz:=by have h1:=HWZ.out;have h2:=HGW.out.sz;omega
    go_wp2_with fail;go_meet;exact ⟨bx,la,lc,rfl,HGW.out.trans hg3,zhu ho3 hww,Nat.le_trans HGW.out.sz hWb,hpb⟩
  ·
   go_simp;refine hK.out _ _ (hH.grow ((Grow.refl _).alloc _)) ?_;clear hK K hH;intro hH;try simp only [nrm]
   obtain ⟨wX,hwX⟩:∃ z:World,z=W.alloc (.cells #[.slice none 0 0,.int .i64 0,.int .i64 0] 63):=⟨_,rfl⟩;have hgx:Grow W wX:=by rw [hwX];exact (Grow.refl _).alloc _
   have hpb:wX.heap[W.heap.size]?=some (.cells #[.slice none 0 0,.int .i64 0,.int .i64 0] 63 (0,0)):=by rw [hwX];exact heap_alloc_new _ _
   rw [← hwX] at hH ⊢;clear hwX;obtain ⟨bx,hbx⟩:∃ n,W.heap.size=n:=⟨_,rfl⟩;have hWb:W.heap.size≤bx:=by have:=HGC0.out.sz;omega
   rw [hbx] at hpb ⊢;have HPB:=jH hpb;have HGC1:=jH (HGC0.out.trans hgx);clear hgx hpb hbx;refine tk1 0 rfl fun K hK=>?_;go_simp;refine hK.out _ _ (hH.grow ((Grow.refl _).alloc _)) ?_;clear hK K hH;intro hH;try simp only [nrm]
   obtain ⟨wL,hwL⟩:∃ z:World,z=wX.alloc (.cells #[] 3):=⟨_,rfl⟩;have hgl:Grow wX wL:=by rw [hwL];exact (Grow.refl _).alloc _
   have hol:wL.ownsRow wz 3 1 (.slice (some ⟨wX.heap.size,0,none⟩) 0 0) ([]:List Int).length (([]:List Int).flatMap encI):=by rw [hwL];exact zah wX 1 _ encI _ (by have h1:=HWZ.out;have h2:=HGC1.out.sz;omega)
   have hlsz:wX.heap.size<wL.heap.size:=by rw [hwL,World.size_alloc];omega
   rw [← hwL] at hH ⊢;clear hwL;obtain ⟨lb,hlb⟩:∃ n,wX.heap.size=n:=⟨_,rfl⟩;have hne:bx≠lb:=by have:=lt_of_block HPB.out;omega
   have HPB:=jH (hgl.blk HPB.out);rw [hlb] at hol hlsz ⊢;have HOL:=jH hol;have HGC2:=jH (HGC1.out.trans hgl);clear hgl hol hlb;refine tk1 3 rfl fun K hK=>?_;refine zec rfl (.tmp 95) (.tmp 97) 61 rfl wz 3 underlying61 zeo rfl (by decide) (by decide) encI zal zcx (.slice (some ⟨lb,0,none⟩) 0 0) [] (by simp [Act.eval]) HOL.out _ [x0,x1,x2,x3] (by simp [Act.eval]) (zhr (j:=4) hH (by simp)) (by simp) (by have h1:=HWZ.out;have h2:=HGC2.out.sz;omega) ?_
   intro vA wA hA grA hatA;have hgA:Grow W wA:=zae HOL.out grA (Nat.le_of_eq HWZ.out.symm) HGC2.out.sz HGC2.out;obtain ⟨la,lc,rfl,q1,q2,jk⟩:=zaa zal hA;simp only [List.nil_append,List.length_cons,List.length_nil,Nat.zero_add,Nat.reduceAdd] at hA hatA ⊢;clear jk q1 q2;have hpb:wA.heap[bx]?=_:=(grA.block bx (lt_of_block HPB.out) (by intro e;exact hne (Option.some.inj e))).trans HPB.out
   have hbl:=lt_of_block HPB.out;have hnb:(Value.slice la 4 lc).ownBlock≠some bx:=by
    rcases hatA with h | h<;>rw [h]
    ·intro e;exact hne (Option.some.inj e).symm
    ·intro e;have:=Option.some.inj e;omega
   have HNB:=jH hnb;have HPB:=jH hpb;clear hpb hnb hbl;have HOA:=jH hA;have HGC3:=jH hgA;have hHA:IntsAt wA (.slice (some ⟨b,o,none⟩) 6 c) [x0,x1,x2,x3,x4,x5]:=(HV.out.grow HGW.out).grow hgA;refine hK.out _ _ hHA ?_;clear hK K hH;intro hH;try simp only [nrm]
   clear hA grA hatA hgA hHA;refine tkA 10 (.agg #[.slice la 4 lc,.int .i64 x4,.int .i64 x5]) rfl ?_ hH ?_
   ·intro w9 hw9;go_simp
   try simp only [nrm]
   refine tk1 12 rfl fun K hK=>?_;have hzb:=HPB.out;have z0:=zac hzb 0;have z1:=zac hzb 1;have z2:=zac hzb 2;obtain ⟨d0,d1,d2⟩:=box3 hzb;have hpb:=zau (zau (zau hzb 0 (.slice la 4 lc)) 1 (.int .i64 x4)) 2 (.int .i64 x5);simp only [List.setIfInBounds_toArray,List.set_cons_zero,List.set_cons_succ] at hpb;have hg3:Grow W (((wA.setCell ⟨bx,0,none⟩ (.slice la 4 lc)).setCell ⟨bx,1,none⟩ (.int .i64 x4)).setCell ⟨bx,2,none⟩ (.int .i64 x5)):=Below.setCell (Below.setCell (Below.setCell HGC3.out hWb _) hWb _) hWb _;have ho3:=zbc (i:=2) (u:=.int .i64 x5) (zbc (i:=1) (u:=.int .i64 x4) (zbc (i:=0) (u:=.slice la 4 lc) HOA.out HNB.out) HNB.out) HNB.out;go_simp;refine hK.out _ _ ((HV.out.grow HGW.out).grow hg3) ?_;clear hK K hH;intro hH;try simp only [nrm]
   refine wpAnyH_done (by kernel_rfl) ?_ _
   clear z0 z1 z2 d0 d1 d2 hzb hH;have hww:w.heap.size≤wz:=by have h1:=HWZ.out;have h2:=HGW.out.sz;omega
   go_wp2_with fail;go_meet;exact ⟨bx,la,lc,rfl,HGW.out.trans hg3,zhu ho3 hww,Nat.le_trans HGW.out.sz hWb,hpb⟩
 case rest=>
  obtain ⟨bx,la,lc,rfl,hg3,ho3,hbx,hpb⟩:=hcut;have HG3:=jH hg3;have ho3':Own 1 encI w.heap.size wc (.slice la [x0,x1,x2,x3].length lc) [x0,x1,x2,x3]:=⟨_,ho3⟩;have HNS:=jH (show NewS w.heap.size (.slice la 4 lc) from NewS.of_own ho3');have HI3:=jH (show IntsAt wc (.slice la 4 lc) [x0,x1,x2,x3] from zaa zal (xs:=[x0,x1,x2,x3]) ho3);have HPB:=jH hpb;obtain ⟨d0,d1,d2⟩:=box3 hpb;clear hg3 ho3 ho3' hpb;go_wp2_with fail;refine zct [⟨.slice la 4 lc,[x0,x1,x2,x3],x4,x5⟩] _ _ (zks wc ⟨.slice la 4 lc,[x0,x1,x2,x3],x4,x5⟩ _ HI3.out) _ ?_;intro w4 hg4;rw [show valT [⟨.slice la 4 lc,[x0,x1,x2,x3],x4,x5⟩]=valT [⟨.nilIface,[x0,x1,x2,x3],x4,x5⟩] from (zjb [⟨.slice la 4 lc,[x0,x1,x2,x3],x4,x5⟩]).symm];obtain ⟨e,he⟩:∃ e,valT [⟨.nilIface,[x0,x1,x2,x3],x4,x5⟩]=e:=⟨_,rfl⟩;have hpd:=HPD.out;rw [he] at hpd ⊢;have HPD0:=jH hpd;have hg34:=((Grow.refl wc).alloc _).trans hg4;have HG4:=jH (HG3.out.trans hg34);have HI4:=jH (HI3.out.grow hg34);have HPB4:=jH (hg34.blk HPB.out);clear he hpd hg34 hg4 d0 d1 d2;by_cases h0:e=0;rotate_left
  ·have HF:=jH (HS.out 1 (HPD0.out.trans (if_pos h0)) w4 HG4.out);have t1:(e != 0)=true:=by simpa using h0
   clear h0;go_wp2_with fail;exact HF.out
  subst h0;have HPD1:=jH (HPD0.out.trans (if_neg (by simp)))
  obtain ⟨V,hbk,hr⟩:=(HD.out.grow HG4.out).blk;obtain ⟨_,c1,_⟩:=zaw hbk;have htl:(dsB s).tests.length=s.tests.length:=rfl;rw [htl] at c1;by_cases h8:8≤s.tests.length
  ·have HF:=jH (HS.out 3 (HPD1.out.trans (if_pos h8)) w4 HG4.out);have h8z:decide ((s.tests.length:Int)≥8)=true:=by rw [decide_eq_true_eq];omega
   clear hbk hr htl;go_wp2_with fail;exact HF.out
  have HPD2:=jH (HPD1.out.trans (if_neg h8));have h8z:decide ((s.tests.length:Int)≥8)=false:=by rw [decide_eq_false_iff_not];omega
  obtain ⟨T,t1,t2,t3⟩:=hr.ts;have hTl:s.tests.length=T.length:=by rw [show s.tests=T.map Tq.p from t2.symm,List.length_map]
  have HTL:=jH hTl;have HT1:=jH (show DRow w4 base 63 3 (.slice V.ta T.length V.tc) T.length (T.flatMap encTq) by
   have h:=t1;rw [show (dsB s).tests.length=T.length from hTl] at h;exact h)
  have HT2:=jH (show T.map Tq.p=(dsB s).tests from t2);have HT3:=jH t3;have HTB:=jH (show T.length<100000000000 by omega)
  have HR4:=jH hr;have HBK4:=jH hbk;have HD4:=jH (HD.out.grow HG4.out);have HBS4:=jH (Nat.le_trans HBS.out HG4.out.sz);have hHI:IntsAt (hideW H w4) (.slice la 4 lc) [x0,x1,x2,x3]:=SlcAt.hide_new HI4.out HNS.out fun b hb=>by
   cases hx:H b with
   | false=>rfl
   | true=>have h1:=HD.out.hid.bd b hx;omega
  have HHI:=jH hHI;have hc1:=c1;rw [hTl] at hc1;have HC1:=jH hc1;clear hbk hr htl t1 t2 t3 h8 hHI hc1 hTl
  go_upto_region 23 with fail
  go_cut [6] from 116 to 125 (fun s6 wx=>s6=.int .i64 0∧∃ H1,Dst H w H1 wx∧DkAt base H1 B wx { dsB s with tests:=s.tests++[⟨.nilIface,[x0,x1,x2,x3],x4,x5⟩] })
  case first=>
   go_wp2_with fail;refine wp_region_held_drew (S:=fun X=>X.heap[bx]?=some (.cells #[.slice la 4 lc,.int .i64 x4,.int .i64 x5] 63 (0,0))) (by kernel_rfl) ((Grow.refl w4).drew.blk HPB4.out) (fun hH=>?_)
   obtain ⟨W,hWe⟩:∃ W:World,W=w4.drew:=⟨_,rfl⟩;have HGW:=jH (show Grow w4 W by rw [hWe];exact (Grow.refl w4).drew)
   rw [← hWe] at hH ⊢;clear hWe;refine tkA 0 (.pointer (some ⟨B,0,none⟩)) rfl ?_ hH ?_
   ·intro w9 hw9;go_simp
   try simp only [nrm]
   refine tkA 1 (.pointer (some ⟨B,0,none⟩)) rfl ?_ hH ?_
   ·intro w9 hw9;go_simp
   try simp only [nrm]
   refine tkA 2 (.pointer (some ⟨B,0,none⟩)) rfl ?_ hH ?_
   ·intro w9 hw9;go_simp
   try simp only [nrm]
   refine tkA 3 (.pointer (some ⟨B,1,none⟩)) rfl ?_ hH ?_
   ·intro w9 hw9;go_simp
   try simp only [nrm]
   refine tkA 5 (.agg #[.slice la 4 lc,.int .i64 x4,.int .i64 x5]) rfl ?_ hH ?_
   ·intro w9 hw9;obtain ⟨g0,g1,g2⟩:=box3 hw9;go_simp
   try simp only [nrm]
   refine tk2 4 6 rfl rfl (fun K hK=>?_) fun K hK=>?_
   ·
    have c9:=Grow.cell (show Grow w4 W from HGW.out) HC1.out;go_simp;refine hK.out _ _ hH ?_;clear hK K hH;intro hH;try simp only [nrm]
    clear c9;refine tk1 6 rfl fun K hK=>?_;go_simp;refine hK.out _ _ (((Grow.refl _).alloc _).blk hH) ?_;clear hK K hH;intro hH;try simp only [nrm]
    refine tk1 7 rfl fun K hK=>?_;refine zjq rfl (.tmp 120) (.tmp 122) 42 rfl base 63 underlying42 zbz rfl (by decide) (by decide) encTq zat zcb (.slice V.ta T.length V.tc) T (by simp [Act.eval]) (DRow.keep HT1.out fun b9 o9 _ ho=>(show Grow w4 (W.alloc (.cells #[.slice la 4 lc,.int .i64 x4,.int .i64 x5] 63)) from HGW.out.alloc _).blk ho) ⟨W.heap.size,0,none⟩ (⟨la,4,lc,[x0,x1,x2,x3],x4,x5⟩:Tq) 1 (by simp [Act.eval]) (zbj W (encTq (⟨la,4,lc,[x0,x1,x2,x3],x4,x5⟩:Tq)) 63) HTB.out (by have h1:=HBS4.out;have h2:=HGW.out.sz;simp;omega) ?_
    intro v8 w8 hown8 hgr8 hat8;obtain ⟨a8,c8,H8,rfl,hb8,hdst8,hd8,_,_⟩:=HD4.out.app_ts HBK4.out HR4.out HT1.out HT2.out HT3.out (t:=(⟨la,4,lc,[x0,x1,x2,x3],x4,x5⟩:Tq)) HHI.out (show Grow w4 (W.alloc (.cells #[.slice la 4 lc,.int .i64 x4,.int .i64 x5] 63)) from HGW.out.alloc _) hown8 hgr8 hat8;have e9:=zaw hb8;have z9:=zac hb8 1;have HDS8:=jH ((Dst.of_grow HG4.out).trans hdst8);have HD8:=jH hd8;have hq8:=(show Grow w4 (W.alloc (.cells #[.slice la 4 lc,.int .i64 x4,.int .i64 x5] 63)) from HGW.out.alloc _).blk HPB4.out;have hbx8:w8.heap[bx]?=some (.cells #[.slice la 4 lc,.int .i64 x4,.int .i64 x5] 63 (0,0)):=by
     rw [hgr8.block bx (lt_of_block hq8) ?_]
     ·exact hq8
     ·intro e;cases hta:V.ta with
      | none=>rw [hta] at e;have e2:some bx=none:=e;simp at e2
      | some ad=>
       rw [hta] at e;have h9:=HD.out.hid.bd _ (HR4.out.ht ad hta);have e2:=Option.some.inj (show some bx=some ad.block from e);omega
    have HBX8:=jH hbx8;have HNE:=jH (show bx≠B by rintro rfl;rw [hbx8] at hb8;injection hb8 with e1;injection e1 with e2 e3;exact absurd e3 (by decide))
    clear hown8 hgr8 hat8 hb8 hdst8 hd8 hq8 hbx8;refine hK.out _ _ HBX8.out ?_;clear hK K hH;intro hH;try simp only [nrm]
    refine tkA 8 (.pointer (some ⟨B,0,none⟩)) rfl ?_ hH ?_
    ·intro w9 hw9;go_simp
    try simp only [nrm]
    refine tkA 9 (.pointer (some ⟨B,1,none⟩)) rfl ?_ hH ?_
    ·intro w9 hw9;go_simp
    try simp only [nrm]
    refine tk1 10 rfl fun K hK=>?_;obtain ⟨u0,u1,u2,u3,u4,u5,u6⟩:=e9;go_simp;refine hK.out _ _ ((Below.heap_setCell _ _ _ _ (by exact HNE.out)).trans HBX8.out) ?_
    clear hK K hH;intro hH;try simp only [nrm]
    clear u0 u1 u2 u3 u4 u5 u6 z9;refine wpAnyH_done (by kernel_rfl) ?_ _
    clear hH;go_wp2_with fail;go_meet;exact ⟨rfl,H8,HDS8.out,HD8.out⟩
   ·
    go_simp;refine hK.out _ _ (((Grow.refl _).alloc _).blk hH) ?_;clear hK K hH;intro hH;try simp only [nrm]
    refine tk1 4 rfl fun K hK=>?_;have c9:=Grow.cell (show Grow w4 (W.alloc (.cells #[.slice la 4 lc,.int .i64 x4,.int .i64 x5] 63)) from (HGW.out.alloc _)) HC1.out;go_simp;refine hK.out _ _ hH ?_;clear hK K hH;intro hH;try simp only [nrm]
    clear c9;refine tk1 7 rfl fun K hK=>?_;refine zjq rfl (.tmp 120) (.tmp 122) 42 rfl base 63 underlying42 zbz rfl (by decide) (by decide) encTq zat zcb (.slice V.ta T.length V.tc) T (by simp [Act.eval]) (DRow.keep HT1.out fun b9 o9 _ ho=>(show Grow w4 (W.alloc (.cells #[.slice la 4 lc,.int .i64 x4,.int .i64 x5] 63)) from HGW.out.alloc _).blk ho) ⟨W.heap.size,0,none⟩ (⟨la,4,lc,[x0,x1,x2,x3],x4,x5⟩:Tq) 1 (by simp [Act.eval]) (zbj W (encTq (⟨la,4,lc,[x0,x1,x2,x3],x4,x5⟩:Tq)) 63) HTB.out (by have h1:=HBS4.out;have h2:=HGW.out.sz;simp;omega) ?_
    intro v8 w8 hown8 hgr8 hat8;obtain ⟨a8,c8,H8,rfl,hb8,hdst8,hd8,_,_⟩:=HD4.out.app_ts HBK4.out HR4.out HT1.out HT2.out HT3.out (t:=(⟨la,4,lc,[x0,x1,x2,x3],x4,x5⟩:Tq)) HHI.out (show Grow w4 (W.alloc (.cells #[.slice la 4 lc,.int .i64 x4,.int .i64 x5] 63)) from HGW.out.alloc _) hown8 hgr8 hat8;have e9:=zaw hb8;have z9:=zac hb8 1;have HDS8:=jH ((Dst.of_grow HG4.out).trans hdst8);have HD8:=jH hd8;have hq8:=(show Grow w4 (W.alloc (.cells #[.slice la 4 lc,.int .i64 x4,.int .i64 x5] 63)) from HGW.out.alloc _).blk HPB4.out;have hbx8:w8.heap[bx]?=some (.cells #[.slice la 4 lc,.int .i64 x4,.int .i64 x5] 63 (0,0)):=by
     rw [hgr8.block bx (lt_of_block hq8) ?_]
     ·exact hq8
     ·intro e;cases hta:V.ta with
      | none=>rw [hta] at e;have e2:some bx=none:=e;simp at e2
      | some ad=>
       rw [hta] at e;have h9:=HD.out.hid.bd _ (HR4.out.ht ad hta);have e2:=Option.some.inj (show some bx=some ad.block from e);omega
    have HBX8:=jH hbx8;have HNE:=jH (show bx≠B by rintro rfl;rw [hbx8] at hb8;injection hb8 with e1;injection e1 with e2 e3;exact absurd e3 (by decide))
    clear hown8 hgr8 hat8 hb8 hdst8 hd8 hq8 hbx8;refine hK.out _ _ HBX8.out ?_;clear hK K hH;intro hH;try simp only [nrm]
    refine tkA 8 (.pointer (some ⟨B,0,none⟩)) rfl ?_ hH ?_
    ·intro w9 hw9;go_simp
    try simp only [nrm]
    refine tkA 9 (.pointer (some ⟨B,1,none⟩)) rfl ?_ hH ?_
    ·intro w9 hw9;go_simp
    try simp only [nrm]
    refine tk1 10 rfl fun K hK=>?_;obtain ⟨u0,u1,u2,u3,u4,u5,u6⟩:=e9;go_simp;refine hK.out _ _ ((Below.heap_setCell _ _ _ _ (by exact HNE.out)).trans HBX8.out) ?_
    clear hK K hH;intro hH;try simp only [nrm]
    clear u0 u1 u2 u3 u4 u5 u6 z9;refine wpAnyH_done (by kernel_rfl) ?_ _
    clear hH;go_wp2_with fail;go_meet;exact ⟨rfl,H8,HDS8.out,HD8.out⟩
  case rest=>
   obtain ⟨rfl,H1,hdst,hd1⟩:=hcut;have HDST:=jH hdst;have HD1:=jH hd1;have hbs:base≤wc.heap.size:=Nat.le_trans HBS.out hdst.sz;obtain ⟨V1,hbk1,hr1⟩:=hd1.blk;obtain ⟨_,_,c2,_⟩:=zaw hbk1;obtain ⟨LK,hLK⟩:∃ z,lkB s.tests.length s.lk=z:=⟨_,rfl⟩;have hkk:({ dsB s with tests:=s.tests++[⟨.nilIface,[x0,x1,x2,x3],x4,x5⟩] }:Ds).lock=LK:=hLK;have hLl:LK.length=s.tests.length:=by rw [← hLK];exact zbl _ _
   have l1:DRow wc base 4 1 (.slice V1.la LK.length V1.lc) LK.length (LK.flatMap encT):=by
    have h:=hr1.lk;rw [hkk] at h;exact h
   rw [hkk] at c2;have HL1:=jH l1;have HLB:=jH (show LK.length<100000000000 by rw [hLl];have:=HOK.out.t8;omega)
   have HR1:=jH hr1;have HBK1:=jH hbk1;have HKK:=jH hkk;have hds:dsB { s with tests:=s.tests++[⟨.nilIface,[x0,x1,x2,x3],x4,x5⟩] }={ dsB s with tests:=s.tests++[⟨.nilIface,[x0,x1,x2,x3],x4,x5⟩],lock:=LK++[false] }:=by
    unfold dsB;dsimp only;rw [List.length_append,List.length_singleton,lkB_test HOK.out.inr,hLK]
   have HDSB:=jH hds;have HFE:=jH (HE.out 0 _ HPD2.out);clear hdst hd1 hbk1 hr1 l1 hLK hkk hLl hds;go_wp2_with (at_builtin;refine Classical.byContradiction (fun hcon=>?_));refine hcon ?_;clear hcon;refine zdw _ rfl (.tmp 130) (.tmp 131) 43 rfl base 4 underlying43 zdy rfl (by decide) (by decide) encT zdq zhi (.slice V1.la LK.length V1.lc) LK rfl (DRow.keep HL1.out fun b' o' _ ho=>((Grow.refl wc).alloc _).blk ho) _ false 1 rfl (zbj wc (encT false) 4) HLB.out (by simp;omega) ?_
   intro v8 w8 hown8 hgr8 hat8;obtain ⟨a8,c8,H8',rfl,hb8,hdst8,hd8,_,_⟩:=HD1.out.app_lk HBK1.out HR1.out HL1.out HKK.out.symm (t:=false) ((Grow.refl wc).alloc _) hown8 hgr8 hat8;have e0:=zaw hb8;have z0:=zac hb8 2;rw [HKK.out] at hd8;have HF:=jH (HFE.out _ H8' (HDST.out.trans hdst8) (by rw [HDSB.out];exact hd8))
   obtain ⟨_,_,e2,_⟩:=e0;clear hown8 hgr8 hat8 hb8 hdst8 hd8 hbs c2;go_wp2_with fail;exact HF.out
set_option maxRecDepth 100000
set_option maxHeartbeats 8000000
theorem zyx (s:Bn) (k:Nat) (l:List Int):(execB s k l).1≠0→(execB s k l).2=s:=by
 have hr:∀ x,(repairB s x).1≠0→(repairB s x).2=s:=by
  intro x;unfold repairB
  repeat' split
  all_goals first | (intro _;rfl) | (intro h;exact absurd rfl h)
 unfold execB putB undoB testB forgetB lockB fixBn verifyB
 repeat' split
 all_goals first | (intro _;rfl) | exact hr _ | (intro h;exact absurd rfl h)
theorem len1 {l:List Int} (h:l.length=1):∃ a,l=[a]:=match l,h with | [a],_=>⟨a,rfl⟩
theorem len5 {l:List Int} (h:l.length=5):∃ a b c d e,l=[a,b,c,d,e]:=match l,h with | [a,b,c,d,e],_=>⟨a,b,c,d,e,rfl⟩
theorem len6 {l:List Int} (h:l.length=6):∃ a b c d e f,l=[a,b,c,d,e,f]:=match l,h with | [a,b,c,d,e,f],_=>⟨a,b,c,d,e,f,rfl⟩
theorem rEx_any (base:Nat) (H:Nat→Bool) (B:Nat) (s:Bn) (ok:OkB s) (u:ByteArray) (k:Nat) (ns:List Int) (hf:formB u=some (k,ns.length)) (v:Value) (w:World) (hd:DkAt base H B w (dsB s)) (hbase:base≤w.heap.size) (hv:IntsAt (hideW H w) v ns) (R:Ending→World→Prop)
  (hR:∀ w' H',Dst H w H' w'→DkAt base H' B w' (dsB (execB s k ns).2)→R (.returned (.int .i64 (execB s k ns).1)) w') :
  Calls Tryz.prog 39 #[.pointer (some ⟨B,0,none⟩),.string u,v] w R:=by
 unfold formB at hf;by_cases h0:u=wPut
 ·rw [if_pos h0] at hf;obtain ⟨rfl,hl⟩:=Prod.mk.inj (Option.some.inj hf);obtain ⟨x0,x1,x2,x3,x4,rfl⟩:=len5 hl.symm;subst h0;exact zuo base H B s ok x0 x1 x2 x3 x4 v w hd hbase hv R hR
 rw [if_neg h0] at hf;by_cases h1:u=wUndo
 ·rw [if_pos h1] at hf;obtain ⟨rfl,hl⟩:=Prod.mk.inj (Option.some.inj hf);subst h1;exact zqe base H B s ok v w hd R hR
 rw [if_neg h1] at hf;by_cases h2:u=wTest
 ·rw [if_pos h2] at hf;obtain ⟨rfl,hl⟩:=Prod.mk.inj (Option.some.inj hf);obtain ⟨x0,x1,x2,x3,x4,x5,rfl⟩:=len6 hl.symm;subst h2;exact zpr base H B s ok x0 x1 x2 x3 x4 x5 v w hd hbase hv R hR
 rw [if_neg h2] at hf;by_cases h3:u=wForget
 ·rw [if_pos h3] at hf;obtain ⟨rfl,hl⟩:=Prod.mk.inj (Option.some.inj hf);obtain ⟨x0,rfl⟩:=len1 hl.symm;subst h3;exact znj base H B s ok x0 v w hd hbase hv.unhide R hR
 rw [if_neg h3] at hf;by_cases h4:u=wLock
 ·rw [if_pos h4] at hf;obtain ⟨rfl,hl⟩:=Prod.mk.inj (Option.some.inj hf);obtain ⟨x0,rfl⟩:=len1 hl.symm;subst h4;exact zqm base H B s ok x0 v w hd hv.unhide R hR
 rw [if_neg h4] at hf;by_cases h5:u=wFix
 ·rw [if_pos h5] at hf;obtain ⟨rfl,hl⟩:=Prod.mk.inj (Option.some.inj hf);subst h5;exact zve base H B s ok v w hd hbase R hR
 rw [if_neg h5] at hf;by_cases h6:u=wCheck
 ·rw [if_pos h6] at hf;obtain ⟨rfl,hl⟩:=Prod.mk.inj (Option.some.inj hf);subst h6;exact zpd base H B s ok v w hd R hR
 rw [if_neg h6] at hf;cases hf
theorem rDo_any (base:Nat) (H:Nat→Bool) (B:Nat) (t:ByteArray) (ht:t.size<4294967281) (s:Bn) (ok:OkB s) (w:World) (hg:Glob w) (hd:DkAt base H B w (dsB s)) (hbase:base≤w.heap.size) (R:Ending→World→Prop)
  (hR:∀ w' H',Dst H w H' w'→DkAt base H' B w' (dsB (doB s t).2)→R (.returned (.int .i64 (doB s t).1)) w') :
  Calls Tryz.prog 15 #[.pointer (some ⟨B,0,none⟩),.string t] w R:=by
 have hE:∀ e s2,doB s t=(e,s2)→∀ w' H',Dst H w H' w'→DkAt base H' B w' (dsB s2)→R (.returned (.int .i64 e)) w':=fun e s2 h w' H' h1 h2=>by
  have h3:=hR w' H' h1;rw [h] at h3;exact h3 h2
 have hS:∀ e,doB s t=(e,s)→∀ w',Grow w w'→R (.returned (.int .i64 e)) w':=fun e h w' g=>hE e s h w' H (Dst.of_grow g) (hd.grow g);have HE:=jH hE;have HS:=jH hS;have HD:=jH hd;have HOK:=jH ok;have HBS:=jH hbase;have HG:=jH hg;have htb:tb t.data.toList=t:=by cases t;rfl
 have htl:t.data.toList.length<4294967281:=by
  have h9:t.data.toList.length=t.size:=rfl;omega
 have HTB:=jH htb;have HTL:=jH htl;clear hR hE hS hd ok hbase hg htb htl
 go_enter func15,ntmps15
 go_wp2_with fail;rw [← HTB.out];refine zuf t.data.toList HTL.out _ HG.out _ ?_ ?_
 ·intro hp w1 hg1;rw [HTB.out] at hp;have HF:=jH (HS.out 2 (by unfold doB;rw [hp]) w1 hg1)
  clear hp hg1;go_wp2_with fail;exact HF.out
 intro k ns u hp hf w1 v hg1 hv;rw [HTB.out] at hp ⊢;have HP:=jH hp;have HFM:=jH hf;have HG1:=jH hg1;have hvi:IntsAt (hideW H w1) v ns:=(hv.slc zal).hide_new (NewS.of_own hv) (H:=H) fun b hb=>by
  cases hx:H b with
  | false=>rfl
  | true=>have:=HD.out.hid.bd b hx;omega
 have HV:=jH hvi;obtain ⟨va,vc,rfl,_,_,jk⟩:=hv.slc zal;obtain ⟨V,hbk,hr⟩:=(HD.out.grow HG1.out).blk;obtain ⟨_,_,_,_,_,_,c6⟩:=zaw hbk;have hol:(dsB s).orders.length=s.orders.length:=rfl;rw [hol] at c6;clear hp hf hg1 hvi hv jk hbk hr hol;by_cases h80:80≤s.orders.length
 ·have HF:=jH (HS.out 3 (by unfold doB;rw [HP.out];dsimp only;rw [if_pos h80]) w1 HG1.out)
  have h8z:decide ((s.orders.length:Int)≥80)=true:=by rw [decide_eq_true_eq];omega
  go_wp2_with fail;exact HF.out
 have HDO:=jH (zrj HP.out h80);have h8z:decide ((s.orders.length:Int)≥80)=false:=by rw [decide_eq_false_iff_not];omega
 have H80:=jH h80;clear h80;go_wp2_with fail;refine rEx_any base H B s HOK.out u k ns HFM.out _ _ (HD.out.grow HG1.out) (Nat.le_trans HBS.out HG1.out.sz) HV.out _ ?_;intro w2 H2 d2 hd2;have HD2:=jH ((Dst.of_grow (H:=H) HG1.out).trans d2);have hbs2:base≤w2.heap.size:=Nat.le_trans (Nat.le_trans HBS.out HG1.out.sz) d2.sz;by_cases he:(execB s k ns).1=0;rotate_left
 ·have hd3:=hd2;rw [zyx s k ns he] at hd3;have HF:=jH (HE.out _ s (HDO.out.trans (if_pos he)) w2 H2 HD2.out hd3);obtain ⟨e,hee⟩:∃ e,(execB s k ns).1=e:=⟨_,rfl⟩;rw [hee] at HF he ⊢;have hez:(e == 0)=false:=by rw [beq_eq_false_iff_ne];exact he
  clear hd3 hd2 d2 hee he;go_wp2_with fail;exact HF.out
 have HDP:=jH (HDO.out.trans (if_neg (by rw [he];simp)))
 rw [he];have hso:(execB s k ns).2.orders=s.orders:=(zes s k ns).1;obtain ⟨s2,hs2⟩:∃ z,(execB s k ns).2=z:=⟨_,rfl⟩;rw [hs2] at hd2 HDP hso;obtain ⟨V2,hbk2,hr2⟩:=hd2.blk;obtain ⟨_,_,_,_,_,_,d6⟩:=zaw hbk2;obtain ⟨L,hL⟩:∃ z,s2.orders=z:=⟨_,rfl⟩;have hLL:(dsB s2).orders=L:=hL;rw [hLL] at d6;have HL1:=jH (show DRow w2 base 9 1 (.slice V2.oa L.length V2.oc) L.length (L.flatMap encTx) by
  have h:=hr2.od;rw [hLL] at h;exact h)
 have HLB:=jH (show L.length<100000000000 by rw [← hL,hso];have:=HOK.out.ord;omega)
 have HLL:=jH hLL;have HDK2:=jH hd2;have HR2:=jH hr2;have HBK2:=jH hbk2;clear he hs2 hd2 d2 hbk2 hr2 hL hLL hso c6;go_wp2_with (at_builtin;refine Classical.byContradiction (fun hcon=>?_));refine hcon ?_;clear hcon;refine zdw _ rfl (.tmp 33) (.tmp 35) 23 rfl base 9 underlying23 zdt rfl (by decide) (by decide) encTx zbi zcz (.slice V2.oa L.length V2.oc) L rfl (DRow.keep HL1.out fun b' o' _ ho=>((Grow.refl w2).alloc _).blk ho) _ t 1 rfl (zbj w2 (encTx t) 9) HLB.out (by simp;omega) ?_
 intro v8 w8 hown8 hgr8 hat8;obtain ⟨a8,c8,H8',rfl,hb8,hdst8,hd8,_,_⟩:=HDK2.out.app_od HBK2.out HR2.out HL1.out HLL.out.symm (t:=t) ((Grow.refl w2).alloc _) hown8 hgr8 hat8;have e0:=zaw hb8;have z0:=zac hb8 6;have hd9:DkAt base H8' B (w8.setCell ⟨B,6,none⟩ (.slice a8 (L.length+1) c8)) (dsB { s2 with orders:=s2.orders++[t] }):=hd8;have HF:=jH (HE.out 0 _ HDP.out _ H8' (HD2.out.trans hdst8) hd9);obtain ⟨_,_,_,_,_,_,e6⟩:=e0;clear hown8 hgr8 hat8 hb8 hdst8 hd8 hd9 hbs2 d6;go_wp2_with fail;exact HF.out
theorem BnAt.dst {base:Nat} {H H':Nat→Bool} {B Bd:Nat} {w w':World} {s:Bn} {sd:Ds} (h:BnAt H B w s) (d:Dst H w H' w') (hd:DkAt base H' Bd w' sd):BnAt H' B w' s:=by
 obtain ⟨V,hb,hs⟩:=h.blk;exact ⟨⟨(d.ag B (lt_of_block hb)).trans h.hid.hH,hd.hid.bd⟩,V,d.kp B _ hb,hs.grow d.g⟩
theorem DkAt.bench {base:Nat} {H:Nat→Bool} {B Bd:Nat} {w w':World} {s:Bn} {sd:Ds} (h:DkAt base H Bd w sd) (hb:BnAt H B w s) (c:Chg B w w'):DkAt base H Bd w' sd:=by
 obtain ⟨V,hb0,_⟩:=hb.blk;exact h.chg c hb.hid.hH hb0
theorem HidD.one {base B:Nat} {w:World} (hB:base≤B) (hl:B<w.heap.size):HidD base (fun k=>k == B) w:=
 ⟨fun k hk=>by have:=beq_iff_eq.1 hk;omega,fun k hk=>by have:=beq_iff_eq.1 hk;omega⟩
set_option maxRecDepth 100000
set_option maxHeartbeats 4000000
structure Dsh (H:Nat→Bool) (w:World) (H':Nat→Bool) (w':World):Prop where
 g:Grow (hideW H w) (hideW H' w')
 ag:∀ k,k<w.heap.size→H' k=H k
theorem Dst.sh {H H':Nat→Bool} {w w':World} (d:Dst H w H' w'):Dsh H w H' w':=⟨d.g,d.ag⟩
theorem Dsh.of_chg {H:Nat→Bool} {B:Nat} {w w':World} (c:Chg B w w') (hB:H B=true):Dsh H w H w':=⟨c.hide hB,fun _ _=>rfl⟩
theorem Dsh.of_grow {H:Nat→Bool} {w w':World} (g:Grow w w'):Dsh H w H w':=⟨g.hid H,fun _ _=>rfl⟩
theorem Dsh.sz {H H':Nat→Bool} {w w':World} (h:Dsh H w H' w'):w.heap.size≤w'.heap.size:=by have:=Grow.sz h.g;rwa [zav,zav] at this
theorem Dsh.trans {H H1 H2:Nat→Bool} {w w1 w2:World} (h:Dsh H w H1 w1) (k:Dsh H1 w1 H2 w2):Dsh H w H2 w2:=
 ⟨Grow.trans h.g k.g,fun j hj=>(k.ag j (Nat.lt_of_lt_of_le hj h.sz)).trans (h.ag j hj)⟩
theorem Dsh.base {H H':Nat→Bool} {w0 w w':World} (g:Grow w0 w) (d:Dsh H w H' w') {base:Nat} (h:HidD base H w) (hb:w0.heap.size≤base):Grow w0 w':=by
 have d0:Below (hideW H w).heap.size (hideW H w) (hideW H' w'):=d.g;refine ⟨d0.os.trans g.os,d0.tape.trans g.tape,d0.output.trans g.output,Nat.le_trans g.sz d.sz,fun k hk=>?_⟩;have hkw:k<w.heap.size:=Nat.lt_of_lt_of_le hk g.sz;have hf:H k=false:=by
  cases hh:H k with
  | false=>rfl
  | true=>have:=h.lo k hh;omega
 have h1:=d.g.heap (by rw [zav];exact hkw)
 rw [zdf hf,zdf ((d.ag k hkw).trans hf)] at h1;rw [h1,g.heap hk]
theorem zvh {base:Nat} {H:Nat→Bool} {w w2 w3:World} {v v':Value} {l ls:List ByteArray} (hl:TextsAt w v l) (hB:w.heap.size≤base) (hid:HidD base H w2) (h:TextsAt w3 v' ls) (hv:v'=v∨NewS w2.heap.size v'):TextsAt (hideW H w3) v' ls:=by
 refine SlcAt.hide h ?_;intro b o n c e;rcases hv with rfl | hn
 ·obtain ⟨a,c',e2,_,_,h4⟩:=hl;rw [e] at e2;injection e2 with e3 e4 _;rcases h4 with ⟨h4,_⟩ | ⟨b',o',e5,hb',_⟩
  ·obtain ⟨a,c',e6,_,_,_⟩:=h;rw [e] at e6;injection e6 with _ e7 _
   right
   rw [h4] at e4;have:ls.length=0:=by rw [← e7,e4];rfl
   exact List.eq_nil_of_length_eq_zero this
  ·left
   rw [← e3] at e5;injection e5 with e5;injection e5 with e5 _ _;cases hh:H b with
   | false=>rfl
   | true=>have:=hid.lo b hh;omega
 ·left
  have:w2.heap.size≤b:=hn _ n c e;cases hh:H b with
  | false=>rfl
  | true=>have:=hid.bd b hh;omega
theorem BeginD_any (p:List Ln) (v:Value) (w:World) (hp:LinesAt w v p) (hn:p.length<10000000000) (R:Ending→World→Prop)
  (hno:valP p≠0→∀ w',Grow w w'→R (.returned (.tuple #[.pointer none,.pointer none,.bool false])) w')
  (hok:valP p=0→∀ w' H B Bd,Grow w w'→w.heap.size≤B→BnAt H B w' (newB p)→DkAt w.heap.size H Bd w' (dsB (newB p))→R (.returned (.tuple #[.pointer (some ⟨B,0,none⟩),.pointer (some ⟨Bd,0,none⟩),.bool true])) w') :
  Calls Tryz.prog 11 #[v] w R:=by
 have HNO:=jH hno;have HOK:=jH hok;have HP:=jH hp;clear hno hok hp
 go_enter func11,ntmps11
 go_wp2_with fail;refine New_any p v _ HP.out hn _ ?_ ?_
 ·intro h0 w1 hg1;have HG1:=jH hg1;have hz:(valP p == 0)=false:=by simpa using h0
  have H0:=jH h0;clear hg1 h0;obtain ⟨e,he⟩:∃ e,valP p=e:=⟨_,rfl⟩;have HE:=jH he;rw [he] at hz ⊢;clear he;go_wp2_with fail;refine zny p v _ (HP.out.grow HG1.out) hn _ ?_ ?_
  ·intro _ w2 hg2;have HF:=jH (HNO.out H0.out w2 (HG1.out.trans hg2));rw [HE.out];clear hg2;go_wp2_with fail;first | exact HF.out | exact bodyPost_ret (by simp [results,Tryz.results11,go_sem]) rfl HF.out
  ·intro h;exact absurd h H0.out
 ·intro h0 w1 B hg1 hB hb;have HG1:=jH hg1;have HB:=jH hb;have HHD:=jH (HidD.one (base:=w.heap.size) hB (hb.hid.bd B (by simp)))
  clear hg1 hb;go_wp2_with fail;refine rNew_any w.heap.size (fun k=>k == B) p v _ HHD.out HG1.out.sz (HP.out.grow HG1.out) hn _ ?_ ?_
  ·intro h;exact absurd h0 h
  ·intro _ w2 H' Bd hg2 d2 hBd hd2;have HF:=jH (HOK.out h0 w2 H' B Bd (HG1.out.trans hg2) hB (HB.out.dst d2 hd2) hd2);clear hg2 d2 hBd hd2;go_wp2_with fail;first | exact HF.out | exact bodyPost_ret (by simp [results,Tryz.results11,go_sem]) rfl HF.out
set_option maxRecDepth 100000
set_option maxHeartbeats 8000000
theorem Dsh.refl (H:Nat→Bool) (w:World):Dsh H w H w:=⟨Grow.refl _,fun _ _=>rfl⟩
theorem all9_any (base:Nat) (hb4:4<base) (H:Nat→Bool) (B Bd:Nat) (s:Bn) (ok:OkB s) (l:List ByteArray) (hsz:∀ t∈l,t.size<4294967281) (lv:Value) (w w0:World) (hgl:Glob w0) (hg0:Grow w0 w) (hw0:w0.heap.size≤base) (hbase:base≤w.heap.size) (hb:BnAt H B w s) (hd:DkAt base H Bd w (dsB s)) (hl:TextsAt (hideW H w) lv l) (R:Ending→World→Prop)
  (hR:∀ w' H',Dsh H w H' w'→BnAt H' B w' (dosB s l)→DkAt base H' Bd w' (dsB (dosB s l))→R (.returned (.bool true)) w') :
  Calls Tryz.prog 17 #[.pointer (some ⟨B,0,none⟩),.pointer (some ⟨Bd,0,none⟩),lv] w R:=by
 have HR:=jH hR;have HOK:=jH ok;have HSZ:=jH hsz;have HGL:=jH hgl;have HG0:=jH hg0;have HHD:=jH hd.hid;have HB:=jH hb;have HD:=jH hd;have HL:=jH hl;obtain ⟨va,vc,rfl,a1,a2,jk⟩:=hl;clear hR ok hsz hgl hg0 hb hd jk
 go_enter func17,ntmps17
 go_wp2_with fail
 go_loopw [7] (fun s7 wr=>∃ (k:Nat) (Hr:Nat→Bool),k≤l.length∧s7=.int .i64 k∧Dsh H w Hr wr∧BnAt Hr B wr (dosB s (l.take k))∧DkAt base Hr Bd wr (dsB (dosB s (l.take k)))) (fun s7 _=>l.length - (intOf s7).toNat)
 case atStart=>exact ⟨0,H,Nat.zero_le _,rfl,Dsh.refl H w,HB.out,HD.out⟩
 case round=>
  obtain ⟨k,Hr,hk,rfl,hds,hbn,hdk⟩:=hrel;have HDS:=jH hds;have HBN:=jH hbn;have HDK:=jH hdk;clear hds hbn hdk;by_cases hlt:k<l.length;rotate_left
  ·obtain rfl:k=l.length:=by omega
   have hltz:¬ (l.length:Int)<(l.length:Int):=by omega
   have hbn:=HBN.out;have hdk:=HDK.out;rw [List.take_length] at hbn hdk;have HF:=jH (HR.out wr Hr HDS.out hbn hdk);clear hbn hdk;go_wp2_with fail;exact HF.out
  have hltz:(k:Int)<(l.length:Int):=by omega
  obtain ⟨u,hu⟩:∃ u,l[k]?=some u:=⟨_,List.getElem?_eq_getElem hlt⟩;obtain ⟨b,o,rfl,hbl,y0⟩:=zcq (HL.out.grow HDS.out.g) hu;have HY:=jH y0;have HUS:=jH (HSZ.out u (List.mem_of_getElem? hu));have HSN:=jH (dos_snoc (s:=s) hu);have hB4:4<B:=Nat.lt_of_lt_of_le hb4 (HDK.out.hid.lo B HBN.out.hid.hH);have HOKK:=jH (HOK.out.dos (l.take k));obtain ⟨s1,hs1⟩:∃ z,dosB s (l.take k)=z:=⟨_,rfl⟩;rw [hs1] at HBN HDK HSN HOKK;have hbw:base≤wr.heap.size:=Nat.le_trans hbase HDS.out.sz;clear hu hs1 y0 hbl;go_wp2_with fail;refine wp_region_held_drew (S:=fun X=>X.cell? ⟨b,o+k,none⟩=some (.string u)) (by kernel_rfl) ((zht (Grow.cell ((Grow.refl wr).drew.hid Hr) HY.out)).1) (fun hH=>?_)
  obtain ⟨W,hWe⟩:∃ W:World,W=wr.drew:=⟨_,rfl⟩;have HGW:=jH (show Grow wr W by rw [hWe];exact (Grow.refl wr).drew)
  rw [← hWe] at hH ⊢;clear hWe;refine tkA 0 (.pointer (some ⟨B,0,none⟩)) rfl ?_ hH ?_
  ·intro w9 hw9;go_simp
  try simp only [nrm]
  refine tkA 1 (.slice (some ⟨b,o,none⟩) l.length vc) rfl ?_ hH ?_
  ·intro w9 hw9;go_simp
  try simp only [nrm]
  refine tkA 2 (.int .i64 (k:Int)) rfl ?_ hH ?_
  ·intro w9 hw9;go_simp
  try simp only [nrm]
  refine tkA 3 (.pointer (some ⟨b,o+k,none⟩)) rfl ?_ hH ?_
  ·intro w9 hw9;go_simp
  try simp only [nrm]
  refine tkA 4 (.string u) rfl ?_ hH ?_
  ·intro w9 hw9;go_simp
  try simp only [nrm]
  refine tkA 6 (.pointer (some ⟨Bd,0,none⟩)) rfl ?_ hH ?_
  ·intro w9 hw9;go_simp
  try simp only [nrm]
  refine tkA 7 (.slice (some ⟨b,o,none⟩) l.length vc) rfl ?_ hH ?_
  ·intro w9 hw9;go_simp
  try simp only [nrm]
  refine tkA 8 (.int .i64 (k:Int)) rfl ?_ hH ?_
  ·intro w9 hw9;go_simp
  try simp only [nrm]
  refine tkA 9 (.pointer (some ⟨b,o+k,none⟩)) rfl ?_ hH ?_
  ·intro w9 hw9;go_simp
  try simp only [nrm]
  refine tkA 10 (.string u) rfl ?_ hH ?_
  ·intro w9 hw9;go_simp
  try simp only [nrm]
  refine tk1 5 rfl fun K hK=>?_;go_simp;refine zqo Hr B u HUS.out s1 _ (HGL.out.grow ((HDS.out.trans (Dsh.of_grow HGW.out)).base HG0.out HHD.out hw0)) (HBN.out.grow HGW.out) HOKK.out hB4 _ ?_;intro w5 hc5 hb5;have hd5:=(HDK.out.grow HGW.out).bench (HBN.out.grow HGW.out) hc5;have hs5:=(HDS.out.trans (Dsh.of_grow HGW.out)).trans (Dsh.of_chg hc5 HBN.out.hid.hH);have hy5:=Grow.cell (hc5.hide (H:=Hr) HBN.out.hid.hH) (Grow.cell (HGW.out.hid Hr) HY.out);have hbw5:base≤w5.heap.size:=Nat.le_trans hbw (Nat.le_trans HGW.out.sz hc5.sz);have HB5:=jH hb5;have HD5:=jH hd5;have HS5:=jH hs5;have HY5:=jH hy5;obtain ⟨e1,he1⟩:∃ e,(doB s1 u).1=e:=⟨_,rfl⟩;rw [he1];have HE1:=jH he1;clear hb5 hd5 hs5 hy5 hc5 he1;go_wp2_with fail;refine hK.out _ _ ((zht HY5.out).1) ?_;clear hK K hH;intro hH;try simp only [nrm]
  refine tk1 11 rfl fun K hK=>?_;go_simp;refine rDo_any base Hr Bd u HUS.out s1 HOKK.out _ (HGL.out.grow (HS5.out.base HG0.out HHD.out hw0)) HD5.out hbw5 _ ?_;intro w6 H6 d6 hd6;rw [HE1.out];have HB6:=jH (HB5.out.dst d6 hd6);have HD6:=jH hd6;have HS6:=jH (HS5.out.trans d6.sh);have hy6:=(zht (Grow.cell d6.g HY5.out)).1;clear hd6 d6;go_wp2_with fail;refine hK.out _ _ hy6 ?_;clear hK K hH;intro hH;try simp only [nrm]
  clear hy6;refine tkA 12 (.bool false) rfl ?_ hH ?_
  ·intro w9 hw9;go_simp
  try simp only [nrm]
  refine wpAnyH_done (by kernel_rfl) ?_ _
  clear hH;go_wp2_with fail;go_roundw
  case rel=>exact ⟨k+1,H6,by omega,by go_num,HS6.out,by rw [HSN.out];exact HB6.out,by rw [HSN.out];exact HD6.out⟩
  case measure=>simp [intOf];omega
set_option maxRecDepth 100000
set_option maxHeartbeats 16000000
theorem Equal_any (H Hd:Nat→Bool) (B Bd base:Nat) (s:Bn) (w:World) (hg:Glob w) (hb:BnAt H B w s) (ok:OkB s) (hd:DkAt base Hd Bd w (dsB s)) (R:Ending→World→Prop)
  (hR:∀ w',Grow w w'→R (.returned (.bool true)) w') :
  Calls Tryz.prog 16 #[.pointer (some ⟨B,0,none⟩),.pointer (some ⟨Bd,0,none⟩)] w R:=by
 have HR:=jH hR;have HG:=jH hg;have HB:=jH hb;have HD:=jH hd;have HOK:=jH ok;clear hR hg hb hd ok
 go_enter func16,ntmps16
 go_wp2_with fail;refine Counts_any H B s _ HB.out _ ?_;intro w1 hg1;have HG1:=jH hg1;obtain ⟨V,hbd,hr⟩:=(HD.out.grow hg1).blk;obtain ⟨c0,c1,c2,c3,c4,c5,c6⟩:=zaw hbd;have hs0:(dsB s).tests=s.tests:=rfl;obtain ⟨T,t1,t2,t3⟩:=hr.ts;have HTQ:=jH (show TqAt w1 (.slice V.ta (dsB s).tests.length V.tc) T from ⟨DRow.slc zat t1,fun q hq=>(t3 q hq).unhide⟩);have HTP:=jH (t2.trans hs0);obtain ⟨L,l1,l2,l3⟩:=hr.hi;have hll:L.length=(dsB s).hist.length:=by rw [← l2,List.length_map]
 have HLL:=jH (show LlAt 5 encE w1 (.slice V.ha (dsB s).hist.length V.hc) L from ⟨DRow.slc zaz l1,fun t ht=>(l3 t ht).unhide⟩);have HLX:=jH (show L.map Lo.x=s.hist from l2);have HOD:=jH (show TextsAt w1 (.slice V.oa (dsB s).orders.length V.oc) s.orders from DRow.slc zbi hr.od);have hne:(dsB s).progs≠[]:=by intro e;have h:=HOK.out.len;have e2:s.progs=[]:=e;rw [e2] at h;simp at h
 have HNE:=jH hne;have HLK:=jH (setL_lkB HOK.out.asc HOK.out.inr);have HFB:=jH (zhh HOK.out.chk);have hll2:(dsB s).lock.length≤100000000:=by have h:=HOK.out.t8;have:(dsB s).lock.length=s.tests.length:=zbl _ _;omega
 have HL2:=jH hll2;have hox:=HOK.out.tsz;have HOX:=jH hox;have ho80:=HOK.out.ord;have HO8:=jH ho80;obtain ⟨ta,tn,htn⟩:∃ a n,(Value.slice V.ta (dsB s).tests.length V.tc)=.slice a n V.tc:=⟨_,_,rfl⟩;obtain ⟨ha,hn,hhn⟩:∃ a n,(Value.slice V.ha (dsB s).hist.length V.hc)=.slice a n V.hc:=⟨_,_,rfl⟩;obtain ⟨oa,on,hon⟩:∃ a n,(Value.slice V.oa (dsB s).orders.length V.oc)=.slice a n V.oc:=⟨_,_,rfl⟩;rw [htn] at c1 HTQ;rw [hhn] at c3 HLL;rw [hon] at c6 HOD;have f4:(dsB s).fixes=s.fixes:=rfl;have f5:(dsB s).checks=s.checks:=rfl;rw [f4] at c4;rw [f5] at c5;obtain ⟨fx,hfx⟩:∃ z,s.fixes=z:=⟨_,rfl⟩;obtain ⟨ck,hck⟩:∃ z,s.checks=z:=⟨_,rfl⟩;rw [hfx] at c4 ⊢;rw [hck] at c5 ⊢;have HB1:=jH (HB.out.grow hg1);have HD1:=jH (HD.out.grow hg1);have HGL:=jH (HG.out.grow hg1);clear hg1 hbd hr t1 t2 t3 l1 l2 l3 hll hne hll2 hs0 hox ho80 htn hhn hon f4 f5 hfx hck c0 c2;go_wp2_with fail;refine wp_region_held_drew (S:=fun X=>Grow w1 X) (by kernel_rfl) ((Grow.refl w1).drew) (fun hH=>?_)
 refine tkA 0 (.pointer (some ⟨B,0,none⟩)) rfl ?_ hH ?_
 ·intro w9 hw9;go_simp
 try simp only [nrm]
 refine tkA 2 (.pointer (some ⟨Bd,0,none⟩)) rfl ?_ hH ?_
 ·intro w9 hw9;go_simp
 try simp only [nrm]
 refine tk1 1 rfl fun K hK=>?_;go_simp;refine Program_any H B s _ (HB1.out.grow hH) HOK.out _ ?_;intro w2 v2 base2 hg2 hb2 ho2;have HV2:=jH (show LinesAt w2 v2 s.prog from zaa zab ho2);clear hb2 ho2;go_wp2_with fail;refine hK.out _ _ (hH.trans hg2) ?_;clear hK K hH;intro hH;try simp only [nrm]
 clear hg2;refine tk1 3 rfl fun K hK=>?_;go_simp;refine zcv base Hd Bd (dsB s) _ (HD1.out.grow hH) HNE.out _ ?_;intro w3 v3 hg3 hv3;have HV3:=jH (show LinesAt w3 v3 s.prog from hv3.unhide);have HW3:=jH (HV2.out.grow hg3);clear hv3 HV2;go_wp2_with fail;refine hK.out _ _ (hH.trans hg3) ?_;clear hK K hH;intro hH;try simp only [nrm]
 clear hg3;refine tk1 4 rfl fun K hK=>?_;go_simp;refine zvg s.prog s.prog _ _ _ HW3.out HV3.out _ ?_;intro w4 hg4;rw [decide_eq_true rfl];go_wp2_with fail;refine hK.out _ _ (hH.trans hg4) ?_;clear hK K hH;intro hH;try simp only [nrm]
 clear hg4;refine tkA 5 (.bool true) rfl ?_ hH ?_
 ·intro w9 hw9;go_simp
 try simp only [nrm]
 refine tkA 6 (.pointer (some ⟨B,0,none⟩)) rfl ?_ hH ?_
 ·intro w9 hw9;go_simp
 try simp only [nrm]
 refine tkA 8 (.pointer (some ⟨Bd,0,none⟩)) rfl ?_ hH ?_
 ·intro w9 hw9;go_simp
 try simp only [nrm]
 refine tkA 9 (.pointer (some ⟨Bd,0,none⟩)) rfl ?_ hH ?_
 ·intro w9 hw9;go_simp
 try simp only [nrm]
 refine tkA 10 (.pointer (some ⟨Bd,1,none⟩)) rfl ?_ hH ?_
 ·intro w9 hw9;go_simp
 try simp only [nrm]
 refine tkA 11 (.slice ta tn V.tc) rfl ?_ hH ?_
 ·intro w9 hw9;have z9:=Grow.cell hw9 c1;go_simp
 try simp only [nrm]
 refine tk1 7 rfl fun K hK=>?_;go_simp;refine Tests_any H B s _ (HB1.out.grow hH) HOK.out _ ?_;intro w5 v5 base5 T5 hg5 hb5 ho5 hx5;have HV5:=jH ho5.at_;have HE5:=jH hx5;clear hb5 ho5 hx5;go_wp2_with fail;refine hK.out _ _ (hH.trans hg5) ?_;clear hK K hH;intro hH;try simp only [nrm]
 clear hg5;refine tk1 12 rfl fun K hK=>?_;go_simp;refine zlc s.tests T5 T _ _ _ HV5.out (HTQ.out.grow hH) HE5.out HTP.out _ ?_;intro w6 hg6;go_wp2_with fail;refine hK.out _ _ (hH.trans hg6) ?_;clear hK K hH;intro hH;try simp only [nrm]
 clear hg6;refine tkA 13 (.bool true) rfl ?_ hH ?_
 ·intro w9 hw9;go_simp
 try simp only [nrm]
 refine tkA 14 (.bool true) rfl ?_ hH ?_
 ·intro w9 hw9;go_simp
 try simp only [nrm]
 refine tkA 15 (.pointer (some ⟨B,0,none⟩)) rfl ?_ hH ?_
 ·intro w9 hw9;go_simp
 try simp only [nrm]
 refine tkA 17 (.pointer (some ⟨Bd,0,none⟩)) rfl ?_ hH ?_
 ·intro w9 hw9;go_simp
 try simp only [nrm]
 refine tk1 16 rfl fun K hK=>?_;go_simp;refine Locked_any H B s _ (HB1.out.grow hH) HOK.out _ ?_;intro w7 v7 base7 hg7 hb7 ho7;have HV7:=jH (show IntsAt w7 v7 s.lk from zaa zal ho7);clear hb7 ho7;go_wp2_with fail;refine hK.out _ _ (hH.trans hg7) ?_;clear hK K hH;intro hH;try simp only [nrm]
 clear hg7;refine tk1 18 rfl fun K hK=>?_;go_simp;refine zqy base Hd Bd (dsB s) _ (HD1.out.grow hH) HL2.out _ ?_;intro w8 v8 hg8 ho8;have HV8:=jH (show IntsAt w8 v8 s.lk by have h:=ho8.slc zal;rwa [show setL (dsB s).lock=s.lk from HLK.out] at h)
 have HW8:=jH (HV7.out.grow hg8);clear ho8 HV7;go_wp2_with fail;refine hK.out _ _ (hH.trans hg8) ?_;clear hK K hH;intro hH;try simp only [nrm]
 clear hg8;refine tk1 19 rfl fun K hK=>?_;go_simp;refine zgx s.lk s.lk _ _ _ HW8.out HV8.out _ ?_;intro w9 hg9;rw [decide_eq_true rfl];go_wp2_with fail;refine hK.out _ _ (hH.trans hg9) ?_;clear hK K hH;intro hH;try simp only [nrm]
 clear hg9;refine tkA 20 (.bool true) rfl ?_ hH ?_
 ·intro w9 hw9;go_simp
 try simp only [nrm]
 refine tkA 21 (.bool true) rfl ?_ hH ?_
 ·intro w9 hw9;go_simp
 try simp only [nrm]
 refine tkA 22 (.pointer (some ⟨B,0,none⟩)) rfl ?_ hH ?_
 ·intro w9 hw9;go_simp
 try simp only [nrm]
 refine tkA 24 (.pointer (some ⟨Bd,0,none⟩)) rfl ?_ hH ?_
 ·intro w9 hw9;go_simp
 try simp only [nrm]
 refine tkA 25 (.pointer (some ⟨Bd,0,none⟩)) rfl ?_ hH ?_
 ·intro w9 hw9;go_simp
 try simp only [nrm]
 refine tkA 26 (.pointer (some ⟨Bd,3,none⟩)) rfl ?_ hH ?_
 ·intro w9 hw9;go_simp
 try simp only [nrm]
 refine tkA 27 (.slice ha hn V.hc) rfl ?_ hH ?_
 ·intro w9 hw9;have z9:=Grow.cell hw9 c3;go_simp
 try simp only [nrm]
 refine tk1 23 rfl fun K hK=>?_;go_simp;refine History_any H B s _ (HB1.out.grow hH) HOK.out _ ?_;intro w10 v10 base10 T10 hg10 hb10 hn10 ho10 hx10;have HV10:=jH ho10;have HE10:=jH hx10;clear hb10 hn10 ho10 hx10;go_wp2_with fail;refine hK.out _ _ (hH.trans hg10) ?_;clear hK K hH;intro hH;try simp only [nrm]
 clear hg10;refine tk1 28 rfl fun K hK=>?_;go_simp;refine zxk s.hist T10 L _ _ _ HV10.out (HLL.out.grow hH) HE10.out HLX.out _ ?_;intro w11 hg11;go_wp2_with fail;refine hK.out _ _ (hH.trans hg11) ?_;clear hK K hH;intro hH;try simp only [nrm]
 clear hg11;refine tkA 29 (.bool true) rfl ?_ hH ?_
 ·intro w9 hw9;go_simp
 try simp only [nrm]
 refine tkA 30 (.bool true) rfl ?_ hH ?_
 ·intro w9 hw9;go_simp
 try simp only [nrm]
 refine tkA 31 (.pointer (some ⟨B,0,none⟩)) rfl ?_ hH ?_
 ·intro w9 hw9;go_simp
 try simp only [nrm]
 refine tkA 33 (.pointer (some ⟨Bd,0,none⟩)) rfl ?_ hH ?_
 ·intro w9 hw9;go_simp
 try simp only [nrm]
 refine tk1 32 rfl fun K hK=>?_;go_simp;refine Failing9_any H B s _ (HB1.out.grow hH) HOK.out _ ?_;intro w12 v12 base12 hg12 hb12 ho12;have HV12:=jH (show IntsAt w12 v12 (failB s.prog s.tests) from ho12.slc zal);clear hb12 ho12;go_wp2_with fail;refine hK.out _ _ (hH.trans hg12) ?_;clear hK K hH;intro hH;try simp only [nrm]
 clear hg12;refine tk1 34 rfl fun K hK=>?_;go_simp;refine zfk base Hd Bd (dsB s) _ (HD1.out.grow hH) HNE.out HOK.out.tst HOK.out.valp _ ?_;intro w13 v13 hg13 ho13;have HV13:=jH (show IntsAt w13 v13 (failB s.prog s.tests) by have h:=ho13.slc zal;rw [HFB.out];exact h)
 have HW13:=jH (HV12.out.grow hg13);clear ho13 HV12;go_wp2_with fail;refine hK.out _ _ (hH.trans hg13) ?_;clear hK K hH;intro hH;try simp only [nrm]
 clear hg13;refine tk1 35 rfl fun K hK=>?_;go_simp;refine zgx (failB s.prog s.tests) (failB s.prog s.tests) _ _ _ HW13.out HV13.out _ ?_;intro w14 hg14;rw [decide_eq_true rfl];go_wp2_with fail;refine hK.out _ _ (hH.trans hg14) ?_;clear hK K hH;intro hH;try simp only [nrm]
 clear hg14;refine tkA 36 (.bool true) rfl ?_ hH ?_
 ·intro w9 hw9;go_simp
 try simp only [nrm]
 refine tkA 37 (.bool true) rfl ?_ hH ?_
 ·intro w9 hw9;go_simp
 try simp only [nrm]
 refine tkA 38 (.int .i64 fx) rfl ?_ hH ?_
 ·intro w9 hw9;go_simp
 try simp only [nrm]
 refine tkA 39 (.pointer (some ⟨Bd,0,none⟩)) rfl ?_ hH ?_
 ·intro w9 hw9;go_simp
 try simp only [nrm]
 refine tkA 40 (.pointer (some ⟨Bd,0,none⟩)) rfl ?_ hH ?_
 ·intro w9 hw9;go_simp
 try simp only [nrm]
 refine tkA 41 (.pointer (some ⟨Bd,4,none⟩)) rfl ?_ hH ?_
 ·intro w9 hw9;go_simp
 try simp only [nrm]
 refine tkA 42 (.int .i64 fx) rfl ?_ hH ?_
 ·intro w9 hw9;have z9:=Grow.cell hw9 c4;go_simp
 try simp only [nrm]
 refine tkA 43 (.bool true) rfl ?_ hH ?_
 ·intro w9 hw9;go_simp
 try simp only [nrm]
 refine tkA 44 (.bool true) rfl ?_ hH ?_
 ·intro w9 hw9;go_simp
 try simp only [nrm]
 refine tkA 45 (.bool true) rfl ?_ hH ?_
 ·intro w9 hw9;go_simp
 try simp only [nrm]
 refine tkA 46 (.int .i64 ck) rfl ?_ hH ?_
 ·intro w9 hw9;go_simp
 try simp only [nrm]
 refine tkA 47 (.pointer (some ⟨Bd,0,none⟩)) rfl ?_ hH ?_
 ·intro w9 hw9;go_simp
 try simp only [nrm]
 refine tkA 48 (.pointer (some ⟨Bd,0,none⟩)) rfl ?_ hH ?_
 ·intro w9 hw9;go_simp
 try simp only [nrm]
 refine tkA 49 (.pointer (some ⟨Bd,5,none⟩)) rfl ?_ hH ?_
 ·intro w9 hw9;go_simp
 try simp only [nrm]
 refine tkA 50 (.int .i64 ck) rfl ?_ hH ?_
 ·intro w9 hw9;have z9:=Grow.cell hw9 c5;go_simp
 try simp only [nrm]
 refine tkA 51 (.bool true) rfl ?_ hH ?_
 ·intro w9 hw9;go_simp
 try simp only [nrm]
 refine tkA 52 (.bool true) rfl ?_ hH ?_
 ·intro w9 hw9;go_simp
 try simp only [nrm]
 refine tkA 53 (.bool true) rfl ?_ hH ?_
 ·intro w9 hw9;go_simp
 try simp only [nrm]
 refine tkA 54 (.pointer (some ⟨B,0,none⟩)) rfl ?_ hH ?_
 ·intro w9 hw9;go_simp
 try simp only [nrm]
 refine tkA 56 (.pointer (some ⟨Bd,0,none⟩)) rfl ?_ hH ?_
 ·intro w9 hw9;go_simp
 try simp only [nrm]
 refine tkA 57 (.pointer (some ⟨Bd,0,none⟩)) rfl ?_ hH ?_
 ·intro w9 hw9;go_simp
 try simp only [nrm]
 refine tkA 58 (.pointer (some ⟨Bd,6,none⟩)) rfl ?_ hH ?_
 ·intro w9 hw9;go_simp
 try simp only [nrm]
 refine tkA 59 (.slice oa on V.oc) rfl ?_ hH ?_
 ·intro w9 hw9;have z9:=Grow.cell hw9 c6;go_simp
 try simp only [nrm]
 refine tk1 55 rfl fun K hK=>?_;go_simp;refine Book_any H B s _ (HGL.out.grow hH) (HB1.out.grow hH) HOK.out _ ?_;intro w15 hg15;go_wp2_with fail;refine hK.out _ _ (hH.trans hg15) ?_;clear hK K hH;intro hH;try simp only [nrm]
 clear hg15;refine tk1 60 rfl fun K hK=>?_;go_simp;refine zwu s.orders _ _ (HGL.out.grow hH) (HOD.out.grow hH) HOX.out (by have:=HO8.out;omega) _ ?_
 intro w16 hg16;go_wp2_with fail;refine hK.out _ _ (hH.trans hg16) ?_;clear hK K hH;intro hH;try simp only [nrm]
 clear hg16;refine tkA 61 (.bool true) rfl ?_ hH ?_
 ·intro w9 hw9;go_simp
 try simp only [nrm]
 refine tkA 62 (.bool true) rfl ?_ hH ?_
 ·intro w9 hw9;go_simp
 try simp only [nrm]
 refine tkA 63 (.bool true) rfl ?_ hH ?_
 ·intro w9 hw9;go_simp
 try simp only [nrm]
 refine wpAnyH_done (by kernel_rfl) ?_ _
 have HF:=jH (HR.out _ (HG1.out.trans hH));clear hH;go_wp2_with fail;exact HF.out
set_option maxRecDepth 100000
set_option maxHeartbeats 16000000
theorem zof {P:Program} {α:Type} {ops:Array Oper} {o:Oper} {a:Act} {w:World} {K:Act→World→Prop} {Q:Exit→Act→World→Prop} {E:Prop} (hw:Region.wanted o (yielded ops a.tmps)=true) (s x:Operand) (t:TypeId)
  (ho:o.op=.call { callee:=.builtin .append,args:=#[s,x],argTypes:=#[t,t] })
  (base:Nat) (e:TypeId) {k bytes:Nat} {z:Value} (ht:P.underlying t=some (.slice e)) (info:(P.info? e).map (fun i=>(i.zero,i.size,i.bytes))=some (some z,k,bytes))
  (hzs:z.cells.size=k) (hk:0<k) (hby:bytes≤1000)
  (enc:α→List Value) (hen:∀ x,(enc x).length=k) (h1:∀ x,∀ u∈enc x,u.oneCell'=true)
  (v:Value) (xs:List α) (hs:a.eval s=v) (hown:w.ownsRow base e k v xs.length (xs.flatMap enc)) (u:Value) (ys:List α) (hx:a.eval x=u) (hsrc:SlcAt k enc w u ys)
  (hn:xs.length+ys.length<100000000000) (hbase:base≤w.heap.size)
  (h:∀ v' w',w'.ownsRow base e k v' (xs++ys).length ((xs++ys).flatMap enc)→w.grownBy w' v.ownBlock→(v'.ownBlock=v.ownBlock∨v'.ownBlock=some w.heap.size)→K (a.put o.dst v') w') :
  if Region.wanted o (yielded ops a.tmps)=true then Oper.wp P o a w K Q else E:=by
 rw [if_pos hw];obtain ⟨i,hi,hz0,hz1,hz2⟩:=info_parts info;obtain ⟨ao,c,rfl,h2,h3,h4⟩:=hsrc;cases ao with
 | none=>
  have hys:ys=[]∧c=0:=by
   rcases h4 with ⟨h4,h5⟩ | ⟨b,o,h4,_⟩
   ·exact ⟨h4,h5 rfl⟩
   ·cases h4
  obtain ⟨rfl,rfl⟩:=hys;have hrun:=run_append_owned_none (P:=P) w base t o.type e i k ht hi v xs.length (xs.flatMap enc) hown;unfold Oper.wp;simp only [List.length_nil] at hx;simp [execOp,ho,resolve,invoke,builtin,hs,hx,hrun,Result.andThen];exact h v w (by simpa using hown) (World.grownBy.refl _ _) (.inl rfl)
 | some ad=>
  obtain ⟨v',w',hrun,a1,a2,_,a4⟩:=run_append_own_at (P:=P) w base t o.type e i z k bytes ht hi hz0 hz1 hz2 hzs hk v xs.length (xs.flatMap enc) hown ad ys.length c (ys.flatMap enc) (zbp hen ys) (by
   rcases h4 with ⟨h4,_⟩ | ⟨b,o',h4,hb,hc⟩
   ·subst h4;intro j u hj;simp at hj
   ·cases h4;intro j u hj;have hjl:j<ys.length * k:=by rw [← zbp hen ys];exact (List.getElem?_eq_some_iff.1 hj).1
    have hq:j / k<ys.length:=Nat.div_lt_of_lt_mul (by rw [Nat.mul_comm];exact hjl)
    obtain ⟨y,hy⟩:∃ y,ys[j / k]?=some y:=⟨_,List.getElem?_eq_getElem hq⟩;have hr:j % k<k:=Nat.mod_lt _ hk;have hf:=flatMap_getElem? hen ys (j / k) y hy (j % k) hr;have hdm:j / k * k+j % k=j:=by rw [Nat.mul_comm];exact Nat.div_add_mod j k
    rw [hdm,hj] at hf;have:=hc (j / k) y hy (j % k) u hf.symm;rw [Addr.add_lit];rw [Nat.add_assoc,hdm] at this;exact this) (by
   intro u hu;obtain ⟨y,_,hy⟩:=List.mem_flatMap.1 hu;exact h1 y u hy) (by unfold maxLen;omega) (Nat.le_trans (Nat.mul_le_mul (show xs.length+ys.length≤100000000000 by omega) hby) (by decide)) hbase
  unfold Oper.wp;simp [execOp,ho,resolve,invoke,builtin,hs,hx,hrun,Result.andThen];refine h v' w' ?_ a2 a4;rw [List.length_append,List.flatMap_append];exact a1
theorem zgn {P:Program} {α:Type} (w:World) {ops:Array Oper} {rest:List Oper} {o:Oper} {a:Act} {Q:Exit→Act→World→Prop} (hw:Region.wanted o (yielded ops a.tmps)=true) (s x:Operand) (t:TypeId)
  (ho:o.op=.call { callee:=.builtin .append,args:=#[s,x],argTypes:=#[t,t] })
  (base:Nat) (e:TypeId) {k bytes:Nat} {z:Value} (ht:P.underlying t=some (.slice e)) (info:(P.info? e).map (fun i=>(i.zero,i.size,i.bytes))=some (some z,k,bytes))
  (hzs:z.cells.size=k) (hk:0<k) (hby:bytes≤1000)
  (enc:α→List Value) (hen:∀ x,(enc x).length=k) (h1:∀ x,∀ u∈enc x,u.oneCell'=true)
  (v:Value) (xs:List α) (hs:a.eval s=v) (hown:w.ownsRow base e k v xs.length (xs.flatMap enc)) (u:Value) (ys:List α) (hx:a.eval x=u) (hsrc:SlcAt k enc w u ys)
  (hn:xs.length+ys.length<100000000000) (hbase:base≤w.heap.size)
  (h:∀ v' w',w'.ownsRow base e k v' (xs++ys).length ((xs++ys).flatMap enc)→w.grownBy w' v.ownBlock→wpList P ops Q rest (a.put o.dst v') w'):wpList P ops Q (o :: rest) a w:=by
 refine wpList_step fun K hK=>?_;exact zof hw s x t ho base e ht info hzs hk hby enc hen h1 v xs hs hown u ys hx hsrc hn hbase fun v' w' h1 h2 _=>hK _ _ (h v' w' h1 h2)
theorem zyw {α:Type} {k:Nat} {enc:α→List Value} {w:World} {v:Value} {xs:List α} (h:SlcAt k enc w v xs) {b i:Nat} {u:Value} (hb:∀ b' o n c,v=.slice (some ⟨b',o,none⟩) n c→b'≠b):SlcAt k enc (w.setCell ⟨b,i,none⟩ u) v xs:=by
 obtain ⟨a,c,rfl,h1,h2,h3⟩:=h;refine ⟨a,c,rfl,h1,h2,h3.imp id ?_⟩;rintro ⟨b',o,rfl,hb',hc⟩;have hne:=hb b' o _ _ rfl;refine ⟨b',o,rfl,by simpa [World.setCell] using hb',fun j x hx l y hy=>?_⟩
 rw [← hc j x hx l y hy];exact World.cell?_of_block (Below.heap_setCell _ _ _ _ (by exact hne))
theorem zwb (w:World) (t:ByteArray) (T:TypeId):TextsAt (w.alloc (.cells #[.string t] T)) (.slice (some ⟨w.heap.size,0,none⟩) 1 1) [t]:=by
 refine ⟨_,_,rfl,by simp,by decide,.inr ⟨w.heap.size,0,rfl,by rw [World.size_alloc];omega,fun j y hy i u hu=>?_⟩⟩
 have hj:j=0:=by have:=(List.getElem?_eq_some_iff.1 hy).1;simpa using this
 subst hj;have hyy:t=y:=by simpa using hy
 subst hyy;have:=zbj w (encTx t) T i u hu;rw [Addr.add_lit] at this;simpa [encTx] using this
structure RfI (w4 wr:World) (qa:Option Addr) (n:Nat) (ha:Option Addr) (hc:Nat) (L:List (Lo Ed)) (ta:Option Addr) (tc:Nat) (T:List Tq):Prop where
 g:Grow w4 wr
 q:Wl 57 4 wr qa n
 h:SlcAt 1 encLo wr (.slice ha L.length hc) L
 hw:Wl 58 1 wr ha L.length
 hi:∀ t∈L,Wl 60 5 wr t.a t.n
 t:SlcAt 3 encTq wr (.slice ta T.length tc) T
 tw:Wl 63 3 wr ta T.length
 ti:∀ q∈T,Wl 3 1 wr q.a q.n
theorem wl_ne {T0 T:TypeId} {k n b:Nat} {wr:World} {a:Option Addr} {cs:Array Value} (hb:wr.heap[b]?=some (.cells cs T0 (0,0))) (h:Wl T k wr a n) (hT:T0≠T) {b' o:Nat} (e:a=some ⟨b',o,none⟩):b'≠b:=by
 rintro rfl;obtain ⟨g,cs2,e2,h2,_⟩:=h _ e;cases e2;rw [hb] at h2;cases h2;exact hT rfl
theorem RfI.set {w4 wr:World} {qa:Option Addr} {n:Nat} {ha:Option Addr} {hc:Nat} {L:List (Lo Ed)} {ta:Option Addr} {tc:Nat} {T:List Tq} (h:RfI w4 wr qa n ha hc L ta tc T) {b:Nat} {T0:TypeId} {cs:Array Value} (hb:wr.heap[b]?=some (.cells cs T0 (0,0))) (h1:T0≠58) (h2:T0≠63) (hw:w4.heap.size≤b) (i:Nat) (u:Value):RfI w4 (wr.setCell ⟨b,i,none⟩ u) qa n ha hc L ta tc T where
 g:=Below.setCell h.g hw _
 q:=h.q.set b i u
 h:=zyw h.h fun b' o n' c e=>by
  injection e with e1 _ _;exact wl_ne hb h.hw h1 e1
 hw:=h.hw.set b i u
 hi:=fun t ht=>(h.hi t ht).set b i u
 t:=zyw h.t fun b' o n' c e=>by
  injection e with e1 _ _;exact wl_ne hb h.tw h2 e1
 tw:=h.tw.set b i u
 ti:=fun t ht=>(h.ti t ht).set b i u
theorem do_more {s:Bn} {t:ByteArray} (h:(doB s t).1=0):(doB s t).2.orders=s.orders++[t]:=by
 unfold doB at h ⊢
 split at h
 ·cases h
 ·next k l hp=>
  by_cases h8:80≤s.orders.length
  ·rw [if_pos h8] at h;cases h
  ·rw [if_neg h8] at h ⊢;by_cases he:(execB s k l).1≠0
   ·rw [if_pos he] at h;exact absurd h he
   ·rw [if_neg he] at h ⊢;dsimp only;rw [(zes s k l).1]
theorem ziw (p:List Ln) (l:List ByteArray) (text:ByteArray) (w:World) (v0 v1:Value) (hg:Glob w) (hp:LinesAt w v0 p) (hl:TextsAt w v1 l) (R:Ending→World→Prop) (hR:∀ w',Grow w w'→R (.returned (.bool true)) w') :
  Calls Tryz.prog 6 #[v0,v1,.string text] w R:=by
 have HR:=jH hR;have HG:=jH hg;have HP:=jH hp;have HL:=jH hl;have hgs:=hg.size;clear hR hg hp hl
 go_enter func6,ntmps6
 go_wp2_with fail;refine ztm p _ _ HP.out _ ?_;cases hlg:decide (100<p.length) with
 | true=>
  go_wp2_with fail;refine zfy _ HG.out _ ?_;intro ws hgs9;have HF:=jH (HR.out ws hgs9);clear hgs9;go_wp2_with fail;exact HF.out
 | false=>
 have hpl:p.length≤100:=by have:=of_decide_eq_false hlg;omega
 clear hlg;go_wp2_with fail;refine Long9_any l _ _ HL.out _ ?_;intro w1 hg1;have HG1:=jH hg1;clear hg1;cases hlg:lngT l with
 | true=>
  go_wp2_with fail;refine zfy _ (HG.out.grow HG1.out) _ ?_;intro ws hgs9;have HF:=jH (HR.out ws (HG1.out.trans hgs9));clear hgs9;go_wp2_with fail;exact HF.out
 | false=>
 obtain ⟨hsz,hlen⟩:=lngT_no hlg;have HSZ:=jH hsz;clear hlg hsz;by_cases htl:400<text.size
 ·have htz:decide ((text.size:Int) > 400)=true:=by rw [decide_eq_true_eq];omega
  go_wp2_with fail;refine zfy _ (HG.out.grow HG1.out) _ ?_;intro ws hgs9;have HF:=jH (HR.out ws (HG1.out.trans hgs9));clear hgs9;go_wp2_with fail;exact HF.out
 have htz:decide ((text.size:Int) > 400)=false:=by rw [decide_eq_false_iff_not];omega
 go_wp2_with fail;refine BeginD_any p _ _ (HP.out.grow HG1.out) (by omega) _ ?_ ?_
 ·intro h0 w2 hg2;have HG2:=jH (HG1.out.trans hg2);have H0:=jH h0;clear hg2 h0;go_wp2_with fail;refine zpt p _ _ (HG.out.grow HG2.out) (HP.out.grow HG2.out) (by omega) H0.out _ ?_
  intro w3 hg3;have HF:=jH (HR.out w3 (HG2.out.trans hg3));clear hg3;go_wp2_with fail;exact HF.out
 intro h0 w2 H B Bd hg2 hB hb hd;have HG2:=jH (HG1.out.trans hg2);have HB2:=jH hb;have HD2:=jH hd;have HOK:=jH (OkB.new h0);have hb4:4<w1.heap.size:=by have:=HG1.out.sz;omega
 have HB12:=jH hg2.sz;clear hg2 hb hd hB h0;go_wp2_with fail;refine few_any l _ _ (HL.out.grow HG2.out) _ ?_;intro w3 v3 hg3 ht3 hv3;have hoff:=zvh (HL.out.grow HG1.out) (Nat.le_refl _) HD2.out.hid ht3 hv3;obtain ⟨ls,hls⟩:∃ z,l.take 24=z:=⟨_,rfl⟩;have hlsz:∀ t∈ls,t.size<4294967281:=fun t ht=>by
  rw [← hls] at ht;have:=HSZ.out t (List.mem_of_mem_take ht);omega
 rw [hls] at ht3 hoff;have HLS:=jH hlsz;have HT:=jH hoff;have HG3:=jH (HG2.out.trans hg3);have HB3:=jH (HB2.out.grow hg3);have HD3:=jH (HD2.out.grow hg3);have hb3:w1.heap.size≤w3.heap.size:=Nat.le_trans HB12.out hg3.sz;obtain ⟨va,vc,rfl,a1,a2,jk⟩:=ht3;clear hg3 hv3 hoff hlsz jk hls;go_wp2_with fail;refine all9_any w1.heap.size hb4 H B Bd (newB p) HOK.out ls HLS.out _ _ w HG.out HG3.out HG1.out.sz hb3 HB3.out HD3.out HT.out _ ?_;intro w4 H4 ds4 hbn4 hdk4;have HOKS:=jH (HOK.out.dos ls);obtain ⟨S,hS⟩:∃ z,dosB (newB p) ls=z:=⟨_,rfl⟩;rw [hS] at hbn4 hdk4 HOKS;have HG4:=jH (ds4.base HG3.out HD3.out.hid HG1.out.sz);have HB4:=jH hbn4;have HD4:=jH hdk4;have hb4':w1.heap.size≤w4.heap.size:=Nat.le_trans hb3 ds4.sz;have hB4:4<B:=Nat.lt_of_lt_of_le hb4 (hdk4.hid.lo B hbn4.hid.hH);have ho80:=HOKS.out.ord;have hp8:=(zba.1 HOKS.out.valp).1;clear ds4 hbn4 hdk4 hS hgs hlen;go_wp2_with fail;refine Program_any H4 B S _ HB4.out HOKS.out _ ?_;intro w5 v5 b5 hg5 hb5 ho5;have HWQ:=jH (show ∃ qa qc,v5=.slice qa S.prog.length qc∧Wl 57 4 w5 qa S.prog.length∧(0<S.prog.length→∃ g,qa=some ⟨g,0,none⟩∧w4.heap.size≤g) from by
  obtain ⟨qa,qc,rfl,_⟩:=zaa zab ho5;refine ⟨qa,qc,rfl,Wl.of_owns ho5,fun h0=>?_⟩;rcases ho5.2 with ⟨_,h⟩ | ⟨g,cap,cur,hv,hgb,_⟩
  ·omega
  ·cases hv;exact ⟨g,rfl,by omega⟩)
 obtain ⟨qa,qc,rfl,hwq,hqs⟩:=HWQ.out;have HWq:=jH hwq;have HQS:=jH hqs;have HG5:=jH hg5;clear hg5 hb5 ho5 HWQ hwq hqs;go_wp2_with fail;refine HistoryW_any H4 B S _ (HB4.out.grow HG5.out) HOKS.out _ ?_;intro w6 v6 b6 L hg6 hb6 hn6 ho6 hx6;obtain ⟨how6,hwl6⟩:=ho6;have hrw6:=how6.row;obtain ⟨ha,hc,rfl,_,_,jk6⟩:=zaa zaz hrw6;have HL6:=jH how6.at_;have HWH:=jH (show Wl 58 1 w6 ha L.length from Wl.of_owns hrw6);have HWL:=jH hwl6;have HLS6:=jH (show ∀ t∈L,t.n≤9223372036854775807∧(0<t.n→∃ g,t.a=some ⟨g,0,none⟩∧w4.heap.size≤g) from fun t ht=>by
  obtain ⟨_,_,e,j1,j2,h4⟩:=how6.ins t ht;injection e with e1 e2 e3;refine ⟨by omega,fun h0=>?_⟩
  rcases h4 with ⟨h4,_⟩ | ⟨b,o,h5,_⟩
  ·rw [h4] at e2;simp at e2;omega
  ·obtain ⟨g,cs,e4,h6,_⟩:=hwl6 t ht ⟨b,o,none⟩ (by rw [e1,h5])
   have h7:=hn6.2 t ht ⟨b,o,none⟩ t.n t.c (by show (Value.slice t.a t.n t.c)=_;rw [e1,h5])
   cases e4;exact ⟨b,by rw [e1,h5],by have:=HG5.out.sz;dsimp only at h7;omega⟩)
 have HG6:=jH (HG5.out.trans hg6);have HWq6:=jH (HWq.out.grow hg6);clear hg6 hb6 hn6 hx6 how6 hwl6 hrw6 jk6 HWq;go_wp2_with fail;refine TestsW_any H4 B S _ (HB4.out.grow HG6.out) HOKS.out _ ?_;intro w7 v7 b7 T hg7 hb7 ho7 hx7;obtain ⟨how7,hwl7⟩:=ho7;have hrw7:=how7.row;obtain ⟨ta,tc,rfl,_,_,jk7⟩:=zaa zat hrw7;have HTS7:=jH (show ∀ q∈T,q.n≤9223372036854775807∧(0<q.n→∃ g,q.a=some ⟨g,0,none⟩∧w4.heap.size≤g) from fun t ht=>by
  obtain ⟨_,_,e,j1,j2,h4⟩:=how7.ins t ht;injection e with e1 e2 e3;refine ⟨by omega,fun h0=>?_⟩
  rcases h4 with ⟨h4,_⟩ | ⟨b,o,h5,_⟩
  ·rw [h4] at e2;simp at e2;omega
  ·obtain ⟨g,cs,e4,h6,_⟩:=hwl7 t ht ⟨b,o,none⟩ (by rw [e1,h5])
   have h7:=(how7.off t ht b o none (by rw [e1,h5])).2.2
   cases e4;exact ⟨b,by rw [e1,h5],by have:=HG6.out.sz;omega⟩)
 have HI:=jH (show RfI w4 w7 qa S.prog.length ha hc L ta tc T from ⟨HG6.out.trans hg7,HWq6.out.grow hg7,HL6.out.grow hg7,HWH.out.grow hg7,fun t ht=>(HWL.out t ht).grow hg7,how7.at_.at_,Wl.of_owns hrw7,hwl7⟩);clear hg7 hb7 hx7 how7 hwl7 hrw7 jk7 HWq6 HWH HWL HL6 HG5 HG6;go_wp2_with fail
 go_loopw [13] (fun s13 wr=>∃ k:Nat,k≤S.prog.length∧s13=.int .i64 k∧RfI w4 wr qa S.prog.length ha hc L ta tc T) (fun s13 _=>S.prog.length - (intOf s13).toNat)
 case atStart=>exact ⟨0,Nat.zero_le _,rfl,HI.out⟩
 case round=>
 obtain ⟨k,hk,rfl,hi⟩:=hrel;have HI1:=jH hi;clear hi;by_cases hlt:k<S.prog.length
 ·have hltz:(k:Int)<(S.prog.length:Int):=by omega
  obtain ⟨g,rfl,hgw⟩:=HQS.out (by omega)
  obtain ⟨g',e',z0,⟨u0,hu0⟩,cs,hcs⟩:=HI1.out.q.cell (j:=k * 4) (by omega)
  cases e';have HI2:=jH (HI1.out.set hcs (by decide) (by decide) hgw (k * 4) (.int .i64 (-1)))
  clear hcs;go_wp2_with fail;go_roundw
  case rel=>exact ⟨k+1,by omega,by go_num,HI2.out⟩
  case measure=>simp [intOf];omega
 obtain rfl:k=S.prog.length:=by omega
 have hltz:¬ (S.prog.length:Int)<(S.prog.length:Int):=by omega
 clear hlt hk HI;go_wp2_with fail;clear hltz
 go_loopw [14,15] (fun s14 _ wr=>∃ k:Nat,k≤L.length∧s14=.int .i64 k∧RfI w4 wr qa S.prog.length ha hc L ta tc T) (fun s14 _ _=>L.length - (intOf s14).toNat)
 case atStart=>exact ⟨0,Nat.zero_le _,rfl,HI1.out⟩
 case round=>
 obtain ⟨k,hk,rfl,hi⟩:=hrel;have HI3:=jH hi;clear hi HI1;by_cases hlt:k<L.length
 ·have hltz:(k:Int)<(L.length:Int):=by omega
  obtain ⟨⟨a3,n3,c3,x3⟩,ht⟩:∃ t,L[k]?=some t:=⟨_,List.getElem?_eq_getElem hlt⟩;obtain ⟨hb3,hn3⟩:=HLS6.out _ (List.mem_of_getElem? ht);dsimp only at hb3 hn3;have HN3:=jH hn3;have HT3:=jH ht;clear hn3 ht;go_wp2_with fail
  go_loopw [15] (fun s15 wr=>∃ j:Nat,j≤n3∧s15=.int .i64 j∧RfI w4 wr qa S.prog.length ha hc L ta tc T) (fun s15 _=>n3 - (intOf s15).toNat)
  case atStart=>exact ⟨0,Nat.zero_le _,rfl,HI3.out⟩
  case round=>
  obtain ⟨j,hj,rfl,hi⟩:=hrel;have HI4:=jH hi;clear hi;obtain ⟨b,o,rfl,hbl,y0⟩:=lo_at HI4.out.h HT3.out;dsimp only at y0;by_cases hjl:j<n3
  ·have hjz:(j:Int)<(n3:Int):=by omega
   obtain ⟨g,rfl,hgw⟩:=HN3.out (by omega)
   obtain ⟨g',e',z0,⟨u0,hu0⟩,cs,hcs⟩:=(HI4.out.hi _ (List.mem_of_getElem? HT3.out)).cell (j:=j * 5) (by dsimp only;omega)
   cases e';have HI5:=jH (HI4.out.set hcs (by decide) (by decide) hgw (j * 5) (.int .i64 (-1)))
   clear hcs;go_wp2_with fail;go_roundw
   case rel=>exact ⟨j+1,by omega,by go_num,HI5.out⟩
   case measure=>simp [intOf];omega
  obtain rfl:j=n3:=by omega
  have hjz:¬ (j:Int)<(j:Int):=by omega
  go_wp2_with fail;go_roundw
  case rel=>exact ⟨k+1,by omega,by go_num,HI4.out⟩
  case measure=>simp [intOf];omega
 obtain rfl:k=L.length:=by omega
 have hltz:¬ (L.length:Int)<(L.length:Int):=by omega
 clear hlt hk;go_wp2_with fail;clear hltz
 go_loopw [16,17] (fun s16 _ wr=>∃ k:Nat,k≤T.length∧s16=.int .i64 k∧RfI w4 wr qa S.prog.length ha hc L ta tc T) (fun s16 _ _=>T.length - (intOf s16).toNat)
 case atStart=>exact ⟨0,Nat.zero_le _,rfl,HI3.out⟩
 case round=>
 obtain ⟨k,hk,rfl,hi⟩:=hrel;have HI6:=jH hi;clear hi HI3;by_cases hlt:k<T.length
 ·have hltz:(k:Int)<(T.length:Int):=by omega
  obtain ⟨⟨a3,n3,c3,x3,o3,t3⟩,ht⟩:∃ t,T[k]?=some t:=⟨_,List.getElem?_eq_getElem hlt⟩;obtain ⟨hb3,hn3⟩:=HTS7.out _ (List.mem_of_getElem? ht);dsimp only at hb3 hn3;have HN3:=jH hn3;have HT3:=jH ht;clear hn3 ht;go_wp2_with fail
  go_loopw [17] (fun s17 wr=>∃ j:Nat,j≤n3∧s17=.int .i64 j∧RfI w4 wr qa S.prog.length ha hc L ta tc T) (fun s17 _=>n3 - (intOf s17).toNat)
  case atStart=>exact ⟨0,Nat.zero_le _,rfl,HI6.out⟩
  case round=>
  obtain ⟨j,hj,rfl,hi⟩:=hrel;have HI4:=jH hi;clear hi;obtain ⟨b,o,rfl,hbl,y0,_,_⟩:=tq_at HI4.out.t HT3.out;dsimp only at y0;by_cases hjl:j<n3
  ·have hjz:(j:Int)<(n3:Int):=by omega
   obtain ⟨g,rfl,hgw⟩:=HN3.out (by omega)
   obtain ⟨g',e',z0,⟨u0,hu0⟩,cs,hcs⟩:=(HI4.out.ti _ (List.mem_of_getElem? HT3.out)).cell (j:=j) (by dsimp only;omega)
   cases e';have HI5:=jH (HI4.out.set hcs (by decide) (by decide) hgw j (.int .i64 5000))
   clear hcs;go_wp2_with fail;go_roundw
   case rel=>exact ⟨j+1,by omega,by go_num,HI5.out⟩
   case measure=>simp [intOf];omega
  obtain rfl:j=n3:=by omega
  have hjz:¬ (j:Int)<(j:Int):=by omega
  go_wp2_with fail;go_roundw
  case rel=>exact ⟨k+1,by omega,by go_num,HI4.out⟩
  case measure=>simp [intOf];omega
 obtain rfl:k=T.length:=by omega
 have hltz:¬ (T.length:Int)<(T.length:Int):=by omega
 obtain ⟨w8,hw8⟩:∃ z:World,z=wr:=⟨_,rfl⟩;rw [← hw8] at HI6 ⊢;have HG48:=jH HI6.out.g;have HG8:=jH (HG4.out.trans HG48.out);have HB8:=jH (HB4.out.grow HG48.out);have HD8:=jH (HD4.out.grow HG48.out);clear hlt hk hw8 HI6 HTS7 HLS6 HQS HB4 HD4;go_wp2_with fail;refine Equal_any H4 H4 B Bd w1.heap.size S _ (HG.out.grow HG8.out) HB8.out HOKS.out HD8.out _ ?_;intro w9 hg9;have HG9:=jH (HG8.out.trans hg9);have HB9:=jH (HB8.out.grow hg9);have HD9:=jH (HD8.out.grow hg9);have hwB:w.heap.size≤B:=Nat.le_trans HG1.out.sz (HD8.out.hid.lo B HB8.out.hid.hH);clear hg9 HB8 HD8;go_wp2_with fail;refine zqo H4 B text (by omega) S _ (HG.out.grow HG9.out) HB9.out HOKS.out hB4 _ ?_
 intro w10 hc10 hb10;have HD10:=jH (HD9.out.bench HB9.out hc10);have HG10:=jH (zmp HG9.out hc10 hwB);clear hc10;by_cases he:(doB S text).1=0;rotate_left
 ·rw [do_err he] at hb10;have HB10:=jH hb10;obtain ⟨e,hee⟩:∃ e,(doB S text).1=e:=⟨_,rfl⟩;rw [hee] at he ⊢;have hez:(e != 0)=true:=by simpa using he
  clear hb10 hee he;go_wp2_with fail;refine Equal_any H4 H4 B Bd w1.heap.size S _ (HG.out.grow HG10.out) HB10.out HOKS.out HD10.out _ ?_;intro w11 hg11;have HG11:=jH (HG10.out.trans hg11);clear hg11;go_wp2_with fail;refine zfy _ (HG.out.grow HG11.out) _ ?_;intro ws hgs9;have HF:=jH (HR.out ws (HG11.out.trans hgs9));clear hgs9;go_wp2_with fail;exact HF.out
 have HMO:=jH (do_more he);have HOK2:=jH (HOKS.out.do text);obtain ⟨S2,hS2⟩:∃ z,(doB S text).2=z:=⟨_,rfl⟩;rw [hS2] at hb10 HMO HOK2;rw [he];have HB10:=jH hb10;have hbb:=bk_bound HOK2.out;have HBM:=jH (show (tb (bkS S2.orders)).size≤1000000000 by rw [zck];omega)
 have HRD:=jH (zpg HOK2.out.okL HOK2.out.ord);clear hb10 hS2 he hbb;go_wp2_with fail;refine Book_any H4 B S2 _ (HG.out.grow HG10.out) HB10.out HOK2.out _ ?_;intro w11 hg11;have HG11:=jH (HG10.out.trans hg11);have HD11:=jH (HD10.out.grow hg11);clear hg11;go_wp2_with fail;refine Read_any (tb (bkS S2.orders)) HBM.out _ (HG.out.grow HG11.out) _ ?_;intro w12 v12 hg12 ho12;rw [HRD.out] at ho12 ⊢;dsimp only at ho12 ⊢;rw [zoo,HMO.out] at ho12;have HT12:=jH (zaa zbi ho12);obtain ⟨ra,rc,rfl,_,_,jk12⟩:=zaa zbi ho12;obtain ⟨m1,hm1⟩:∃ m,(S.orders++[text]).length=m:=⟨_,rfl⟩;rw [hm1] at HT12 ⊢;have HM1:=jH hm1;clear hm1;have HG12:=jH (HG11.out.trans hg12);obtain ⟨V12,hbk12,hr12⟩:=(HD11.out.grow hg12).blk;obtain ⟨_,_,_,_,_,_,c6⟩:=zaw hbk12;have hol:(dsB S).orders.length=S.orders.length:=rfl;rw [hol] at c6;have hBd:=lt_of_block hbk12;have HOD:=jH (show TextsAt w12 (.slice V12.oa S.orders.length V12.oc) S.orders from DRow.slc zbi hr12.od);have htn:=tb_nil;clear hg12 ho12 jk12 hbk12 hr12 hol HD11 HB10 HB9 HD9 HD10;go_wp2_with (at_builtin;refine Classical.byContradiction (fun hcon=>?_));refine hcon ?_;clear hcon;refine zgn _ (by kernel_rfl) (.tmp 133) (.tmp 137) 23 rfl w12.heap.size 9 underlying23 zdt rfl (by decide) (by decide) encTx zbi zcz _ [] rfl (zah w12 1 _ encTx _ (Nat.le_refl _)) _ S.orders rfl (HOD.out.grow ((Grow.refl w12).alloc _)) (by simp;omega) (by simp) ?_
 intro v13 w13 hown13 hgr13;have hg13:Grow w12 w13:=zae (zah (α:=ByteArray) w12 1 9 encTx _ (Nat.le_refl _)) hgr13 (Nat.le_refl _) (by simp) ((Grow.refl w12).alloc _)
 have HO13:=jH (show w13.ownsRow w12.heap.size 9 1 v13 S.orders.length (S.orders.flatMap encTx) by simpa using hown13)
 have HG13:=jH (HG12.out.trans hg13);have HGX:=jH hg13;have HT13:=jH (HT12.out.grow hg13);clear hown13 hgr13 hg13 c6;go_wp2_with (at_builtin;refine Classical.byContradiction (fun hcon=>?_));refine hcon ?_;clear hcon;refine zgn _ (by kernel_rfl) (.tmp 138) (.tmp 140) 23 rfl w12.heap.size 9 underlying23 zdt rfl (by decide) (by decide) encTx zbi zcz v13 S.orders rfl (((Grow.refl w13).alloc _).owns HO13.out) _ [text] rfl (zwb w13 text 9) (by simp;omega) (by have:=HGX.out.sz;simp;omega) ?_
 intro v14 w14 hown14 hgr14;have hg14:Grow w12 w14:=zae (((Grow.refl w13).alloc (.cells #[.string text] 9)).owns HO13.out) hgr14 (Nat.le_refl _) (by have:=HGX.out.sz;simp;omega) (HGX.out.alloc _)
 have HT14:=jH (zaa zbi hown14);have HTA:=jH (HT12.out.grow hg14);have HG14:=jH (HG12.out.trans hg14);obtain ⟨na,nc,rfl,_,_,jk14⟩:=zaa zbi hown14;rw [HM1.out] at HT14 ⊢;clear hown14 hgr14 hg14 jk14;go_wp2_with fail;refine zlm (S.orders++[text]) (S.orders++[text]) _ _ _ HTA.out HT14.out _ ?_;intro w15 hg15;rw [decide_eq_true rfl];have HG15:=jH (HG14.out.trans hg15);clear hg15;go_wp2_with fail;refine zfy _ (HG.out.grow HG15.out) _ ?_;intro ws hgs9;have HF:=jH (HR.out ws (HG15.out.trans hgs9));clear hgs9;go_wp2_with fail;exact HF.out
end Go.Proofs.YtmeejlgnhfkeaaaGreatDoor
