/- Parts. -/
import Derived.WalkKit
import Derived.WalkSpells
import Derived.WalkLawsBesides
import Derived.WalkSmall
import Derived.Lib.Hide
import Derived.Laws.EntriesVeiled
import Derived.Shelf.Abstract
namespace Go.Proofs.YtmeejlgnhfkeaaaGreatDoor
open Go.RowKit
theorem jH {p:Prop} (h:p):Hid p:=h
theorem nrm:(∀ {α:Type} {xs:List α} {i:Nat} (h:i<xs.toArray.size),xs.toArray[i]=xs[i])∧(∀ {α:Type} (a:α) (l:List α) (i:Nat) (h:i+1<(a :: l).length),(a :: l)[i+1]=l[i]'(Nat.lt_of_succ_lt_succ h))∧(∀ {α:Type} (a:α) (l:List α) (h:0<(a :: l).length),(a :: l)[0]=a)∧(∀ {α:Type} (l:List α) (i:Nat) (a:α),l.toArray.setIfInBounds i a=(l.set i a).toArray)∧(∀ {α:Type} {x:α} {xs:List α} {a:α},(x :: xs).set 0 a=a :: xs)∧(∀ {α:Type} {x:α} {xs:List α} {i:Nat} {a:α},(x :: xs).set (i+1) a=x :: xs.set i a)∧(∀ (a:Act) (d:Nat) (v:Value),a.put (some d) v={ a with tmps:=a.tmps.setIfInBounds d v })∧(∀ (a:Act) (v:Value),a.put none v=a):=
 ⟨List.getElem_toArray,List.getElem_cons_succ,List.getElem_cons_zero,List.setIfInBounds_toArray,List.set_cons_zero,List.set_cons_succ,fun _ _ _=>rfl,fun _ _=>rfl⟩
def Grow (w w':World):Prop:=Below w.heap.size w w'
namespace Grow
variable {a b c w w':World}
theorem refl (w:World):Grow w w:=Below.refl _ _
theorem sz (h:Grow w w'):w.heap.size≤w'.heap.size:=Below.size h
theorem trans (h:Grow a b) (k:Grow b c):Grow a c:=Below.trans h (Below.mono k h.sz)
theorem alloc (h:Grow a w) (o:Obj):Grow a (w.alloc o):=Below.alloc h h.sz o
theorem drew (h:Grow a w):Grow a w.drew:=Below.drew h
theorem drewN (h:Grow a w) (n:Nat):Grow a (w.drewN n):=below_drewN h n
theorem heap (h:Grow w w') {k:Nat} (hk:k<w.heap.size):w'.heap[k]?=w.heap[k]?:=Below.block h k hk
theorem blk (h:Grow w w') {k:Nat} {o:Obj} (hk:w.heap[k]?=some o):w'.heap[k]?=some o:=(h.heap (lt_of_block hk)).trans hk
theorem cellsB (hb:Grow w w'):(∀ b o,b<w.heap.size→w'.cell? ⟨b,o,none⟩=w.cell? ⟨b,o,none⟩)∧(∀ b o,b<w.heap.size→w'.frozen? ⟨b,o,none⟩=w.frozen? ⟨b,o,none⟩):=
 ⟨fun b o h=>Below.cell (p:=⟨b,o,none⟩) hb h,fun b o h=>Below.frozen (p:=⟨b,o,none⟩) hb h⟩
theorem cell (hb:Grow w w') {a:Addr} {v:Value} (h:w.cell? a=some v):w'.cell? a=some v:=
 (Below.cell hb (World.block_lt_of_cell? _ _ h)).trans h
theorem grownBy (h:Grow w w') (r:Option Nat):w.grownBy w' r:=⟨Below.os h,Below.tape h,Below.output h,Below.size h,fun k hk _=>Below.block h k hk⟩
theorem of_grownBy (h:w.grownBy w' none):Grow w w':=⟨h.os,h.tape,h.output,h.size,fun k hk=>h.block k hk (by simp)⟩
theorem owns (h:Grow w w') {base:Nat} {e:TypeId} {size:Nat} {v:Value} {n:Nat} {xs:List Value} (ho:w.ownsRow base e size v n xs):w'.ownsRow base e size v n xs:=
 ho.kept (h.grownBy none) (by cases hv:v.ownBlock<;>simp)
theorem below (h:Grow w w') {B:Nat} (hB:B≤w.heap.size):Below B w w':=Below.mono h hB
end Grow
theorem Below.of_grow {B:Nat} {a w w':World} (h:Below B a w) (k:Grow w w') (hB:B≤w.heap.size):Below B a w':=Below.trans h (k.below hB)
theorem zbx (w:World) (A B:Obj):((w.alloc A).alloc B).heap[w.heap.size]?=some A:=by
 rw [Below.heap_alloc _ _ _ (by simp)];exact heap_alloc_new w A
theorem zco (w:World) (A B:Obj):((w.alloc A).alloc B).heap[w.heap.size+1]?=some B:=by
 have:=heap_alloc_new (w.alloc A) B
 rwa [World.size_alloc] at this
def SlcAt {α:Type} (k:Nat) (enc:α→List Value) (w:World) (v:Value) (xs:List α):Prop:=
 ∃ a c,v=.slice a xs.length c∧xs.length≤c∧c≤9223372036854775807 ∧
  ((xs=[]∧(a=none→c=0))∨∃ b o,a=some ⟨b,o,none⟩∧b<w.heap.size∧∀ j x,xs[j]?=some x→∀ i u,(enc x)[i]?=some u→w.cell? ⟨b,o+j * k+i,none⟩=some u)
theorem SlcAt.grow {α:Type} {k:Nat} {enc:α→List Value} {w w':World} {v:Value} {xs:List α} (h:SlcAt k enc w v xs) (g:Grow w w'):SlcAt k enc w' v xs:=by
 obtain ⟨a,c,h1,h2,h3,h4⟩:=h;refine ⟨a,c,h1,h2,h3,h4.imp id ?_⟩;rintro ⟨b,o,e,hb,hc⟩;exact ⟨b,o,e,Nat.lt_of_lt_of_le hb g.sz,fun j x hx i u hu=>g.cell (hc j x hx i u hu)⟩
theorem SlcAt.len_le {α:Type} {k:Nat} {enc:α→List Value} {w:World} {v:Value} {xs:List α} (h:SlcAt k enc w v xs):xs.length≤9223372036854775807:=by
 obtain ⟨a,c,h1,h2,h3,h4⟩:=h;omega
theorem SlcAt.nil {α:Type} (k:Nat) (enc:α→List Value) (w:World):SlcAt k enc w (.slice none 0 0) []:=⟨none,0,rfl,by simp,by simp,.inl ⟨rfl,fun _=>rfl⟩⟩
def Own {α:Type} (k:Nat) (enc:α→List Value) (base:Nat) (w:World) (v:Value) (xs:List α):Prop:=
 ∃ e,w.ownsRow base e k v xs.length (xs.flatMap enc)
theorem Own.grow {α:Type} {k:Nat} {enc:α→List Value} {base:Nat} {w w':World} {v:Value} {xs:List α} (h:Own k enc base w v xs) (g:Grow w w'):Own k enc base w' v xs:=
 let ⟨e,he⟩:=h;⟨e,g.owns he⟩
theorem zbu {w:World} {base base':Nat} {e:TypeId} {size:Nat} {v:Value} {n:Nat} {xs:List Value} (h:w.ownsRow base e size v n xs) (hb:base'≤base):w.ownsRow base' e size v n xs:=by
 obtain ⟨h1,h2⟩:=h;refine ⟨h1,h2.imp id ?_⟩;rintro ⟨g,cap,cur,a,b,c,d⟩;exact ⟨g,cap,cur,a,Nat.le_trans hb b,c,d⟩
theorem Own.mono {α:Type} {k:Nat} {enc:α→List Value} {base base':Nat} {w:World} {v:Value} {xs:List α} (h:Own k enc base w v xs) (hb:base'≤base):Own k enc base' w v xs:=
 let ⟨e,he⟩:=h;⟨e,zbu he hb⟩
theorem flatMap_getElem? {α:Type} {k:Nat} {enc:α→List Value} (hk:∀ x,(enc x).length=k):∀ (xs:List α) (j:Nat) (x:α),xs[j]?=some x→∀ i,i<k→(xs.flatMap enc)[j * k+i]?=(enc x)[i]?
 | [],j,x,h,i,hi=>by simp at h
 | y :: ys,0,x,h,i,hi=>by
  simp at h;subst h;simp [List.flatMap_cons,List.getElem?_append,hk,hi]
 | y :: ys,j+1,x,h,i,hi=>by
  simp at h;have ih:=flatMap_getElem? hk ys j x h i hi;rw [List.flatMap_cons,List.getElem?_append_right (by rw [hk,Nat.succ_mul];omega),hk,← ih]
  congr 1
  rw [Nat.succ_mul];omega
theorem zbp {α:Type} {k:Nat} {enc:α→List Value} (hk:∀ x,(enc x).length=k):∀ (xs:List α),(xs.flatMap enc).length=xs.length * k
 | []=>by simp
 | y :: ys=>by rw [List.flatMap_cons,List.length_append,hk,zbp hk ys,List.length_cons,Nat.succ_mul];omega
theorem zaa {α:Type} {k:Nat} {enc:α→List Value} (hk:∀ x,(enc x).length=k) {base:Nat} {e:TypeId} {w:World} {v:Value} {xs:List α}
  (h:w.ownsRow base e k v xs.length (xs.flatMap enc)):SlcAt k enc w v xs:=by
 rcases h.2 with ⟨rfl,h0⟩ | ⟨g,cap,cur,rfl,hb,hh,hn,hm,hcs,htake⟩
 ·have:xs=[]:=List.eq_nil_of_length_eq_zero h0;subst this;exact SlcAt.nil _ _ _
 ·refine ⟨_,cap,rfl,hn,by simpa [maxLen] using hm,.inr ⟨g,0,rfl,lt_of_block hh,fun j x hx i u hu=>?_⟩⟩
  have hi:i<k:=by rw [← hk x];exact (List.getElem?_eq_some_iff.1 hu).1
  have hj:j<xs.length:=(List.getElem?_eq_some_iff.1 hx).1;have hf:=flatMap_getElem? hk xs j x hx i hi;have hlt:j * k+i<xs.length * k:=by
   have:(j+1) * k≤xs.length * k:=Nat.mul_le_mul_right _ hj;rw [Nat.succ_mul] at this;omega
  have:=World.ownsRow.cellAt (w:=w) (base:=base) (e:=e) (size:=k) (g:=g) (n:=xs.length) (cap:=cap) h (j * k+i) hlt;rw [Nat.zero_add,this,hf,hu]
theorem Own.slc {α:Type} {k:Nat} {enc:α→List Value} (hk:∀ x,(enc x).length=k) {base:Nat} {w:World} {v:Value} {xs:List α} (h:Own k enc base w v xs):SlcAt k enc w v xs:=
 let ⟨_,he⟩:=h;zaa hk he
theorem Own.nil {α:Type} (k:Nat) (enc:α→List Value) (base:Nat) (w:World):Own k enc base w (.slice none 0 0) []:=⟨0,World.ownsRow_nil _ _ _ _⟩
theorem zad {P:Program} {α:Type} (w:World) {ops:Array Oper} {rest:List Oper} {o:Oper} {a:Act} {Q:Exit→Act→World→Prop} (hgd:o.guard=none) (s x:Operand) (t:TypeId)
  (ho:o.op=.call { callee:=.builtin .append,args:=#[s,x],argTypes:=#[t,t] })
  (base:Nat) (e:TypeId) {k bytes:Nat} {z:Value} (ht:P.underlying t=some (.slice e)) (info:(P.info? e).map (fun i=>(i.zero,i.size,i.bytes))=some (some z,k,bytes))
  (hzs:z.cells.size=k) (hk:0<k) (hby:bytes≤1000)
  (enc:α→List Value) (hen:∀ x,(enc x).length=k) (h1:∀ x,∀ u∈enc x,u.oneCell'=true)
  (v:Value) (xs:List α) (hs:a.eval s=v) (hown:w.ownsRow base e k v xs.length (xs.flatMap enc)) (ad:Addr) (y:α) (c:Nat) (hx:a.eval x=.slice (some ad) 1 c)
  (hnews:∀ j u,(enc y)[j]?=some u→w.cell? (ad.add j)=some u) (hn:xs.length<100000000000) (hbase:base≤w.heap.size)
  (h:∀ v' w',w'.ownsRow base e k v' (xs++[y]).length ((xs++[y]).flatMap enc)→w.grownBy w' v.ownBlock→wpList P ops Q rest (a.put o.dst v') w'):wpList P ops Q (o :: rest) a w:=by
 obtain ⟨i,hi,hz0,hz1,hz2⟩:=info_parts info;refine wpList_append_own w hgd s x t ho base e i z k bytes ht hi hz0 hz1 hz2 hzs hk v xs.length (xs.flatMap enc) hs hown ad 1 c (enc y) hx (by rw [hen];omega) hnews (h1 y) (by unfold maxLen;omega) ?_ hbase ?_
 ·exact Nat.le_trans (Nat.mul_le_mul (show xs.length+1≤100000000000 by omega) hby) (by decide)
 ·intro v' w' a1 a2 _;refine h v' w' ?_ a2;rw [List.length_append,List.flatMap_append];simpa using a1
theorem zev {w w' w0:World} {base:Nat} {e:TypeId} {k:Nat} {v:Value} {n:Nat} {xs:List Value} (hown:w0.ownsRow base e k v n xs) (hg:w.grownBy w' v.ownBlock) {j:Nat} {o:Obj} (hj:j<base) (h:w.heap[j]?=some o):w'.heap[j]?=some o:=by
 rw [hg.block j (lt_of_block h) (fun e=>by have:=(hown.lt j e.symm).1;omega)];exact h
theorem zli {w w' w0:World} {base:Nat} {e:TypeId} {k:Nat} {v:Value} {n:Nat} {xs:List Value} (hown:w0.ownsRow base e k v n xs) (hg:w.grownBy w' v.ownBlock) {j:Nat} {o:Obj} (hj:w0.heap.size≤j) (h:w.heap[j]?=some o):w'.heap[j]?=some o:=by
 rw [hg.block j (lt_of_block h) (fun e=>by have:=(hown.lt j e.symm).2;omega)];exact h
theorem zae {w w' w0 a:World} {base B:Nat} {e:TypeId} {k:Nat} {v:Value} {n:Nat} {xs:List Value} (hown:w0.ownsRow base e k v n xs) (hg:w.grownBy w' v.ownBlock) (hB:B≤base) (hsz:B≤w.heap.size) (hb:Below B a w):Below B a w':=
 Below.grown hb hg hsz (fun j hj=>by have:=(hown.lt j hj).1;omega)
theorem zbj (w:World) (cs:List Value) (t:TypeId):∀ j u,cs[j]?=some u→(w.alloc (.cells cs.toArray t)).cell? ((⟨w.heap.size,0,none⟩:Addr).add j)=some u:=by
 intro j u hj;rw [Addr.add_lit,World.cell?_alloc_new];simpa using hj
theorem zsn (w:World) (A:Obj) (cs:List Value) (t:TypeId):∀ j u,cs[j]?=some u→((w.alloc A).alloc (.cells cs.toArray t)).cell? ((⟨w.heap.size+1,0,none⟩:Addr).add j)=some u:=by
 intro j u hj;have:=zbj (w.alloc A) cs t j u hj
 rwa [World.size_alloc] at this
def encI (n:Int):List Value:=[.int .i64 n]
theorem zal (n:Int):(encI n).length=1:=rfl
abbrev IntsAt (w:World) (v:Value) (xs:List Int):Prop:=SlcAt 1 encI w v xs
abbrev OwnI (base:Nat) (w:World) (v:Value) (xs:List Int):Prop:=Own 1 encI base w v xs
theorem zbb {w:World} {b o:Nat} {xs:List Int} (hc:∀ j x,xs[j]?=some x→∀ i u,(encI x)[i]?=some u→w.cell? ⟨b,o+j * 1+i,none⟩=some u) (j:Nat) (x:Int) (h:xs[j]?=some x):w.cell? ⟨b,o+j,none⟩=some (.int .i64 x):=by
 simpa using hc j x h 0 _ rfl
structure Ln where
 op:Int
 d:Int
 a:Int
 b:Int
deriving DecidableEq,Inhabited
def encL (l:Ln):List Value:=[.int .i64 l.op,.int .i64 l.d,.int .i64 l.a,.int .i64 l.b]
theorem zab (l:Ln):(encL l).length=4:=rfl
abbrev LinesAt (w:World) (v:Value) (p:List Ln):Prop:=SlcAt 4 encL w v p
theorem zbf {w:World} {b o:Nat} {p:List Ln} (hc:∀ j x,p[j]?=some x→∀ i u,(encL x)[i]?=some u→w.cell? ⟨b,o+j * 4+i,none⟩=some u) (j:Nat) (op d a c:Int) (h:p[j]?=some ⟨op,d,a,c⟩) :
  w.cell? ⟨b,o+j * 4,none⟩=some (.int .i64 op)∧w.cell? ⟨b,o+j * 4+1,none⟩=some (.int .i64 d)∧w.cell? ⟨b,o+j * 4+2,none⟩=some (.int .i64 a)∧w.cell? ⟨b,o+j * 4+3,none⟩=some (.int .i64 c):=
 ⟨hc j _ h 0 _ rfl,hc j _ h 1 _ rfl,hc j _ h 2 _ rfl,hc j _ h 3 _ rfl⟩
theorem zax (w:World) (A B:Obj):∃ W,(w.alloc A).alloc B=W∧W.heap[w.heap.size]?=some A∧W.heap[w.heap.size+1]?=some B∧Grow w W:=⟨_,rfl,zbx w A B,zco w A B,((Grow.refl w).alloc _).alloc _⟩
def inB (n lo hi:Int):Bool:=decide (lo≤n) && decide (n≤hi)
theorem zdo (n lo hi:Int):inB n lo hi=(decide (lo≤n) && decide (n≤hi)):=rfl
theorem zbd {n lo hi:Int}:inB n lo hi=true↔lo≤n∧n≤hi:=by simp [zdo]
theorem zbq {n lo hi:Int}:inB n lo hi=false↔n<lo∨hi<n:=by simp [zdo];omega
def vL (op d a b:Int):Bool:=
 if op=0 then decide (d=0) && decide (a=0) && decide (b=0)
 else if op=1 then inB d 0 3 && inB a (-9) 9 && decide (b=0)
 else if op=2 then inB d 0 3 && inB a 0 3 && decide (b=0)
 else if op=3∨op=4∨op=5∨op=6 then inB d 0 3 && inB a 0 3 && inB b 0 3
 else if op=7 then inB d 1 8 && inB a 0 3 && inB b 0 3
 else false
def Ln.ok (l:Ln):Bool:=vL l.op l.d l.a l.b
def errB (b:Bool):Int:=if b then 0 else 1
theorem zeb:errB true=0:=rfl
theorem zbv:errB false=1:=rfl
def valP (p:List Ln):Int:=if 8<p.length then 3 else errB (p.all Ln.ok)
def valS (s:List Int):Int:=if s.length=4 then errB (s.all fun n=>inB n (-999) 999) else 1
def chk (p:List Ln) (s:List Int):Int:=if valP p=0 then valS s else valP p
theorem zba {p:List Ln}:valP p=0↔p.length≤8∧∀ l∈p,l.ok=true:=by
 unfold valP errB;by_cases h:8<p.length
 ·simp only [h,if_true];exact ⟨fun h=>(by cases h),fun h2=>(by omega)⟩
 ·simp only [h,if_false];cases hp:p.all Ln.ok
  ·simp only [Bool.false_eq_true,if_false];constructor
   ·intro h;cases h
   ·rintro ⟨_,h2⟩;rw [List.all_eq_true.2 h2] at hp;cases hp
  ·simp only [if_true,true_iff];exact ⟨by omega,List.all_eq_true.1 hp⟩
theorem zqz {s:List Int}:valS s=0↔s.length=4∧∀ n∈s,-999≤n∧n≤999:=by
 unfold valS errB;by_cases h:s.length=4
 ·simp only [h,if_true,true_and];cases hp:s.all fun n=>inB n (-999) 999
  ·simp only [Bool.false_eq_true,if_false];constructor
   ·intro h;cases h
   ·intro h2;rw [List.all_eq_true.2 (fun n hn=>zbd.2 (h2 n hn))] at hp;cases hp
  ·simp only [if_true,true_iff];exact fun n hn=>zbd.1 (List.all_eq_true.1 hp n hn)
 ·simp [h]
theorem zsy {p:List Ln} {s:List Int}:chk p s=0↔valP p=0∧valS s=0:=by
 unfold chk;by_cases h:valP p=0<;>simp [h]
def wrB (op:Int):Bool:=inB op 1 6
structure St where
 r0:Int
 r1:Int
 r2:Int
 r3:Int
deriving DecidableEq,Inhabited
def St.toL (s:St):List Int:=[s.r0,s.r1,s.r2,s.r3]
def encS (s:St):List Value:=[.int .i64 s.r0,.int .i64 s.r1,.int .i64 s.r2,.int .i64 s.r3]
def St.get (s:St) (r:Int):Int:=if r=0 then s.r0 else if r=1 then s.r1 else if r=2 then s.r2 else s.r3
def St.set (s:St) (r n:Int):St:=if r=0 then { s with r0:=n } else if r=1 then { s with r1:=n } else if r=2 then { s with r2:=n } else { s with r3:=n }
def St.fine (s:St):Prop:=(-999≤s.r0∧s.r0≤999)∧(-999≤s.r1∧s.r1≤999)∧(-999≤s.r2∧s.r2≤999)∧(-999≤s.r3∧s.r3≤999)
theorem St.get_fine {s:St} (h:s.fine) (r:Int) : -999≤s.get r∧s.get r≤999:=by
 obtain ⟨h0,h1,h2,h3⟩:=h;unfold St.get
 split
 ·exact h0
 ·split
  ·exact h1
  ·split
   ·exact h2
   ·exact h3
theorem St.set_fine {s:St} (h:s.fine) (r:Int) {n:Int} (hn : -999≤n∧n≤999):(s.set r n).fine:=by
 obtain ⟨h0,h1,h2,h3⟩:=h;unfold St.set
 split
 ·exact ⟨hn,h1,h2,h3⟩
 ·split
  ·exact ⟨h0,hn,h2,h3⟩
  ·split
   ·exact ⟨h0,h1,hn,h3⟩
   ·exact ⟨h0,h1,h2,hn⟩
theorem St.of_valS {s:List Int} (h:valS s=0):∃ q:St,q.toL=s∧q.fine:=by
 obtain ⟨h1,h2⟩:=zqz.1 h
 match s,h1 with
 | [a,b,c,d],_=>exact ⟨⟨a,b,c,d⟩,rfl,h2 a (by simp),h2 b (by simp),h2 c (by simp),h2 d (by simp)⟩
def cut (n:Int):Int:=max (-999) (min 999 n)
theorem zsv (n:Int) : -999≤cut n∧cut n≤999:=by unfold cut;omega
def opV (op a x y:Int):Int:=if op=1 then a else if op=2 then x else if op=3 then x+y else if op=4 then x - y else if op=5 then min x y else max x y
def stepS (f:Nat→Option Int) (l:Ln) (i:Nat) (s:St):St:=
 if wrB l.op then s.set l.d (cut ((f i).getD (opV l.op l.a (s.get l.a) (s.get l.b)))) else s
def nextI (l:Ln) (i:Nat) (s:St):Nat:=if l.op=7∧s.get l.a<s.get l.b then i+1+l.d.toNat else i+1
theorem zsg (l:Ln) (i:Nat) (s:St):i<nextI l i s:=by unfold nextI;split<;>omega
theorem zuw (f:Nat→Option Int) (l:Ln) (i:Nat) {s:St} (h:s.fine):(stepS f l i s).fine:=by
 unfold stepS;split
 ·exact St.set_fine h _ (zsv _)
 ·exact h
def trcN (p:List Ln) (f:Nat→Option Int):Nat→Nat→St→List (Nat × St) × St
 | 0,_,s=>([],s)
 | n+1,i,s=>match p[i]? with
  | none=>([],s)
  | some l=>((i,s) :: (trcN p f n (nextI l i s) (stepS f l i s)).1,(trcN p f n (nextI l i s) (stepS f l i s)).2)
def trc (p:List Ln) (f:Nat→Option Int) (i:Nat) (s:St):List (Nat × St) × St:=trcN p f (p.length - i) i s
theorem zor (p:List Ln) (f:Nat→Option Int):∀ (n m i:Nat) (s:St),p.length≤i+n→p.length≤i+m→trcN p f n i s=trcN p f m i s
 | 0,0,_,_,_,_=>rfl
 | 0,m+1,i,s,h,_=>by
  have:p[i]?=none:=List.getElem?_eq_none (by omega)
  simp [trcN,this]
 | n+1,0,i,s,_,h=>by
  have:p[i]?=none:=List.getElem?_eq_none (by omega)
  simp [trcN,this]
 | n+1,m+1,i,s,h1,h2=>by
  cases hl:p[i]? with
  | none=>simp [trcN,hl]
  | some l=>
   have:=zsg l i s;have ih:=zor p f n m (nextI l i s) (stepS f l i s) (by omega) (by omega)
   simp [trcN,hl,ih]
theorem trc_end {p:List Ln} {f:Nat→Option Int} {i:Nat} {s:St} (h:p.length≤i):trc p f i s=([],s):=by
 unfold trc;rw [show p.length - i=0 by omega];rfl
theorem trc_step {p:List Ln} {f:Nat→Option Int} {i:Nat} {s:St} {l:Ln} (h:p[i]?=some l) :
  trc p f i s=((i,s) :: (trc p f (nextI l i s) (stepS f l i s)).1,(trc p f (nextI l i s) (stepS f l i s)).2):=by
 have hlt:i<p.length:=(List.getElem?_eq_some_iff.1 h).1;have:=zsg l i s;unfold trc;obtain ⟨n,hn⟩:∃ n,p.length - i=n+1:=⟨p.length - i - 1,by omega⟩
 rw [hn];simp only [trcN,h];rw [zor p f n (p.length - nextI l i s) _ _ (by omega) (by omega)]
def Upto (p:List Ln) (f:Nat→Option Int) (s0:St) (vs:List (Nat × St)) (i:Nat) (s:St):Prop:=
 vs++(trc p f i s).1=(trc p f 0 s0).1∧(trc p f i s).2=(trc p f 0 s0).2
theorem Upto.start (p:List Ln) (f:Nat→Option Int) (s0:St):Upto p f s0 [] 0 s0:=⟨rfl,rfl⟩
theorem Upto.step {p:List Ln} {f:Nat→Option Int} {s0:St} {vs:List (Nat × St)} {i:Nat} {s:St} {l:Ln} (h:Upto p f s0 vs i s) (hl:p[i]?=some l) :
  Upto p f s0 (vs++[(i,s)]) (nextI l i s) (stepS f l i s):=by
 obtain ⟨h1,h2⟩:=h;rw [trc_step hl] at h1 h2;exact ⟨by rw [← h1];simp,h2⟩
theorem Upto.done {p:List Ln} {f:Nat→Option Int} {s0:St} {vs:List (Nat × St)} {i:Nat} {s:St} (h:Upto p f s0 vs i s) (hi:p.length≤i) :
  vs=(trc p f 0 s0).1∧s=(trc p f 0 s0).2:=by
 obtain ⟨h1,h2⟩:=h;rw [trc_end hi] at h1 h2;exact ⟨by rw [← h1];simp,h2⟩
def encV (v:Nat × St):List Value:=[.int .i64 v.1,.int .i64 v.2.r0,.int .i64 v.2.r1,.int .i64 v.2.r2,.int .i64 v.2.r3]
theorem encV_len (v:Nat × St):(encV v).length=5:=rfl
def St.ofL (l:List Int):St:=⟨l.getD 0 0,l.getD 1 0,l.getD 2 0,l.getD 3 0⟩
def noF:Nat→Option Int:=fun _=>none
def ifOK {α:Type} (e:Int) (l:List α):List α:=if e=0 then l else []
theorem zgv {α:Type} (l:List α):ifOK 0 l=l:=rfl
theorem zms {α:Type} {e:Int} (h:e≠0) (l:List α):ifOK e l=[]:=by simp [ifOK,h]
def runM (p:List Ln) (s:List Int):List Int:=(trc p noF 0 (St.ofL s)).2.toL
def visits (p:List Ln) (s:List Int):List (Nat × St):=(trc p noF 0 (St.ofL s)).1
def arrS (s:St):Array Value:=#[.int .i64 s.r0,.int .i64 s.r1,.int .i64 s.r2,.int .i64 s.r3]
theorem zcp {w:World} {b:Nat} {s:St} {e:TypeId} (h:w.heap[b]?=some (.cells (arrS s) e (0,0))) (r:Int) (h0:0≤r) (h3:r≤3):w.cell? ⟨b,r.toNat,none⟩=some (.int .i64 (s.get r)):=by
 have:r=0∨r=1∨r=2∨r=3:=by omega
 rcases this with rfl | rfl | rfl | rfl<;>simp [World.cell?,h,arrS,St.get]
theorem zhv {w:World} {b:Nat} {s:St} {e:TypeId} (h:w.heap[b]?=some (.cells (arrS s) e (0,0))) :
  w.cell? ⟨b,0,none⟩=some (.int .i64 s.r0)∧w.cell? ⟨b,1,none⟩=some (.int .i64 s.r1)∧w.cell? ⟨b,2,none⟩=some (.int .i64 s.r2)∧w.cell? ⟨b,3,none⟩=some (.int .i64 s.r3):=by
 simp [World.cell?,h,arrS]
theorem zhm {w:World} {b:Nat} {s:St} {e:TypeId} (h:w.heap[b]?=some (.cells (arrS s) e (0,0))) (o:Nat):w.frozen? ⟨b,o,none⟩=false:=by
 simp [World.frozen?,h]
theorem zjv {w:World} {b:Nat} {s:St} {e:TypeId} (h:w.heap[b]?=some (.cells (arrS s) e (0,0))) (r n:Int) (h0:0≤r) (h3:r≤3) :
  (w.setCell ⟨b,r.toNat,none⟩ (.int .i64 n)).heap[b]?=some (.cells (arrS (s.set r n)) e (0,0)):=by
 rw [heap_setCell_same w b _ _ e _ h];have:r=0∨r=1∨r=2∨r=3:=by omega
 rcases this with rfl | rfl | rfl | rfl<;>rfl
def fillS (w:World) (b:Nat) (q:St):World:=
 ((((w.setCell ⟨b,0,none⟩ (.int .i64 q.r0)).setCell ⟨b,1,none⟩ (.int .i64 q.r1)).setCell ⟨b,2,none⟩ (.int .i64 q.r2)).setCell ⟨b,3,none⟩ (.int .i64 q.r3)).drew
theorem arr_fill {w:World} {b:Nat} {s:St} {e:TypeId} (h:w.heap[b]?=some (.cells (arrS s) e (0,0))) (q:St):(fillS w b q).heap[b]?=some (.cells (arrS q) e (0,0)):=by
 have h1:=zjv h 0 q.r0 (by omega) (by omega)
 have h2:=zjv h1 1 q.r1 (by omega) (by omega)
 have h3:=zjv h2 2 q.r2 (by omega) (by omega)
 have h4:=zjv h3 3 q.r3 (by omega) (by omega)
 exact h4
def two (a b:Int):List Int:=if a=b then [a] else if a<b then [a,b] else [b,a]
theorem zay {P:Program} {α:Type} (w:World) {ops:Array Oper} {rest:List Oper} {o:Oper} {a:Act} {Q:Exit→Act→World→Prop} (hgd:o.guard=none) (s x:Operand) (t:TypeId)
  (ho:o.op=.call { callee:=.builtin .append,args:=#[s,x],argTypes:=#[t,t] })
  (base:Nat) (e:TypeId) {k bytes:Nat} {z:Value} (ht:P.underlying t=some (.slice e)) (info:(P.info? e).map (fun i=>(i.zero,i.size,i.bytes))=some (some z,k,bytes))
  (hzs:z.cells.size=k) (hk:0<k) (hby:bytes≤1000)
  (enc:α→List Value) (hen:∀ x,(enc x).length=k) (h1:∀ x,∀ u∈enc x,u.oneCell'=true)
  (v:Value) (xs:List α) (hs:a.eval s=v) (hown:w.ownsRow base e k v xs.length (xs.flatMap enc)) (u:Value) (ys:List α) (hx:a.eval x=u) (hsrc:SlcAt k enc w u ys)
  (hn:xs.length+ys.length<100000000000) (hbase:base≤w.heap.size)
  (h:∀ v' w',w'.ownsRow base e k v' (xs++ys).length ((xs++ys).flatMap enc)→w.grownBy w' v.ownBlock→wpList P ops Q rest (a.put o.dst v') w'):wpList P ops Q (o :: rest) a w:=by
 obtain ⟨i,hi,hz0,hz1,hz2⟩:=info_parts info;obtain ⟨ao,c,rfl,h2,h3,h4⟩:=hsrc;cases ao with
 | none=>
  have hys:ys=[]∧c=0:=by
   rcases h4 with ⟨h4,h5⟩ | ⟨b,o,h4,_⟩
   ·exact ⟨h4,h5 rfl⟩
   ·cases h4
  obtain ⟨rfl,rfl⟩:=hys;refine wpList_plain hgd fun K hK'=>?_;have hrun:=run_append_owned_none (P:=P) w base t o.type e i k ht hi v xs.length (xs.flatMap enc) hown;unfold Oper.wp;simp only [List.length_nil] at hx;simp [execOp,ho,resolve,invoke,builtin,hs,hx,hrun,Result.andThen];exact hK' _ _ (h v w (by simpa using hown) (World.grownBy.refl _ _))
 | some ad=>
  refine wpList_append_own w hgd s x t ho base e i z k bytes ht hi hz0 hz1 hz2 hzs hk v xs.length (xs.flatMap enc) hs hown ad ys.length c (ys.flatMap enc) hx (zbp hen ys) ?_ ?_ (by unfold maxLen;omega) ?_ hbase ?_
  ·rcases h4 with ⟨h4,_⟩ | ⟨b,o',h4,hb,hc⟩
   ·subst h4;intro j u hj;simp at hj
   ·cases h4;intro j u hj;have hjl:j<ys.length * k:=by rw [← zbp hen ys];exact (List.getElem?_eq_some_iff.1 hj).1
    have hq:j / k<ys.length:=Nat.div_lt_of_lt_mul (by rw [Nat.mul_comm];exact hjl)
    obtain ⟨y,hy⟩:∃ y,ys[j / k]?=some y:=⟨_,List.getElem?_eq_getElem hq⟩;have hr:j % k<k:=Nat.mod_lt _ hk;have hf:=flatMap_getElem? hen ys (j / k) y hy (j % k) hr;have hdm:j / k * k+j % k=j:=by rw [Nat.mul_comm];exact Nat.div_add_mod j k
    rw [hdm,hj] at hf;have:=hc (j / k) y hy (j % k) u hf.symm;rw [Addr.add_lit];rw [Nat.add_assoc,hdm] at this;exact this
  ·intro u hu;obtain ⟨y,_,hy⟩:=List.mem_flatMap.1 hu;exact h1 y u hy
  ·exact Nat.le_trans (Nat.mul_le_mul (show xs.length+ys.length≤100000000000 by omega) hby) (by decide)
  ·intro v' w' a1 a2 _;refine h v' w' ?_ a2;rw [List.length_append,List.flatMap_append];exact a1
theorem zcx (n:Int):∀ u∈encI n,u.oneCell'=true:=by intro u hu;simp [encI] at hu;subst hu;rfl
theorem zaj (l:Ln):∀ u∈encL l,u.oneCell'=true:=by
 intro u hu;simp [encL] at hu;rcases hu with rfl | rfl | rfl | rfl<;>rfl
theorem zah {α:Type} (w:World) (k:Nat) (e:TypeId) (enc:α→List Value) (base:Nat) (hb:base≤w.heap.size):(w.alloc (.cells #[] e)).ownsRow base e k (.slice (some ⟨w.heap.size,0,none⟩) 0 0) ([]:List α).length (([]:List α).flatMap enc):=by
 have:=World.ownsRow_made (base:=base) (e:=e) (size:=k) w #[] 0 hb (by simp [maxLen]) (by simp)
 exact this
def NewS (base:Nat) (v:Value):Prop:=∀ a n c,v=.slice (some a) n c→base≤a.block
theorem NewS.mono {base base':Nat} {v:Value} (h:NewS base v) (hb:base'≤base):NewS base' v:=fun a n c e=>Nat.le_trans hb (h a n c e)
theorem NewS.nil (base n c:Nat):NewS base (.slice none n c):=by intro a n c e;cases e
theorem NewS.of_own {α:Type} {k:Nat} {enc:α→List Value} {base:Nat} {w:World} {v:Value} {xs:List α} (h:Own k enc base w v xs):NewS base v:=by
 obtain ⟨e,h1,h2⟩:=h;intro a n c ev;rcases h2 with ⟨rfl,_⟩ | ⟨g,cap,cur,rfl,hb,_⟩
 ·cases ev
 ·cases ev;exact hb
structure Tst where
 v:Value
 xs:List Int
 o:Int
 wt:Int
def encTs (t:Tst):List Value:=[t.v,.int .i64 t.o,.int .i64 t.wt]
theorem zxr (t:Tst):(encTs t).length=3:=rfl
structure TestsAt (w:World) (v:Value) (ts:List Tst):Prop where
 at_:SlcAt 3 encTs w v ts
 ins:∀ t∈ts,IntsAt w t.v t.xs
theorem TestsAt.grow {w w':World} {v:Value} {ts:List Tst} (h:TestsAt w v ts) (g:Grow w w'):TestsAt w' v ts:=⟨h.at_.grow g,fun t ht=>(h.ins t ht).grow g⟩
theorem TestsAt.nil (w:World):TestsAt w (.slice none 0 0) []:=⟨SlcAt.nil _ _ _,by simp⟩
theorem zez {w:World} {a:Option Addr} {n c:Nat} {ts:List Tst} (h:SlcAt 3 encTs w (.slice a n c) ts) {k:Nat} {t:Tst} (hx:ts[k]?=some t):∃ b o,a=some ⟨b,o,none⟩∧b<w.heap.size ∧
  w.cell? ⟨b,o+k * 3,none⟩=some t.v∧w.cell? ⟨b,o+k * 3+1,none⟩=some (.int .i64 t.o)∧w.cell? ⟨b,o+k * 3+2,none⟩=some (.int .i64 t.wt):=by
 obtain ⟨_,_,e,_,_,h⟩:=h;cases e;obtain ⟨b,o,rfl,hb,hc⟩:=h.resolve_left (by intro h0;rw [h0.1] at hx;simp at hx)
 exact ⟨b,o,rfl,hb,hc k t hx 0 _ rfl,hc k t hx 1 _ rfl,hc k t hx 2 _ rfl⟩
def Tst.ok (t:Tst):Bool:=decide (valS t.xs=0) && inB t.o 0 3 && inB t.wt (-999) 999
def valT (ts:List Tst):Int:=if 8<ts.length then 3 else errB (ts.all Tst.ok)
theorem zcs {ts:List Tst}:valT ts=0↔ts.length≤8∧∀ t∈ts,t.ok=true:=by
 unfold valT errB;by_cases h:8<ts.length
 ·simp only [h,if_true];exact ⟨fun h=>(by cases h),fun h2=>(by omega)⟩
 ·simp only [h,if_false];cases hp:ts.all Tst.ok
  ·simp only [Bool.false_eq_true,if_false];constructor
   ·intro h;cases h
   ·rintro ⟨_,h2⟩;rw [List.all_eq_true.2 h2] at hp;cases hp
  ·simp only [if_true,true_iff];exact ⟨by omega,List.all_eq_true.1 hp⟩
theorem Tst.ok_iff {t:Tst}:t.ok=true↔valS t.xs=0∧(0≤t.o∧t.o≤3)∧(-999≤t.wt∧t.wt≤999):=by
 unfold Tst.ok;rw [Bool.and_eq_true,Bool.and_eq_true,decide_eq_true_eq,zbd,zbd,and_assoc]
def endM (p:List Ln) (xs:List Int) (o:Int):Int:=((runM p xs)[o.toNat]?).getD 0
def passM (p:List Ln) (t:Tst):Bool:=decide (endM p t.xs t.o=t.wt)
def chkT (p:List Ln) (ts:List Tst):Int:=if valP p=0 then valT ts else valP p
theorem zef {p:List Ln} {ts:List Tst}:chkT p ts=0↔valP p=0∧valT ts=0:=by
 unfold chkT;by_cases h:valP p=0<;>simp [h]
def whereL {α:Type} (f:α→Bool) (ts:List α):List Int:=(List.range ts.length).filterMap fun k:Nat=>match ts[k]? with | some t=>if f t then some (k:Int) else none | none=>none
def whereN {α:Type} (f:α→Bool) (ts:List α) (n:Nat):List Int:=(List.range n).filterMap fun k:Nat=>match ts[k]? with | some t=>if f t then some (k:Int) else none | none=>none
theorem zki {α:Type} {f:α→Bool} {ts:List α} {k:Nat} {t:α} (h:ts[k]?=some t):whereN f ts (k+1)=whereN f ts k++if f t then [(k:Int)] else []:=by
 unfold whereN;rw [List.range_succ,List.filterMap_append];simp only [List.filterMap_cons,List.filterMap_nil,h];cases f t<;>rfl
theorem zlu {α:Type} (f:α→Bool) (ts:List α) (n:Nat):(whereN f ts n).length≤n:=by
 unfold whereN;exact Nat.le_trans (List.length_filterMap_le _ _) (by simp)
theorem zil {α:Type} {f:α→Bool} {ts:List α} {i:Int}:i∈whereL f ts↔∃ (k:Nat) (t:α),i=k∧ts[k]?=some t∧f t=true:=by
 unfold whereL;rw [List.mem_filterMap];constructor
 ·rintro ⟨k,hk,h⟩;have hlt:k<ts.length:=List.mem_range.1 hk;rw [List.getElem?_eq_getElem hlt] at h;dsimp only at h
  split at h
  ·next hf=>exact ⟨k,_,(Option.some.inj h).symm,List.getElem?_eq_getElem hlt,hf⟩
  ·cases h
 ·rintro ⟨k,t,rfl,ht,hf⟩;refine ⟨k,List.mem_range.2 (List.getElem?_eq_some_iff.1 ht).1,?_⟩;rw [ht];simp [hf]
theorem zfa (p:List Ln) (s:List Int):(runM p s).length=4:=rfl
structure Ed where
 at_:Int
 l:Ln
deriving DecidableEq
def encE (e:Ed):List Value:=.int .i64 e.at_ :: encL e.l
theorem zbh (e:Ed):(encE e).length=5:=rfl
abbrev EditsAt (w:World) (v:Value) (x:List Ed):Prop:=SlcAt 5 encE w v x
theorem zci {w:World} {a:Option Addr} {n c:Nat} {x:List Ed} (h:EditsAt w (.slice a n c) x) {k:Nat} {t op d a' b':Int} (hx:x[k]?=some ⟨t,⟨op,d,a',b'⟩⟩):∃ b o,a=some ⟨b,o,none⟩∧b<w.heap.size ∧
  w.cell? ⟨b,o+k * 5,none⟩=some (.int .i64 t)∧w.cell? ⟨b,o+k * 5+1,none⟩=some (.int .i64 op)∧w.cell? ⟨b,o+k * 5+2,none⟩=some (.int .i64 d)∧w.cell? ⟨b,o+k * 5+3,none⟩=some (.int .i64 a')∧w.cell? ⟨b,o+k * 5+4,none⟩=some (.int .i64 b'):=by
 obtain ⟨_,_,e,_,_,h⟩:=h;cases e;obtain ⟨b,o,rfl,hb,hc⟩:=h.resolve_left (by intro h0;rw [h0.1] at hx;simp at hx)
 exact ⟨b,o,rfl,hb,hc k _ hx 0 _ rfl,hc k _ hx 1 _ rfl,hc k _ hx 2 _ rfl,hc k _ hx 3 _ rfl,hc k _ hx 4 _ rfl⟩
def prevAt (x:List Ed) (i:Nat):Int:=if i=0 then -1 else match x[i - 1]? with | some e=>e.at_ | none=>-1
def edOK (x:List Ed) (i:Nat):Bool:=match x[i]? with | some e=>decide (0≤e.at_) && decide (e.at_<8) && (decide (prevAt x i<e.at_) && e.l.ok) | none=>true
def edsOK (x:List Ed):Bool:=(List.range x.length).all (edOK x)
def valX (x:List Ed):Int:=if 4<x.length then 3 else errB (edsOK x)
theorem zgd {x:List Ed} {i:Nat} {e:Ed} (h:x[i]?=some e):edOK x i=true↔(0≤e.at_∧e.at_<8)∧prevAt x i<e.at_∧e.l.ok=true:=by
 unfold edOK;rw [h];simp
theorem zde {x:List Ed} (h:edsOK x=true) {i:Nat} {e:Ed} (hx:x[i]?=some e):(0≤e.at_∧e.at_<8)∧prevAt x i<e.at_∧e.l.ok=true:=
 (zgd hx).1 (List.all_eq_true.1 h i (List.mem_range.2 (List.getElem?_eq_some_iff.1 hx).1))
theorem zid {x:List Ed} {k:Nat} (h:∀ i<k,edOK x i=true) (hk:x.length≤k):edsOK x=true:=List.all_eq_true.2 fun i hi=>h i (by have:=List.mem_range.1 hi;omega)
theorem zdz {x:List Ed} {k:Nat} (hk:k<x.length) (h:edOK x k=false):edsOK x=false:=by
 rw [← Bool.not_eq_true];intro h2;have:=List.all_eq_true.1 h2 k (List.mem_range.2 hk);rw [h] at this;cases this
theorem zdm {x:List Ed}:valX x=0↔x.length≤4∧edsOK x=true:=by
 unfold valX errB;by_cases h:4<x.length
 ·simp only [h,if_true];exact ⟨fun h=>(by cases h),fun h2=>(by omega)⟩
 ·simp only [h,if_false];cases hp:edsOK x<;>simp;omega
theorem eds_lt {x:List Ed} (h:edsOK x=true):∀ (j i:Nat) (e f:Ed),i<j→x[i]?=some e→x[j]?=some f→e.at_<f.at_
 | 0,_,_,_,hij,_,_=>by omega
 | j+1,i,e,f,hij,he,hf=>by
  have hp:=(zde h hf).2.1;have hj:j<x.length:=by have:=(List.getElem?_eq_some_iff.1 hf).1;omega
  obtain ⟨g,hg⟩:∃ g,x[j]?=some g:=⟨_,List.getElem?_eq_getElem hj⟩;have hpv:prevAt x (j+1)=g.at_:=by
   unfold prevAt;rw [if_neg (by omega),show j+1 - 1=j by omega,hg]
  rw [hpv] at hp;by_cases hi:i=j
  ·subst hi;rw [he] at hg;cases hg;exact hp
  ·have:=eds_lt h j i e g (by omega) he hg
   omega
def atB (j:Int) (e:Ed):Bool:=decide (e.at_=j)
def doM (p:List Ln) (x:List Ed):List Ln:=p.mapIdx fun j l=>match x.find? (atB j) with | some e=>e.l | none=>l
theorem zik (p:List Ln) (x:List Ed):(doM p x).length=p.length:=by simp [doM]
theorem zjn (p:List Ln) (x:List Ed) (j:Nat):(doM p x)[j]?=(p[j]?).map fun l=>match x.find? (atB j) with | some e=>e.l | none=>l:=by
 unfold doM;rw [List.getElem?_mapIdx]
theorem zmh {p:List Ln} {x:List Ed} (hp:valP p=0) (hx:∀ e∈x,e.l.ok=true):valP (doM p x)=0:=by
 obtain ⟨h1,h2⟩:=zba.1 hp;refine zba.2 ⟨by rw [zik];exact h1,fun l hl=>?_⟩
 obtain ⟨j,hj⟩:=List.getElem?_of_mem hl;rw [zjn] at hj;cases hpj:p[j]? with
 | none=>rw [hpj] at hj;cases hj
 | some m=>
  rw [hpj] at hj;simp only [Option.map_some,Option.some.injEq] at hj;cases hf:x.find? (atB j) with
  | none=>rw [hf] at hj;dsimp only at hj;rw [← hj];exact h2 _ (List.mem_of_getElem? hpj)
  | some e=>rw [hf] at hj;dsimp only at hj;rw [← hj];exact hx _ (List.mem_of_find?_eq_some hf)
theorem zfp {ys:List Ed} {e:Ed} {j:Int} (h:e.at_≠j):(ys++[e]).find? (atB j)=ys.find? (atB j):=by
 rw [List.find?_append];have : [e].find? (atB j)=none:=by simp [atB,h]
 rw [this];cases ys.find? (atB j)<;>rfl
theorem zgi {x:List Ed} (h:edsOK x=true) {k:Nat} {e:Ed} (hx:x[k]?=some e):(x.take k).find? (atB e.at_)=none:=by
 rw [List.find?_eq_none];intro f hf;obtain ⟨i,hi⟩:=List.getElem?_of_mem hf;rw [List.getElem?_take] at hi
 split at hi
 ·next hik=>have:=eds_lt h k i f e hik hi hx;simp [atB];omega
 ·cases hi
theorem zgk {ys:List Ed} {e:Ed} (h:ys.find? (atB e.at_)=none):(ys++[e]).find? (atB e.at_)=some e:=by
 rw [List.find?_append,h];simp [atB]
def setAll (p:List Ln) (x:List Ed):List Ln:=x.foldl (fun q e=>q.set e.at_.toNat e.l) p
theorem zjj (p:List Ln) (x:List Ed) (e:Ed):setAll p (x++[e])=(setAll p x).set e.at_.toNat e.l:=by unfold setAll;rw [List.foldl_append];rfl
theorem zhw (p:List Ln) (x:List Ed):(setAll p x).length=p.length:=by
 unfold setAll
 induction x generalizing p with
 | nil=>rfl
 | cons e r ih=>rw [List.foldl_cons,ih,List.length_set]
theorem zkl {p:List Ln} {x:List Ed} (h:edsOK x=true):∀ k,k≤x.length→setAll p (x.take k)=doM p (x.take k)
 | 0,_=>by
  refine List.ext_getElem? fun j=>?_;rw [zjn,List.take_zero];cases hj:p[j]? with
  | none=>exact hj
  | some l=>exact hj
 | k+1,hk=>by
  obtain ⟨e,he⟩:∃ e,x[k]?=some e:=⟨_,List.getElem?_eq_getElem (by omega)⟩
  have ih:=zkl h k (by omega) (p:=p)
  have ht:x.take (k+1)=x.take k++[e]:=by rw [List.take_add_one,he];rfl
  obtain ⟨⟨e0,_⟩,_⟩:=zde h he;rw [ht,zjj,ih];refine List.ext_getElem? fun j=>?_;rw [zjn];by_cases hj:e.at_=(j:Int)
  ·have hn:e.at_.toNat=j:=by omega
   rw [hn,← hj,zgk (zgi h he)];by_cases hl:j<p.length
   ·rw [List.getElem?_set_self (by rw [zik];exact hl),List.getElem?_eq_getElem hl];rfl
   ·rw [List.getElem?_eq_none (by rw [List.length_set,zik];omega),List.getElem?_eq_none (by omega)];rfl
  ·rw [List.getElem?_set_ne (by omega),zfp hj,zjn]
theorem zen {p:List Ln} {x:List Ed} (h:edsOK x=true):setAll p x=doM p x:=by
 have:=zkl (p:=p) h x.length (Nat.le_refl _)
 rwa [List.take_length] at this
def offB (n:Nat) (x:List Ed):Bool:=x.any fun e=>decide ((n:Int)≤e.at_)
def chkX (p:List Ln) (x:List Ed) (ts:List Tst):Int:=if valP p=0 then (if valX x=0 then (if valT ts=0 then (if offB p.length x then 4 else 0) else valT ts) else valX x) else valP p
theorem zdn {p:List Ln} {x:List Ed} {ts:List Tst}:chkX p x ts=0↔valP p=0∧valX x=0∧valT ts=0∧offB p.length x=false:=by
 unfold chkX;by_cases h1:valP p=0
 ·by_cases h2:valX x=0
  ·by_cases h3:valT ts=0
   ·cases h4:offB p.length x<;>simp [h1,h2,h3]
   ·simp [h1,h2,h3]
  ·simp [h1,h2]
 ·simp [h1]
def goodM (p:List Ln) (x:List Ed) (ts:List Tst):Bool:=ts.all fun t=>passM (doM p x) t
theorem zii {α:Type} {f:α→Bool} {ts:List α}:(whereL (fun t=>!f t) ts).length=0↔ts.all f=true:=by
 rw [List.length_eq_zero_iff,List.all_eq_true];constructor
 ·intro h t ht;obtain ⟨k,hk⟩:=List.getElem?_of_mem ht;cases hf:f t with
  | true=>rfl
  | false=>
   have:(k:Int)∈whereL (fun t=>!f t) ts:=zil.2 ⟨k,t,rfl,hk,by simp [hf]⟩
   rw [h] at this;cases this
 ·intro h;refine List.eq_nil_iff_forall_not_mem.2 fun i hi=>?_;obtain ⟨k,t,_,hk,hf⟩:=zil.1 hi;rw [h t (List.mem_of_getElem? hk)] at hf;cases hf
def rdL (op a b:Int):List Int:=if op=2 then [a] else if 3≤op then two a b else []
structure Ms where
 b0:Bool
 b1:Bool
 b2:Bool
 b3:Bool
deriving DecidableEq
def Ms.get (s:Ms) (r:Int):Bool:=if r=0 then s.b0 else if r=1 then s.b1 else if r=2 then s.b2 else s.b3
def Ms.set (s:Ms) (r:Int) (n:Bool):Ms:=if r=0 then { s with b0:=n } else if r=1 then { s with b1:=n } else if r=2 then { s with b2:=n } else { s with b3:=n }
theorem ok_rd {op d a b:Int} (h:Ln.ok ⟨op,d,a,b⟩=true):0≤op∧op≤7∧(wrB op=true→0≤d∧d≤3)∧∀ r∈rdL op a b,0≤r∧r≤3:=by
 unfold Ln.ok vL at h;simp only [zdo] at h;have two_mem:∀ r∈two a b,r=a∨r=b:=by
  intro r hr;unfold two at hr
  split at hr
  ·simp at hr;exact .inl hr
  ·split at hr<;>simp at hr<;>omega
 split at h
 ·subst_vars;simp [wrB,zdo,rdL]
 ·split at h
  ·subst_vars
   simp at h;refine ⟨by omega,by omega,fun _=>by omega,?_⟩
   simp [rdL]
  ·split at h
   ·subst_vars
    simp at h;refine ⟨by omega,by omega,fun _=>by omega,?_⟩
    simp [rdL];omega
   ·split at h
    ·simp at h;refine ⟨by omega,by omega,fun _=>by omega,?_⟩
     intro r hr;rw [show rdL op a b=two a b by unfold rdL;rw [if_neg (by omega),if_pos (by omega)]] at hr
     rcases two_mem r hr with rfl | rfl<;>omega
    ·split at h
     ·subst_vars
      simp at h;refine ⟨by omega,by omega,fun hw=>by simp [wrB,zdo] at hw,?_⟩
      intro r hr;rw [show rdL 7 a b=two a b by simp [rdL]] at hr
      rcases two_mem r hr with rfl | rfl<;>omega
     ·cases h
def KeepAt (b b':Nat) (A B:World):Prop:=B.heap[b]?=A.heap[b]?∧B.heap[b']?=A.heap[b']?
theorem KeepAt.refl (b b':Nat) (A:World):KeepAt b b' A A:=⟨rfl,rfl⟩
theorem KeepAt.trans {b b':Nat} {A B C:World} (h:KeepAt b b' A B) (k:KeepAt b b' B C):KeepAt b b' A C:=⟨k.1.trans h.1,k.2.trans h.2⟩
theorem KeepAt.of_grow {b b':Nat} {A B:World} (h:Grow A B) (hb:b<A.heap.size) (hb':b'<A.heap.size):KeepAt b b' A B:=⟨h.heap hb,h.heap hb'⟩
theorem cell_of_heap {A B:World} {b:Nat} (h:B.heap[b]?=A.heap[b]?) {o:Nat} {v:Value} (hc:A.cell? ⟨b,o,none⟩=some v):B.cell? ⟨b,o,none⟩=some v:=by
 simp only [World.cell?,h] at hc ⊢;exact hc
def encT (b:Bool):List Value:=[.bool b]
theorem zdq (b:Bool):(encT b).length=1:=rfl
theorem zmb {w:World} {b o:Nat} {xs:List Bool} (hc:∀ j x,xs[j]?=some x→∀ i u,(encT x)[i]?=some u→w.cell? ⟨b,o+j * 1+i,none⟩=some u) (j:Nat) (x:Bool) (h:xs[j]?=some x):w.cell? ⟨b,o+j,none⟩=some (.bool x):=by
 simpa using hc j x h 0 _ rfl
def setN (bs:List Bool) (k:Nat):List Int:=((List.range k).filter fun i=>bs.getD i false).map Int.ofNat
def setL (bs:List Bool):List Int:=setN bs bs.length
theorem zzs {bs:List Bool} {k:Nat} (h:bs[k]?=some true):setN bs (k+1)=setN bs k++[(k:Int)]:=by
 simp [setN,List.range_succ,List.filter_append,List.getD_eq_getElem?_getD,h]
theorem zvc {bs:List Bool} {k:Nat} (h:bs[k]?=some false):setN bs (k+1)=setN bs k:=by
 simp [setN,List.range_succ,List.filter_append,List.getD_eq_getElem?_getD,h]
theorem setN_len (bs:List Bool) (k:Nat):(setN bs k).length≤k:=by
 unfold setN;rw [List.length_map];exact Nat.le_trans (List.length_filter_le _ _) (by simp)
def Ms.toL (m:Ms):List Bool:=[m.b0,m.b1,m.b2,m.b3]
theorem zym {op d a b:Int} (h:vL op d a b=true):(2≤op→0≤a∧a≤3)∧(3≤op→0≤b∧b≤3):=by
 unfold vL at h;simp only [zdo] at h
 split at h
 ·exact ⟨fun _=>by omega,fun _=>by omega⟩
 ·split at h
  ·exact ⟨fun _=>by omega,fun _=>by omega⟩
  ·split at h
   ·simp at h;exact ⟨fun _=>by omega,fun _=>by omega⟩
   ·split at h
    ·simp at h;exact ⟨fun _=>by omega,fun _=>by omega⟩
    ·split at h
     ·simp at h;exact ⟨fun _=>by omega,fun _=>by omega⟩
     ·cases h
theorem zph {op d a b:Int} (h:vL op d a b=true):(!(op == 0) && !(op == 7))=wrB op:=by
 obtain ⟨h0,h7,_⟩:=ok_rd (show Ln.ok ⟨op,d,a,b⟩=true from h);by_cases e0:op=0
 ·subst e0;rfl
 ·by_cases e7:op=7
  ·subst e7;rfl
  ·have:wrB op=true:=by unfold wrB;rw [zbd];omega
   rw [this];simp [e0,e7]
theorem zcu {w:World} {a:Option Addr} {n c:Nat} {xs:List Int} (h:IntsAt w (.slice a n c) xs) {k:Nat} {x:Int} (hx:xs[k]?=some x):∃ b o,a=some ⟨b,o,none⟩∧b<w.heap.size∧w.cell? ⟨b,o+k,none⟩=some (.int .i64 x):=by
 obtain ⟨_,_,e,_,_,h⟩:=h;cases e;obtain ⟨b,o,rfl,hb,hc⟩:=h.resolve_left (by intro h0;rw [h0.1] at hx;simp at hx)
 exact ⟨b,o,rfl,hb,zbb hc k x hx⟩
theorem zbr {w:World} {a:Option Addr} {n c:Nat} {xs:List Ln} (h:LinesAt w (.slice a n c) xs) {k:Nat} {op d x y:Int} (hx:xs[k]?=some ⟨op,d,x,y⟩):∃ b o,a=some ⟨b,o,none⟩∧b<w.heap.size ∧
  w.cell? ⟨b,o+k * 4,none⟩=some (.int .i64 op)∧w.cell? ⟨b,o+k * 4+1,none⟩=some (.int .i64 d)∧w.cell? ⟨b,o+k * 4+2,none⟩=some (.int .i64 x)∧w.cell? ⟨b,o+k * 4+3,none⟩=some (.int .i64 y):=by
 obtain ⟨_,_,e,_,_,h⟩:=h;cases e;obtain ⟨b,o,rfl,hb,hc⟩:=h.resolve_left (by intro h0;rw [h0.1] at hx;simp at hx)
 exact ⟨b,o,rfl,hb,zbf hc k op d x y hx⟩
theorem box2 {w:World} {b:Nat} {c0 c1:Value} {e:TypeId} (h:w.heap[b]?=some (.cells #[c0,c1] e (0,0))):w.cell? ⟨b,0,none⟩=some c0∧w.cell? ⟨b,1,none⟩=some c1:=by
 constructor<;>(unfold World.cell?;simp only [h];rfl)
def ltP (x y:Ln):Prop:=x.op<y.op∨(x.op=y.op∧(x.d<y.d∨(x.d=y.d∧(x.a<y.a∨(x.a=y.a∧x.b<y.b)))))
instance (x y:Ln):Decidable (ltP x y):=by unfold ltP;exact inferInstance
def ltL (x y:Ln):Bool:=decide (ltP x y)
theorem ltL_def (x y:Ln):ltL x y=decide (ltP x y):=rfl
theorem zet (x:Ln):¬ ltP x x:=by unfold ltP;omega
theorem zep {x y z:Ln} (h:ltP x y) (k:ltP y z):ltP x z:=by unfold ltP at *;omega
theorem zhe (x y:Ln):ltP x y∨x=y∨ltP y x:=by
 obtain ⟨o,d,a,b⟩:=x;obtain ⟨o',d',a',b'⟩:=y;simp only [ltP,Ln.mk.injEq];omega
def cmpI (a b:Int):Int:=if a<b then -1 else if b<a then 1 else 0
def orI (xs:List Int):Int:=match xs with | []=>0 | x :: r=>if x=0 then orI r else x
def cmpL (x y:Ln):Int:=orI [cmpI x.op y.op,cmpI x.d y.d,cmpI x.a y.a,cmpI x.b y.b]
theorem zkq (x y:Ln):decide (cmpL x y<0)=ltL x y:=by
 unfold ltL;rw [decide_eq_decide];obtain ⟨o,d,a,b⟩:=x;obtain ⟨o',d',a',b'⟩:=y;simp only [cmpL,orI,cmpI,ltP]
 split<;>split<;>omega
def IsOrd (xs ys:List Ln):Prop:=ys.Pairwise ltP∧∀ x,x∈ys↔x∈xs
theorem zqv:∀ (l m:List Ln),l.Pairwise ltP→m.Pairwise ltP→(∀ x,x∈l↔x∈m)→l=m
 | [],[],_,_,_=>rfl
 | [],b :: m,_,_,h=>by have:=(h b).2 (by simp);simp at this
 | a :: l,[],_,_,h=>by have:=(h a).1 (by simp);simp at this
 | a :: l,b :: m,hl,hm,h=>by
  obtain ⟨l1,l2⟩:=List.pairwise_cons.1 hl;obtain ⟨m1,m2⟩:=List.pairwise_cons.1 hm;have hab:a=b:=by
   rcases List.mem_cons.1 ((h a).1 (by simp)) with e | e
   ·exact e
   ·rcases List.mem_cons.1 ((h b).2 (by simp)) with e' | e'
    ·exact e'.symm
    ·exact absurd (zep (m1 a e) (l1 b e')) (zet _)
  subst hab
  congr 1
  refine zqv l m l2 m2 fun x=>⟨fun hx=>?_,fun hx=>?_⟩
  ·rcases List.mem_cons.1 ((h x).1 (List.mem_cons_of_mem _ hx)) with e | e
   ·subst e;exact absurd (l1 x hx) (zet _)
   ·exact e
  ·rcases List.mem_cons.1 ((h x).2 (List.mem_cons_of_mem _ hx)) with e | e
   ·subst e;exact absurd (m1 x hx) (zet _)
   ·exact e
def insL (x:Ln):List Ln→List Ln
 | []=>[x]
 | y :: r=>if ltP x y then x :: y :: r else if x=y then y :: r else y :: insL x r
def ordL (xs:List Ln):List Ln:=xs.foldr insL []
theorem znq (x z:Ln):∀ l,z∈insL x l↔z=x∨z∈l
 | []=>by simp [insL]
 | y :: r=>by
  unfold insL
  split
  ·simp
  ·split
   ·next h=>subst h;simp
   ·simp only [List.mem_cons,znq x z r];constructor
    ·rintro (h | h | h)
     ·exact .inr (.inl h)
     ·exact .inl h
     ·exact .inr (.inr h)
    ·rintro (h | h | h)
     ·exact .inr (.inl h)
     ·exact .inl h
     ·exact .inr (.inr h)
theorem zsc (x:Ln):∀ l:List Ln,l.Pairwise ltP→(insL x l).Pairwise ltP
 | [],_=>by simp [insL]
 | y :: r,h=>by
  obtain ⟨h1,h2⟩:=List.pairwise_cons.1 h;unfold insL
  split
  ·next hx=>exact List.pairwise_cons.2 ⟨fun z hz=>by rcases List.mem_cons.1 hz with rfl | hz;exact hx;exact zep hx (h1 z hz),h⟩
  ·split
   ·exact h
   ·next hx hne=>
    refine List.pairwise_cons.2 ⟨fun z hz=>?_,zsc x r h2⟩;rcases (znq x z r).1 hz with rfl | hz
    ·rcases zhe y z with h | h | h
     ·exact h
     ·exact absurd h.symm hne
     ·exact absurd h hx
    ·exact h1 z hz
theorem zgr (xs:List Ln):IsOrd xs (ordL xs):=by
 unfold ordL
 induction xs with
 | nil=>exact ⟨List.Pairwise.nil,fun x=>by simp⟩
 | cons x r ih=>exact ⟨zsc x _ ih.1,fun z=>by rw [List.foldr_cons,znq,ih.2,List.mem_cons]⟩
theorem IsOrd.eq {xs ys:List Ln} (h:IsOrd xs ys):ys=ordL xs:=zqv _ _ h.1 (zgr xs).1 fun x=>(h.2 x).trans ((zgr xs).2 x).symm
theorem zjd {xs:List Ln} {x:Ln}:x∈ordL xs↔x∈xs:=(zgr xs).2 x
def validL (xs:List Ln) (but:Ln):List Ln:=ordL (xs.filter fun x=>!(decide (x=but) || !x.ok))
theorem zvm {xs:List Ln} {but x:Ln}:x∈validL xs but↔x∈xs∧x≠but∧x.ok=true:=by
 unfold validL;rw [zjd,List.mem_filter];simp
def setF (l:Ln) (k:Nat) (n:Int):Ln:=match k with | 0=>{ l with d:=n } | 1=>{ l with a:=n } | _=>{ l with b:=n }
def fldL (op:Int):List Nat:=if op=1 then [0] else if op=2 then [0,1] else if op=7 then [1,2] else if op=0 then [] else [0,1,2]
def byL (l:Ln) (n:Int):Ln:=if l.op=1 then { l with a:=l.a+n } else if l.op=7 then { l with d:=l.d+n } else l
def rawT (l:Ln):List Ln:=
 [⟨0,0,0,0⟩,byL l (-1),byL l 1]++(fldL l.op).flatMap (fun k=>[setF l k 0,setF l k 1,setF l k 2,setF l k 3]) ++
  (if 3≤l.op then [⟨l.op,l.d,l.b,l.a⟩] else [])++(if 3≤l.op∧l.op≤6 then [⟨3,l.d,l.a,l.b⟩,⟨4,l.d,l.a,l.b⟩,⟨5,l.d,l.a,l.b⟩,⟨6,l.d,l.a,l.b⟩] else [])
def tmpl (l:Ln):List Ln:=if l.op=0 then [] else validL (rawT l) l
def nearB (l m:Ln):Bool:=l.ok && m.ok && (tmpl l).contains m
theorem zmx {l m:Ln}:m∈tmpl l↔l.op≠0∧m∈rawT l∧m≠l∧m.ok=true:=by
 unfold tmpl;by_cases h:l.op=0
 ·rw [if_pos h];simp [h]
 ·rw [if_neg h,zvm];simp [h]
def tmpP (l m:Ln):Prop:=
 m=⟨0,0,0,0⟩∨(m.op=l.op∧(
  (l.op=1∧((m.d=l.d∧(m.a=l.a - 1∨m.a=l.a+1))∨(m.a=l.a))∧m.b=l.b) ∨
  (l.op=2∧((m.a=l.a)∨(m.d=l.d))∧m.b=l.b) ∨
  (l.op=7∧((m.a=l.a∧m.b=l.b∧(m.d=l.d - 1∨m.d=l.d+1))∨(m.d=l.d∧(m.b=l.b∨m.a=l.a∨(m.a=l.b∧m.b=l.a))))) ∨
  (3≤l.op∧l.op≤6∧((m.a=l.a∧m.b=l.b)∨(m.d=l.d∧m.b=l.b)∨(m.d=l.d∧m.a=l.a)∨(m.d=l.d∧m.a=l.b∧m.b=l.a))))) ∨
 (3≤l.op∧l.op≤6∧3≤m.op∧m.op≤6∧m.d=l.d∧m.a=l.a∧m.b=l.b)
instance (l m:Ln):Decidable (tmpP l m):=by unfold tmpP;exact inferInstance
theorem zeg {w:World} {base:Nat} {e:TypeId} {size g cap n:Nat} {xs:List Value} (h:w.ownsRow base e size (.slice (some ⟨g,0,none⟩) n cap) n xs) (i:Nat) (u:Value) :
  (w.setCell ⟨g,i,none⟩ u).ownsRow base e size (.slice (some ⟨g,0,none⟩) n cap) n (xs.set i u):=by
 obtain ⟨h1,h2⟩:=h;refine ⟨by rw [List.length_set];exact h1,?_⟩
 rcases h2 with ⟨h2,_⟩ | ⟨g',cap',cur,hv,hg,hh,a1,a2,a3,a4⟩
 ·cases h2
 ·cases hv;refine .inr ⟨g,cap,cur.setIfInBounds i u,rfl,hg,heap_setCell_same w g i cur e u hh,a1,a2,by simpa using a3,?_⟩
  rw [Array.toList_setIfInBounds,List.take_set,a4]
theorem zbn {w:World} {base:Nat} {e:TypeId} {size g cap n:Nat} {xs:List Value} (h:w.ownsRow base e size (.slice (some ⟨g,0,none⟩) n cap) n xs) (i:Nat):w.frozen? ⟨g,i,none⟩=false:=by
 rcases h.2 with ⟨h2,_⟩ | ⟨g',cap',cur,hv,hg,hh,_⟩
 ·cases h2
 ·cases hv;simp [World.frozen?,hh]
theorem zrr:∀ (p:List Ln) (k:Nat) (l:Ln),k<p.length →
  ((((p.flatMap encL).set (k * 4) (.int .i64 l.op)).set (k * 4+1) (.int .i64 l.d)).set (k * 4+2) (.int .i64 l.a)).set (k * 4+3) (.int .i64 l.b)=(p.set k l).flatMap encL
 | [],k,l,h=>by simp at h
 | x :: xs,0,l,_=>by simp [List.flatMap_cons,encL]
 | x :: xs,k+1,l,h=>by
  have ih:=zrr xs k l (by simpa using h)
  rw [List.set_cons_succ,List.flatMap_cons,List.flatMap_cons,← ih];have hl:(encL x).length=4:=rfl;rw [List.set_append_right _ _ (by rw [hl];omega),List.set_append_right _ _ (by rw [hl];omega),List.set_append_right _ _ (by rw [hl];omega),List.set_append_right _ _ (by rw [hl];omega)]
  rw [hl];have e0:(k+1) * 4 - 4=k * 4:=by omega
  have e1:(k+1) * 4+1 - 4=k * 4+1:=by omega
  have e2:(k+1) * 4+2 - 4=k * 4+2:=by omega
  have e3:(k+1) * 4+3 - 4=k * 4+3:=by omega
  rw [e0,e1,e2,e3]
def storeL (w:World) (g i:Nat) (l:Ln):World:=(((w.setCell ⟨g,i,none⟩ (.int .i64 l.op)).setCell ⟨g,i+1,none⟩ (.int .i64 l.d)).setCell ⟨g,i+2,none⟩ (.int .i64 l.a)).setCell ⟨g,i+3,none⟩ (.int .i64 l.b)
theorem zjk {w:World} {base:Nat} {e:TypeId} {g cap:Nat} {p:List Ln} (h:w.ownsRow base e 4 (.slice (some ⟨g,0,none⟩) p.length cap) p.length (p.flatMap encL)) (k:Nat) (hk:k<p.length) (l:Ln) :
  (storeL w g (k * 4) l).ownsRow base e 4 (.slice (some ⟨g,0,none⟩) (p.set k l).length cap) (p.set k l).length ((p.set k l).flatMap encL):=by
 rw [List.length_set,← zrr p k l hk];exact zeg (zeg (zeg (zeg h _ _) _ _) _ _) _ _
theorem zcc {a w:World} {B g i:Nat} (l:Ln) (h:Below B a w) (hg:B≤g):Below B a (storeL w g i l):=
 Below.setCell (Below.setCell (Below.setCell (Below.setCell h hg _) hg _) hg _) hg _
theorem zpx (w:World) (g i:Nat) (l:Ln):(storeL w g i l).heap.size=w.heap.size:=by simp [storeL,World.size_setCell]
theorem zpv (w:World) (g i k:Nat) (l:Ln) (h:k≠g):(storeL w g i l).heap[k]?=w.heap[k]?:=by
 unfold storeL;rw [Below.heap_setCell _ _ _ _ (by simpa using h),Below.heap_setCell _ _ _ _ (by simpa using h),Below.heap_setCell _ _ _ _ (by simpa using h),Below.heap_setCell _ _ _ _ (by simpa using h)]
theorem ok_none {l:Ln} (h:l.ok=true) (h0:l.op=0):l=⟨0,0,0,0⟩:=by
 obtain ⟨op,d,a,b⟩:=l;dsimp only at h0;subst h0;unfold Ln.ok vL at h;simp at h;obtain ⟨⟨rfl,rfl⟩,rfl⟩:=h
 rfl
theorem zcr {l:Ln} (h:l.ok=true):(l.op=0∧l.d=0∧l.a=0∧l.b=0)∨(l.op=1∧0≤l.d∧l.d≤3∧-9≤l.a∧l.a≤9∧l.b=0)∨(l.op=2∧0≤l.d∧l.d≤3∧0≤l.a∧l.a≤3∧l.b=0) ∨
  (3≤l.op∧l.op≤6∧0≤l.d∧l.d≤3∧0≤l.a∧l.a≤3∧0≤l.b∧l.b≤3)∨(l.op=7∧1≤l.d∧l.d≤8∧0≤l.a∧l.a≤3∧0≤l.b∧l.b≤3):=by
 obtain ⟨op,d,a,b⟩:=l;unfold Ln.ok vL at h;simp only [zdo] at h;dsimp only
 split at h
 ·simp at h;omega
 ·split at h
  ·simp at h;omega
  ·split at h
   ·simp at h;omega
   ·split at h
    ·simp at h;omega
    ·split at h
     ·simp at h;omega
     ·cases h
theorem zzx {l m:Ln} (h:m∈rawT l):m=⟨0,0,0,0⟩∨m=byL l (-1)∨m=byL l 1∨(∃ k∈fldL l.op,∃ n,m=setF l k n)∨(3≤l.op∧m=⟨l.op,l.d,l.b,l.a⟩)∨(3≤l.op∧l.op≤6∧∃ o,3≤o∧o≤6∧m=⟨o,l.d,l.a,l.b⟩):=by
 unfold rawT at h;rcases List.mem_append.1 h with h | h
 ·rcases List.mem_append.1 h with h | h
  ·rcases List.mem_append.1 h with h | h
   ·simp only [List.mem_cons,List.not_mem_nil,or_false] at h;rcases h with h | h | h
    ·exact .inl h
    ·exact .inr (.inl h)
    ·exact .inr (.inr (.inl h))
   ·obtain ⟨k,hk,h⟩:=List.mem_flatMap.1 h;simp only [List.mem_cons,List.not_mem_nil,or_false] at h;rcases h with h | h | h | h<;>exact .inr (.inr (.inr (.inl ⟨k,hk,_,h⟩)))
  ·split at h
   ·next hc=>
    simp only [List.mem_cons,List.not_mem_nil,or_false] at h;exact .inr (.inr (.inr (.inr (.inl ⟨hc,h⟩))))
   ·simp at h
 ·split at h
  ·next hc=>
   simp only [List.mem_cons,List.not_mem_nil,or_false] at h;refine .inr (.inr (.inr (.inr (.inr ⟨hc.1,hc.2,?_⟩))));rcases h with h | h | h | h
   ·exact ⟨3,by omega,by omega,h⟩
   ·exact ⟨4,by omega,by omega,h⟩
   ·exact ⟨5,by omega,by omega,h⟩
   ·exact ⟨6,by omega,by omega,h⟩
  ·simp at h
theorem zol (l:Ln):(⟨0,0,0,0⟩:Ln)∈rawT l:=by simp [rawT]
theorem zun (l:Ln) (n:Int) (h:n=-1∨n=1):byL l n∈rawT l:=by rcases h with rfl | rfl<;>simp [rawT]
theorem zno {l:Ln} {k:Nat} (hk:k∈fldL l.op) {n:Int} (n0:0≤n) (n3:n≤3):setF l k n∈rawT l:=by
 unfold rawT;refine List.mem_append.2 (.inl (List.mem_append.2 (.inl (List.mem_append.2 (.inr (List.mem_flatMap.2 ⟨k,hk,?_⟩))))));have:n=0∨n=1∨n=2∨n=3:=by omega
 rcases this with rfl | rfl | rfl | rfl<;>simp
theorem ziv {l:Ln} (h:3≤l.op):(⟨l.op,l.d,l.b,l.a⟩:Ln)∈rawT l:=by
 unfold rawT;exact List.mem_append.2 (.inl (List.mem_append.2 (.inr (by rw [if_pos h];simp))))
theorem zvj {l:Ln} (h:3≤l.op) (h6:l.op≤6) {o:Int} (o3:3≤o) (o6:o≤6):(⟨o,l.d,l.a,l.b⟩:Ln)∈rawT l:=by
 unfold rawT;refine List.mem_append.2 (.inr ?_);rw [if_pos ⟨h,h6⟩];have:o=3∨o=4∨o=5∨o=6:=by omega
 rcases this with rfl | rfl | rfl | rfl<;>simp
theorem zls (op:Int):(op=1∧fldL op=[0])∨(op=2∧fldL op=[0,1])∨(op=7∧fldL op=[1,2])∨(op=0∧fldL op=[])∨(op≠1∧op≠2∧op≠7∧op≠0∧fldL op=[0,1,2]):=by
 unfold fldL;by_cases h1:op=1
 ·simp [h1]
 ·by_cases h2:op=2
  ·simp [h2]
  ·by_cases h7:op=7
   ·simp [h7]
   ·by_cases h0:op=0
    ·simp [h0]
    ·simp [h1,h2,h7,h0]
theorem ln_eq {l m:Ln} (h1:m.op=l.op) (h2:m.d=l.d) (h3:m.a=l.a) (h4:m.b=l.b):m=l:=by
 obtain ⟨op,d,a,b⟩:=l;obtain ⟨op',d',a',b'⟩:=m;simp only [Ln.mk.injEq];exact ⟨h1,h2,h3,h4⟩
theorem zyh {l m:Ln} (hl:l.ok=true) (hm:m.ok=true) (h0:l.op≠0):m∈rawT l↔tmpP l m:=by
 have cl:=zcr hl;have cm:=zcr hm;constructor
 ·intro h;rcases zzx h with h | h | h | ⟨k,hk,n,h⟩ | ⟨h3,h⟩ | ⟨h3,h6,o,o3,o6,h⟩
  ·exact .inl h
  ·refine .inr (.inl ?_);by_cases h1:l.op=1
   ·have e:byL l (-1)=⟨l.op,l.d,l.a+(-1),l.b⟩:=by unfold byL;rw [if_pos h1]
    rw [e] at h;have e1:m.op=l.op:=by rw [h]
    have e2:m.d=l.d:=by rw [h]
    have e3:m.a=l.a+(-1):=by rw [h]
    have e4:m.b=l.b:=by rw [h]
    clear h e;omega
   ·by_cases h7:l.op=7
    ·have e:byL l (-1)=⟨l.op,l.d+(-1),l.a,l.b⟩:=by unfold byL;rw [if_neg h1,if_pos h7]
     rw [e] at h;have e1:m.op=l.op:=by rw [h]
     have e2:m.d=l.d+(-1):=by rw [h]
     have e3:m.a=l.a:=by rw [h]
     have e4:m.b=l.b:=by rw [h]
     clear h e;omega
    ·have e:byL l (-1)=l:=by unfold byL;rw [if_neg h1,if_neg h7]
     rw [e] at h;have e1:m.op=l.op:=by rw [h]
     have e2:m.d=l.d:=by rw [h]
     have e3:m.a=l.a:=by rw [h]
     have e4:m.b=l.b:=by rw [h]
     clear h e;omega
  ·refine .inr (.inl ?_);by_cases h1:l.op=1
   ·have e:byL l (1)=⟨l.op,l.d,l.a+(1),l.b⟩:=by unfold byL;rw [if_pos h1]
    rw [e] at h;have e1:m.op=l.op:=by rw [h]
    have e2:m.d=l.d:=by rw [h]
    have e3:m.a=l.a+(1):=by rw [h]
    have e4:m.b=l.b:=by rw [h]
    clear h e;omega
   ·by_cases h7:l.op=7
    ·have e:byL l (1)=⟨l.op,l.d+(1),l.a,l.b⟩:=by unfold byL;rw [if_neg h1,if_pos h7]
     rw [e] at h;have e1:m.op=l.op:=by rw [h]
     have e2:m.d=l.d+(1):=by rw [h]
     have e3:m.a=l.a:=by rw [h]
     have e4:m.b=l.b:=by rw [h]
     clear h e;omega
    ·have e:byL l (1)=l:=by unfold byL;rw [if_neg h1,if_neg h7]
     rw [e] at h;have e1:m.op=l.op:=by rw [h]
     have e2:m.d=l.d:=by rw [h]
     have e3:m.a=l.a:=by rw [h]
     have e4:m.b=l.b:=by rw [h]
     clear h e;omega
  ·refine .inr (.inl ?_);rcases zls l.op with ⟨e,ef⟩ | ⟨e,ef⟩ | ⟨e,ef⟩ | ⟨e,ef⟩ | ⟨n1,n2,n3,n4,ef⟩<;>rw [ef] at hk<;>simp at hk
   ·subst hk;have e1:m.op=l.op:=by rw [h];rfl
    have e2:m.d=n:=by rw [h];rfl
    have e3:m.a=l.a:=by rw [h];rfl
    have e4:m.b=l.b:=by rw [h];rfl
    clear h ef;omega
   ·rcases hk with rfl | rfl
    ·have e1:m.op=l.op:=by rw [h];rfl
     have e2:m.d=n:=by rw [h];rfl
     have e3:m.a=l.a:=by rw [h];rfl
     have e4:m.b=l.b:=by rw [h];rfl
     clear h ef;omega
    ·have e1:m.op=l.op:=by rw [h];rfl
     have e2:m.d=l.d:=by rw [h];rfl
     have e3:m.a=n:=by rw [h];rfl
     have e4:m.b=l.b:=by rw [h];rfl
     clear h ef;omega
   ·rcases hk with rfl | rfl
    ·have e1:m.op=l.op:=by rw [h];rfl
     have e2:m.d=l.d:=by rw [h];rfl
     have e3:m.a=n:=by rw [h];rfl
     have e4:m.b=l.b:=by rw [h];rfl
     clear h ef;omega
    ·have e1:m.op=l.op:=by rw [h];rfl
     have e2:m.d=l.d:=by rw [h];rfl
     have e3:m.a=l.a:=by rw [h];rfl
     have e4:m.b=n:=by rw [h];rfl
     clear h ef;omega
   ·rcases hk with rfl | rfl | rfl
    ·have e1:m.op=l.op:=by rw [h];rfl
     have e2:m.d=n:=by rw [h];rfl
     have e3:m.a=l.a:=by rw [h];rfl
     have e4:m.b=l.b:=by rw [h];rfl
     clear h ef;omega
    ·have e1:m.op=l.op:=by rw [h];rfl
     have e2:m.d=l.d:=by rw [h];rfl
     have e3:m.a=n:=by rw [h];rfl
     have e4:m.b=l.b:=by rw [h];rfl
     clear h ef;omega
    ·have e1:m.op=l.op:=by rw [h];rfl
     have e2:m.d=l.d:=by rw [h];rfl
     have e3:m.a=l.a:=by rw [h];rfl
     have e4:m.b=n:=by rw [h];rfl
     clear h ef;omega
  ·refine .inr (.inl ?_);have e1:m.op=l.op:=by rw [h]
   have e2:m.d=l.d:=by rw [h]
   have e3:m.a=l.b:=by rw [h]
   have e4:m.b=l.a:=by rw [h]
   clear h;omega
  ·refine .inr (.inr ?_);have e1:m.op=o:=by rw [h]
   have e2:m.d=l.d:=by rw [h]
   have e3:m.a=l.a:=by rw [h]
   have e4:m.b=l.b:=by rw [h]
   clear h;omega
 ·rintro (h | ⟨he,h⟩ | ⟨a3,a6,b3,b6,e1,e2,e3⟩)
  ·rw [h];exact zol l
  ·have fld:∀ (k:Nat) (n:Int),k∈fldL l.op→0≤n→n≤3→m=setF l k n→m∈rawT l:=fun k n hk n0 n3 e=>e ▸ zno hk n0 n3;have by1:∀ n:Int,(n=-1∨n=1)→m=byL l n→m∈rawT l:=fun n hn e=>e ▸ zun l n hn;rcases h with ⟨e,(⟨h1,h2⟩ | h1),hb⟩ | ⟨e,h1,hb⟩ | ⟨e,h1⟩ | ⟨e3,e6,h1⟩
   ·have hby:∀ n,byL l n={ l with a:=l.a+n }:=fun n=>by unfold byL;rw [if_pos e]
    rcases h2 with h2 | h2
    ·exact by1 (-1) (.inl rfl) (by rw [hby];exact ln_eq he h1 (by dsimp only;omega) hb)
    ·exact by1 1 (.inr rfl) (by rw [hby];exact ln_eq he h1 (by dsimp only;omega) hb)
   ·exact fld 0 m.d (by rw [e];decide) (by omega) (by omega) (ln_eq he rfl h1 hb)
   ·rcases h1 with h1 | h1
    ·exact fld 0 m.d (by rw [e];decide) (by omega) (by omega) (ln_eq he rfl h1 hb)
    ·exact fld 1 m.a (by rw [e];decide) (by omega) (by omega) (ln_eq he h1 rfl hb)
   ·have hby:∀ n,byL l n={ l with d:=l.d+n }:=fun n=>by unfold byL;rw [if_neg (by omega),if_pos e]
    rcases h1 with ⟨h1,h2,(h3 | h3)⟩ | ⟨h1,(h2 | h2 | ⟨h2,h3⟩)⟩
    ·exact by1 (-1) (.inl rfl) (by rw [hby];exact ln_eq he (by dsimp only;omega) h1 h2)
    ·exact by1 1 (.inr rfl) (by rw [hby];exact ln_eq he (by dsimp only;omega) h1 h2)
    ·exact fld 1 m.a (by rw [e];decide) (by omega) (by omega) (ln_eq he h1 rfl h2)
    ·exact fld 2 m.b (by rw [e];decide) (by omega) (by omega) (ln_eq he h1 h2 rfl)
    ·have:=ziv (l:=l) (by omega)
     rwa [show m=⟨l.op,l.d,l.b,l.a⟩ from ln_eq he h1 h2 h3]
   ·have hf:fldL l.op=[0,1,2]:=by
     rcases zls l.op with ⟨e,ef⟩ | ⟨e,ef⟩ | ⟨e,ef⟩ | ⟨e,ef⟩ | ⟨e1,e2,e3,e4,ef⟩
     ·omega
     ·omega
     ·omega
     ·omega
     ·exact ef
    rcases h1 with ⟨h1,h2⟩ | ⟨h1,h2⟩ | ⟨h1,h2⟩ | ⟨h1,h2,h3⟩
    ·exact fld 0 m.d (by rw [hf];decide) (by omega) (by omega) (ln_eq he rfl h1 h2)
    ·exact fld 1 m.a (by rw [hf];decide) (by omega) (by omega) (ln_eq he h1 rfl h2)
    ·exact fld 2 m.b (by rw [hf];decide) (by omega) (by omega) (ln_eq he h1 h2 rfl)
    ·have:=ziv (l:=l) (by omega)
     rwa [show m=⟨l.op,l.d,l.b,l.a⟩ from ln_eq he h1 h2 h3]
  ·have:=zvj (l:=l) a3 a6 b3 b6
   rwa [show m=⟨m.op,l.d,l.a,l.b⟩ from ln_eq rfl e1 e2 e3]
theorem near_eq {l m:Ln} (hl:l.ok=true) (hm:m.ok=true):nearB l m=decide (l.op≠0∧m≠l∧tmpP l m):=by
 unfold nearB;rw [hl,hm,Bool.true_and,Bool.true_and];by_cases h:m∈tmpl l
 ·rw [List.contains_iff_mem.2 h];obtain ⟨h1,h2,h3,_⟩:=zmx.1 h;rw [decide_eq_true ⟨h1,h3,(zyh hl hm h1).1 h2⟩]
 ·have hc:(tmpl l).contains m=false:=by
   cases e:(tmpl l).contains m with
   | false=>rfl
   | true=>exact absurd (List.contains_iff_mem.1 e) h
  rw [hc,decide_eq_false];rintro ⟨h1,h2,h3⟩;exact h (zmx.2 ⟨h1,(zyh hl hm h1).2 h3,h2,hm⟩)
def frcN (lines values:List Int) (i:Nat):Nat→Option Int
 | 0=>none
 | k+1=>if lines.getD k 0=(i:Int) then some (values.getD k 0) else frcN lines values i k
def frc (lines values:List Int) (i:Nat):Option Int:=frcN lines values i lines.length
theorem zri {lines values:List Int} {i:Nat} {n:Int}:∀ k,k≤values.length→frcN lines values i k=some n→n∈values
 | 0,_,h=>by simp [frcN] at h
 | k+1,hk,h=>by
  unfold frcN at h
  split at h
  ·rw [List.getD_eq_getElem?_getD,List.getElem?_eq_getElem (by omega)] at h
   simp at h;subst h;exact List.getElem_mem _
  ·exact zri k (by omega) h
end Go.Proofs.YtmeejlgnhfkeaaaGreatDoor
