/- Parts. -/
import Derived.Test.YtmeejlgnhfkeaaaGreatDoorR00
import Derived.Lib.Strings
import Derived.Lib.IndexMore
import Derived.Test.YtmeejlgnhfkeaaaGreatDoorR19
namespace Go.Proofs.YtmeejlgnhfkeaaaGreatDoor
open Go.RowKit
def encTx (s:ByteArray):List Value:=[.string s]
theorem zbi (s:ByteArray):(encTx s).length=1:=rfl
theorem zcz (s:ByteArray):∀ u∈encTx s,u.oneCell'=true:=by intro u hu;simp [encTx] at hu;subst hu;rfl
abbrev TextsAt (w:World) (v:Value) (l:List ByteArray):Prop:=SlcAt 1 encTx w v l
theorem zcq {w:World} {a:Option Addr} {n c:Nat} {L:List ByteArray} (h:TextsAt w (.slice a n c) L) {k:Nat} {t:ByteArray} (hx:L[k]?=some t):∃ b o,a=some ⟨b,o,none⟩∧b<w.heap.size∧w.cell? ⟨b,o+k,none⟩=some (.string t):=by
 obtain ⟨_,_,e,_,_,h⟩:=h;cases e;obtain ⟨b,o,rfl,hb,hc⟩:=h.resolve_left (by intro h0;rw [h0.1] at hx;simp at hx)
 exact ⟨b,o,rfl,hb,by simpa using hc k t hx 0 _ rfl⟩
theorem tx_ne {x y:ByteArray} (h:x≠y):(x.toList == y.toList)=false:=by
 rw [beq_eq_false_iff_ne,Lib.toList_data,Lib.toList_data];intro e;have h2:x.data=y.data:=Array.toList_inj.1 e;cases x;cases y;simp_all
theorem tx_eq {x y:ByteArray} (h:x.data.toList=y.data.toList):x=y:=by
 have h2:x.data=y.data:=Array.toList_inj.1 h;cases x;cases y;simp_all
theorem zhl (t:ByteArray):t.size=t.data.toList.length:=by rw [Array.length_toList];rfl
def hideW (H:Nat→Bool) (w:World):World:={ w with heap:=w.heap.mapIdx fun i o=>if H i then .cells #[] 0 (0,0) else o }
theorem zav (H:Nat→Bool) (w:World):(hideW H w).heap.size=w.heap.size:=by simp [hideW]
theorem zbk (H:Nat→Bool) (w:World) (k:Nat):(hideW H w).heap[k]?=(w.heap[k]?).map fun o=>if H k then .cells #[] 0 (0,0) else o:=by
 simp [hideW,Array.getElem?_mapIdx]
theorem zdf {H:Nat→Bool} {w:World} {k:Nat} (h:H k=false):(hideW H w).heap[k]?=w.heap[k]?:=by
 rw [zbk,h];cases w.heap[k]?<;>rfl
theorem Grow.hide {w w':World} (g:Grow w w') {H H':Nat→Bool} (hH:∀ k,k<w.heap.size→H' k=H k):Grow (hideW H w) (hideW H' w'):=by
 refine ⟨g.os,g.tape,g.output,by rw [zav,zav];exact g.sz,fun k hk=>?_⟩
 rw [zav] at hk;rw [zbk,zbk,g.heap hk,hH k hk]
theorem Grow.hid {w w':World} (g:Grow w w') (H:Nat→Bool):Grow (hideW H w) (hideW H w'):=g.hide fun _ _=>rfl
theorem zht {H:Nat→Bool} {w:World} {a:Addr} {v:Value} (h:(hideW H w).cell? a=some v):w.cell? a=some v∧H a.block=false:=by
 cases hh:H a.block with
 | false=>exact ⟨by rw [← World.cell?_of_block (w:=w) (w':=hideW H w) (zdf hh)];exact h,rfl⟩
 | true=>
  exfalso
  unfold World.cell? at h;rw [zbk,hh] at h;cases hb:w.heap[a.block]? with
  | none=>rw [hb] at h;simp at h
  | some o=>rw [hb] at h;simp at h
theorem zhk {H:Nat→Bool} {w:World} {a:Addr} (h:H a.block=false):(hideW H w).cell? a=w.cell? a:=World.cell?_of_block (w:=w) (w':=hideW H w) (zdf h)
theorem SlcAt.unhide {α:Type} {k:Nat} {enc:α→List Value} {H:Nat→Bool} {w:World} {v:Value} {xs:List α} (h:SlcAt k enc (hideW H w) v xs):SlcAt k enc w v xs:=by
 obtain ⟨a,c,h1,h2,h3,h4⟩:=h;refine ⟨a,c,h1,h2,h3,h4.imp id ?_⟩;rintro ⟨b,o,e,hb,hc⟩;exact ⟨b,o,e,by rwa [zav] at hb,fun j x hx i u hu=>(zht (hc j x hx i u hu)).1⟩
theorem TestsAt.unhide {H:Nat→Bool} {w:World} {v:Value} {ts:List Tst} (h:TestsAt (hideW H w) v ts):TestsAt w v ts:=⟨h.at_.unhide,fun t ht=>(h.ins t ht).unhide⟩
theorem SlcAt.hide {α:Type} {k:Nat} {enc:α→List Value} {H:Nat→Bool} {w:World} {v:Value} {xs:List α} (h:SlcAt k enc w v xs) (hb:∀ b o n c,v=.slice (some ⟨b,o,none⟩) n c→H b=false∨xs=[]):SlcAt k enc (hideW H w) v xs:=by
 obtain ⟨a,c,h1,h2,h3,h4⟩:=h;refine ⟨a,c,h1,h2,h3,?_⟩;rcases h4 with h4 | ⟨b,o,e,hlt,hc⟩
 ·exact .inl h4
 ·subst e;rcases hb b o _ _ h1 with h5 | h5
  ·exact .inr ⟨b,o,rfl,by rw [zav];exact hlt,fun j x hx i u hu=>by rw [zhk h5];exact hc j x hx i u hu⟩
  ·exact .inl ⟨h5,fun e=>by cases e⟩
theorem SlcAt.hide_new {α:Type} {k:Nat} {enc:α→List Value} {H:Nat→Bool} {w:World} {v:Value} {xs:List α} (h:SlcAt k enc w v xs) {base:Nat} (hn:NewS base v) (hH:∀ b,base≤b→H b=false):SlcAt k enc (hideW H w) v xs:=
 h.hide fun b _ n c e=>.inl (hH b (hn _ n c e))
def NoQ (H:Nat→Bool) (w:World):Prop:=∀ b o,H b=true→∃ i:Nat,i<4∧∀ n:Int,w.cell? ⟨b,o+i,none⟩≠some (.int .i64 n)
theorem NoQ.grow {H:Nat→Bool} {w w':World} (h:NoQ H w) (g:Grow w w') (hH:∀ b,H b=true→b<w.heap.size):NoQ H w':=by
 intro b o hb;obtain ⟨i,hi,hn⟩:=h b o hb;exact ⟨i,hi,fun n=>by rw [Below.cell (p:=⟨b,o+i,none⟩) g (hH b hb)];exact hn n⟩
theorem zak {H:Nat→Bool} {w:World} {a:Addr} (h:H a.block=true) (v:Value):hideW H (w.setCell a v)=hideW H w:=by
 have:(hideW H (w.setCell a v)).heap=(hideW H w).heap:=by
  apply Array.ext_getElem?
  intro k;rw [zbk,zbk];by_cases hk:k=a.block
  ·subst hk;rw [h];have hs:(w.setCell a v).heap.size=w.heap.size:=by simp [World.setCell]
   cases h1:(w.setCell a v).heap[a.block]? with
   | none=>
    have:w.heap.size≤a.block:=by rw [← hs];exact Array.getElem?_eq_none_iff.1 h1
    rw [Array.getElem?_eq_none this]
   | some o1=>
    have:a.block<w.heap.size:=by rw [← hs];exact lt_of_block h1
    rw [Array.getElem?_eq_getElem this];rfl
  ·rw [Below.heap_setCell _ _ _ _ hk]
 unfold hideW at this ⊢;rw [show (w.setCell a v).tape=w.tape from rfl]
 congr 1
theorem SlcAt.old {α:Type} {k:Nat} {enc:α→List Value} {w w2:World} {v:Value} {xs:List α} (h:SlcAt k enc w v xs) (g:Grow w w2) {B:Nat} (hB:w.heap.size≤B):SlcAt k enc (hideW (fun k=>k == B) w2) v xs:=by
 obtain ⟨a,c,h1,h2,h3,h4⟩:=h;refine ⟨a,c,h1,h2,h3,h4.imp id ?_⟩;rintro ⟨b,o,e,hb,hc⟩;refine ⟨b,o,e,by rw [zav];exact Nat.lt_of_lt_of_le hb g.sz,fun j x hx i u hu=>?_⟩
 rw [zhk (by show (b == B)=false;rw [beq_eq_false_iff_ne];omega)]
 exact g.cell (hc j x hx i u hu)
theorem TestsAt.old {w w2:World} {v:Value} {ts:List Tst} (h:TestsAt w v ts) (g:Grow w w2) {B:Nat} (hB:w.heap.size≤B):TestsAt (hideW (fun k=>k == B) w2) v ts:=⟨h.at_.old g hB,fun t ht=>(h.ins t ht).old g hB⟩
structure LlAt {α:Type} (k:Nat) (enc:α→List Value) (w:World) (v:Value) (L:List (Lo α)):Prop where
 at_:SlcAt 1 encLo w v L
 ins:∀ t∈L,SlcAt k enc w t.v t.x
theorem LlAt.grow {α:Type} {k:Nat} {enc:α→List Value} {w w':World} {v:Value} {L:List (Lo α)} (h:LlAt k enc w v L) (g:Grow w w'):LlAt k enc w' v L:=⟨h.at_.grow g,fun t ht=>(h.ins t ht).grow g⟩
theorem LlAt.unhide {α:Type} {k:Nat} {enc:α→List Value} {H:Nat→Bool} {w:World} {v:Value} {L:List (Lo α)} (h:LlAt k enc (hideW H w) v L):LlAt k enc w v L:=⟨h.at_.unhide,fun t ht=>(h.ins t ht).unhide⟩
theorem LlAt.nil {α:Type} (k:Nat) (enc:α→List Value) (w:World):LlAt k enc w (.slice none 0 0) []:=⟨SlcAt.nil _ _ _,by simp⟩
end Go.Proofs.YtmeejlgnhfkeaaaGreatDoor
