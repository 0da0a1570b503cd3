/- Parts. -/
import Derived.Test.YtmeejlgnhfkeaaaGreatDoorR00
import Derived.Deep.RegionHeld3
namespace Go.Proofs.YtmeejlgnhfkeaaaGreatDoor
open Go.RowKit
theorem zew {P:Program} {α:Type} {ops:Array Oper} {o:Oper} {a:Act} {w:World} {K:Act→World→Prop} {Q:Exit→Act→World→Prop} {E:Prop} (hgd:o.guard=none) (s x:Operand) (t:TypeId)
  (ho:o.op=.call { callee:=.builtin .append,args:=#[s,x],argTypes:=#[t,t] })
  (base:Nat) (e:TypeId) {k bytes:Nat} {z:Value} (ht:P.underlying t=some (.slice e)) (info:(P.info? e).map (fun i=>(i.zero,i.size,i.bytes))=some (some z,k,bytes))
  (hzs:z.cells.size=k) (hk:0<k) (hby:bytes≤1000)
  (enc:α→List Value) (hen:∀ x,(enc x).length=k) (h1:∀ x,∀ u∈enc x,u.oneCell'=true)
  (v:Value) (xs:List α) (hs:a.eval s=v) (hown:w.ownsRow base e k v xs.length (xs.flatMap enc)) (ad:Addr) (y:α) (c:Nat) (hx:a.eval x=.slice (some ad) 1 c)
  (hnews:∀ j u,(enc y)[j]?=some u→w.cell? (ad.add j)=some u) (hn:xs.length<100000000000) (hbase:base≤w.heap.size)
  (h:∀ v' w',w'.ownsRow base e k v' (xs++[y]).length ((xs++[y]).flatMap enc)→w.grownBy w' v.ownBlock→(v'.ownBlock=v.ownBlock∨v'.ownBlock=some w.heap.size)→K (a.put o.dst v') w') :
  if Region.wanted o (yielded ops a.tmps)=true then Oper.wp P o a w K Q else E:=by
 have hw:Region.wanted o (yielded ops a.tmps)=true:=by simp [Region.wanted,hgd]
 rw [if_pos hw];obtain ⟨i,hi,hz0,hz1,hz2⟩:=info_parts info;obtain ⟨v',w',hrun,a1,a2,_,a4⟩:=run_append_own_at (P:=P) w base t o.type e i z k bytes ht hi hz0 hz1 hz2 hzs hk v xs.length (xs.flatMap enc) hown ad 1 c (enc y) (by rw [hen];omega) hnews (h1 y) (by unfold maxLen;omega) (Nat.le_trans (Nat.mul_le_mul (show xs.length+1≤100000000000 by omega) hby) (by decide)) hbase
 unfold Oper.wp;simp [execOp,ho,resolve,invoke,builtin,hs,hx,hrun,Result.andThen];refine h v' w' ?_ a2 a4;rw [List.length_append,List.flatMap_append];simpa using a1
theorem zhu {w:World} {base b2:Nat} {e:TypeId} {k n:Nat} {v:Value} {xs:List Value} (h:w.ownsRow base e k v n xs) (hb:b2≤base):w.ownsRow b2 e k v n xs:=
 ⟨h.1,h.2.imp id fun ⟨g,cap,cur,e1,h1,h2⟩=>⟨g,cap,cur,e1,Nat.le_trans hb h1,h2⟩⟩
theorem zec {P:Program} {α:Type} {ops:Array Oper} {o:Oper} {a:Act} {w:World} {K:Act→World→Prop} {Q:Exit→Act→World→Prop} {E:Prop} (hgd:o.guard=none) (s x:Operand) (t:TypeId)
  (ho:o.op=.call { callee:=.builtin .append,args:=#[s,x],argTypes:=#[t,t] })
  (base:Nat) (e:TypeId) {k bytes:Nat} {z:Value} (ht:P.underlying t=some (.slice e)) (info:(P.info? e).map (fun i=>(i.zero,i.size,i.bytes))=some (some z,k,bytes))
  (hzs:z.cells.size=k) (hk:0<k) (hby:bytes≤1000)
  (enc:α→List Value) (hen:∀ x,(enc x).length=k) (h1:∀ x,∀ u∈enc x,u.oneCell'=true)
  (v:Value) (xs:List α) (hs:a.eval s=v) (hown:w.ownsRow base e k v xs.length (xs.flatMap enc)) (u:Value) (ys:List α) (hx:a.eval x=u) (hsrc:SlcAt k enc w u ys)
  (hn:xs.length+ys.length<100000000000) (hbase:base≤w.heap.size)
  (h:∀ v' w',w'.ownsRow base e k v' (xs++ys).length ((xs++ys).flatMap enc)→w.grownBy w' v.ownBlock→(v'.ownBlock=v.ownBlock∨v'.ownBlock=some w.heap.size)→K (a.put o.dst v') w') :
  if Region.wanted o (yielded ops a.tmps)=true then Oper.wp P o a w K Q else E:=by
 have hw:Region.wanted o (yielded ops a.tmps)=true:=by simp [Region.wanted,hgd]
 rw [if_pos hw];obtain ⟨i,hi,hz0,hz1,hz2⟩:=info_parts info;obtain ⟨ao,c,rfl,h2,h3,h4⟩:=hsrc;cases ao with
 | none=>
  have hys:ys=[]∧c=0:=by
   rcases h4 with ⟨h4,h5⟩ | ⟨b,o,h4,_⟩
   ·exact ⟨h4,h5 rfl⟩
   ·cases h4
  obtain ⟨rfl,rfl⟩:=hys;have hrun:=run_append_owned_none (P:=P) w base t o.type e i k ht hi v xs.length (xs.flatMap enc) hown;unfold Oper.wp;simp only [List.length_nil] at hx;simp [execOp,ho,resolve,invoke,builtin,hs,hx,hrun,Result.andThen];exact h v w (by simpa using hown) (World.grownBy.refl _ _) (.inl rfl)
 | some ad=>
  obtain ⟨v',w',hrun,a1,a2,_,a4⟩:=run_append_own_at (P:=P) w base t o.type e i z k bytes ht hi hz0 hz1 hz2 hzs hk v xs.length (xs.flatMap enc) hown ad ys.length c (ys.flatMap enc) (zbp hen ys) (by
   rcases h4 with ⟨h4,_⟩ | ⟨b,o',h4,hb,hc⟩
   ·subst h4;intro j u hj;simp at hj
   ·cases h4;intro j u hj;have hjl:j<ys.length * k:=by rw [← zbp hen ys];exact (List.getElem?_eq_some_iff.1 hj).1
    have hq:j / k<ys.length:=Nat.div_lt_of_lt_mul (by rw [Nat.mul_comm];exact hjl)
    obtain ⟨y,hy⟩:∃ y,ys[j / k]?=some y:=⟨_,List.getElem?_eq_getElem hq⟩;have hr:j % k<k:=Nat.mod_lt _ hk;have hf:=flatMap_getElem? hen ys (j / k) y hy (j % k) hr;have hdm:j / k * k+j % k=j:=by rw [Nat.mul_comm];exact Nat.div_add_mod j k
    rw [hdm,hj] at hf;have:=hc (j / k) y hy (j % k) u hf.symm;rw [Addr.add_lit];rw [Nat.add_assoc,hdm] at this;exact this) (by
   intro u hu;obtain ⟨y,_,hy⟩:=List.mem_flatMap.1 hu;exact h1 y u hy) (by unfold maxLen;omega) (Nat.le_trans (Nat.mul_le_mul (show xs.length+ys.length≤100000000000 by omega) hby) (by decide)) hbase
  unfold Oper.wp;simp [execOp,ho,resolve,invoke,builtin,hs,hx,hrun,Result.andThen];refine h v' w' ?_ a2 a4;rw [List.length_append,List.flatMap_append];exact a1
end Go.Proofs.YtmeejlgnhfkeaaaGreatDoor
