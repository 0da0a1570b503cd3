/- Parts. -/
import Derived.Test.YtmeejlgnhfkeaaaGreatDoorR33
import Derived.Test.YtmeejlgnhfkeaaaGreatDoorR40
import Derived.Test.YtmeejlgnhfkeaaaGreatDoorR22
namespace Go.Proofs.YtmeejlgnhfkeaaaGreatDoor
open Go.RowKit
theorem zyy (s:ByteArray) (i j:Nat):(s.extract i j).data.toList=(s.data.toList.take j).drop i:=by
 have h:=zif s.data.toList i j;rw [tb_of] at h;rw [h,zbt]
theorem zpn (k:Nat):∀ (s:ByteArray),∀ c∈s.data.toList,c=32∨∃ x∈Lib.splitB blank 0 k s,c∈x.data.toList:=by
 induction k with
 | zero=>intro s c hc;exact .inr ⟨s,by rw [Lib.splitB_zero];simp,hc⟩
 | succ k ih=>
  intro s c hc;unfold Lib.splitB
  split
  ·exact .inr ⟨s,by simp,hc⟩
  ·next hne=>
   have hi:Lib.indexB s blank≠-1:=by simpa using hne
   rcases Lib.index_spec s.data.toList blank.data.toList with ⟨h1,_⟩ | ⟨i,h1,h2,h3,_⟩
   ·exact absurd h1 hi
   ·have hii:Lib.indexB s blank=(i:Int):=h1;rw [hii];obtain ⟨j,hj⟩:=List.getElem?_of_mem hc;have hjl:=(List.getElem?_eq_some_iff.1 hj).1;have hsz:s.size=s.data.toList.length:=zhl s;rcases Nat.lt_trichotomy j i with hlt | heq | hgt
    ·refine .inr ⟨s.extract 0 ((i:Int).toNat+0),by simp,?_⟩
     rw [zyy,List.drop_zero];refine List.mem_of_getElem? (i:=j) ?_;rw [List.getElem?_take,if_pos (by omega)]
     exact hj
    ·refine .inl ?_;subst heq;unfold Lib.occAt at h3;rw [List.drop_eq_getElem_cons hjl] at h3;have h4:s.data.toList[j]=32:=by
      have:blank.data.toList=[32]:=rfl;rw [this] at h3;simp at h3;exact h3.symm
     have h5:=(List.getElem?_eq_some_iff.1 hj).2;rw [← h5,h4]
    ·have hb1:blank.size=1:=rfl;rcases ih (s.extract ((i:Int).toNat+blank.size) s.size) c (by
      rw [zyy,hb1,hsz,List.take_length];refine List.mem_of_getElem? (i:=j - (i+1)) ?_;rw [List.getElem?_drop,show (i:Int).toNat+1+(j - (i+1))=j by omega]
      exact hj) with h | ⟨x,hx,hcx⟩
     ·exact .inl h
     ·exact .inr ⟨x,List.mem_cons_of_mem _ hx,hcx⟩
theorem zwk {w:ByteArray} (h:(formB w).isSome=true):(10:UInt8) ∉ w.data.toList:=by
 unfold formB at h
 repeat' split at h
 all_goals first | (subst_vars;decide) | cases h
theorem zxa {w:ByteArray} {n:Int} (h:numW w=some n):(10:UInt8) ∉ w.data.toList:=by
 unfold numW at h
 split at h
 ·split at h
  ·next h1=>rw [← h1.1];exact Bk.itoa_no10 _
  ·cases h
 ·cases h
theorem zoe:∀ {ws:List ByteArray} {l:List Int},numsW ws=some l→∀ w∈ws,∃ n,numW w=some n
 | [],_,_,w,hw=>by simp at hw
 | a :: r,l,h,w,hw=>by
  unfold numsW at h;cases ha:numW a with
  | none=>rw [ha] at h;cases h
  | some n=>
   rw [ha] at h;cases hr:numsW r with
   | none=>rw [hr] at h;cases h
   | some l'=>
    rcases List.mem_cons.1 hw with rfl | hw
    ·exact ⟨n,ha⟩
    ·exact zoe hr w hw
theorem zyu {t:ByteArray} (h:(parseB t).isSome=true):Bk.okT (dl t)=true:=by
 obtain ⟨w0,ws,hws⟩:=zgb t;unfold parseB at h;rw [hws] at h;dsimp only at h;cases hf:formB w0 with
 | none=>rw [hf] at h;cases h
 | some kn=>
  obtain ⟨k,n⟩:=kn;rw [hf] at h;dsimp only at h
  split at h
  ·cases h
  ·next hb=>
   cases hn:numsW ws with
   | none=>rw [hn] at h;cases h
   | some l=>
    rw [Bk.okT_iff];have hl:(dl t).length=t.size:=(zhl t).symm;have h0:=zgg (t:=t) (x:=w0) (by rw [hws];simp)
    have h3:3≤w0.size:=by
     unfold formB at hf
     repeat' split at hf
     all_goals first | (subst_vars;decide) | cases hf
    refine ⟨by omega,by omega,fun h10=>?_⟩
    rcases zpn (Lib.countB t blank) t 10 h10 with hc | ⟨x,hx,hcx⟩
    ·exact absurd hc (by decide)
    ·have hx':x∈wordsB t:=hx;rw [hws] at hx';rcases List.mem_cons.1 hx' with rfl | hx'
     ·exact zwk (by rw [hf];rfl) hcx
     ·obtain ⟨m,hm⟩:=zoe hn x hx';exact zxa hm hcx
theorem OkB.okL {s:Bn} (h:OkB s):okL s.orders=true:=zwv fun t ht=>zyu (h.txt t ht)
theorem do_err {s:Bn} {t:ByteArray} (h:(doB s t).1≠0):(doB s t).2=s:=by
 unfold doB at h ⊢
 split
 ·rfl
 ·rename_i k l hp
  rw [hp] at h;dsimp only at h
  split
  ·rfl
  ·next h8=>
   rw [if_neg h8] at h
   split
   ·rfl
   ·next he=>rw [if_neg he] at h;exact absurd rfl h
end Go.Proofs.YtmeejlgnhfkeaaaGreatDoor
