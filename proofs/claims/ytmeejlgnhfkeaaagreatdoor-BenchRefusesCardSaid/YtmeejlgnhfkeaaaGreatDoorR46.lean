/- Parts. -/
import Derived.Test.YtmeejlgnhfkeaaaGreatDoorR22
import Derived.Lib.SplitLaws
import Derived.KernelRfl
namespace Go.Proofs.YtmeejlgnhfkeaaaGreatDoor
open Go.RowKit
def conW (b:UInt8):List (List UInt8)→List (List UInt8)
 | []=>[[b]]
 | h :: t=>(b :: h) :: t
def wds:List UInt8→List (List UInt8)
 | []=>[[]]
 | b :: l=>if b=32 then [] :: wds l else conW b (wds l)
theorem wds_ne (l:List UInt8):wds l≠[]:=by
 cases l with
 | nil=>simp [wds]
 | cons b l=>
  unfold wds
  split
  ·simp
  ·cases wds l<;>simp [conW]
theorem zpc (l:List UInt8):wds (l++[32])=wds l++[[]]:=by
 induction l with
 | nil=>rfl
 | cons b l ih=>
  rw [List.cons_append,wds,wds,ih]
  split
  ·rfl
  ·cases h:wds l with
   | nil=>exact absurd h (wds_ne l)
   | cons x t=>rfl
def wdsI (l:List UInt8):List (List UInt8):=(wds l).dropLast
def wdsL (l:List UInt8):List UInt8:=((wds l).getLast?).getD []
theorem zds {A:List (List UInt8)} {x:List UInt8}:(A++[x]).dropLast=A∧((A++[x]).getLast?).getD []=x:=by simp
theorem ztz {L:List (List UInt8)} (h:L≠[]):L=L.dropLast++[(L.getLast?).getD []]:=by
 obtain ⟨x,hx⟩:∃ x,L.getLast?=some x:=by
  cases hl:L.getLast? with
  | some x=>exact ⟨x,rfl⟩
  | none=>exact absurd (List.getLast?_eq_none_iff.1 hl) h
 obtain ⟨A,rfl⟩:=List.getLast?_eq_some_iff.1 hx;rw [zds.1,zds.2]
theorem zjs (l:List UInt8):wds l=wdsI l++[wdsL l]:=ztz (wds_ne l)
theorem zvr (l:List UInt8):wdsI (l++[32])=wds l:=by unfold wdsI;rw [zpc];simp
theorem zuq (l:List UInt8):wdsL (l++[32])=[]:=by unfold wdsL;rw [zpc];simp
theorem zpf (l:List UInt8) {c:UInt8} (hc:c≠32):wds (l++[c])=wdsI l++[wdsL l++[c]]:=by
 induction l with
 | nil=>simp [wds,wdsI,wdsL,hc,conW]
 | cons b l ih=>
  rw [List.cons_append,wds,ih];by_cases hb:b=32
  ·rw [if_pos hb];have e:wds (b :: l)=[] :: (wdsI l++[wdsL l]):=by rw [wds,if_pos hb,← zjs]
   show _=(wds (b :: l)).dropLast++[((wds (b :: l)).getLast?).getD []++[c]]
   rw [e,show [] :: (wdsI l++[wdsL l])=([] :: wdsI l)++[wdsL l] from rfl,zds.1,zds.2];rfl
  ·rw [if_neg hb];have e:wds (b :: l)=conW b (wdsI l++[wdsL l]):=by rw [wds,if_neg hb,← zjs]
   show _=(wds (b :: l)).dropLast++[((wds (b :: l)).getLast?).getD []++[c]]
   rw [e];cases wdsI l with
   | nil=>simp [conW]
   | cons x t=>
    show _=(((b :: x) :: t)++[wdsL l]).dropLast++[((((b :: x) :: t)++[wdsL l]).getLast?).getD []++[c]]
    rw [zds.1,zds.2];rfl
theorem zvf (l:List UInt8) {c:UInt8} (hc:c≠32):wdsI (l++[c])=wdsI l:=by
 show (wds (l++[c])).dropLast=_
 rw [zpf l hc];simp
theorem zth (l:List UInt8) {c:UInt8} (hc:c≠32):wdsL (l++[c])=wdsL l++[c]:=by
 show ((wds (l++[c])).getLast?).getD []=_
 rw [zpf l hc];simp
theorem zpk (b c:UInt8) (l:List UInt8) (h:b≠c):Lib.index (b :: l) [c]=if Lib.index l [c] == -1 then -1 else Lib.index l [c]+1:=by
 have hp:List.isPrefixOf [c] (b :: l)=false:=by simp [List.isPrefixOf,Ne.symm h]
 rw [Lib.index,hp];simp
theorem zob:∀ l:List UInt8,Lib.splitK [32] 0 (Lib.count l [32]) l=wds l
 | []=>by rw [Lib.count_miss (by simp [Lib.index])];rfl
 | b :: l=>by
  have ih:=zob l;by_cases hb:b=32
  ·subst hb;have hix:Lib.index (32 :: l) [32]=((0:Nat):Int):=by rw [Lib.index];simp [List.isPrefixOf]
   rw [Lib.count_cons_eq,Nat.add_comm,Lib.splitK,hix,wds,if_pos rfl];simp [ih]
  ·have hix:=zpk b 32 l hb;have hct:Lib.count (b :: l) [32]=Lib.count l [32]:=by rw [Lib.count_one,Lib.count_one,List.count_cons_of_ne (by simpa using hb)]
   rw [hct,wds,if_neg hb,← ih];by_cases hm:Lib.index l [32]=-1
   ·rw [Lib.count_miss hm];rfl
   ·obtain ⟨j,hj⟩:∃ j:Nat,Lib.index l [32]=j:=⟨(Lib.index l [32]).toNat,by have:=Lib.index_ge l [32];omega⟩
    rw [hj] at hix;rw [if_neg (by intro e;have:=beq_iff_eq.1 e;omega)] at hix
    rw [Lib.count_hit (by simp) hj,Nat.add_comm,Lib.splitK,Lib.splitK,hj,hix]
    rw [if_neg (by intro e;have:=beq_iff_eq.1 e;omega),if_neg (by intro e;have:=beq_iff_eq.1 e;omega)]
    have e1:((j:Int)+1).toNat=j+1:=by omega
    have e2:((j:Int)).toNat=j:=by omega
    rw [e1,e2];simp only [conW,Nat.add_zero,List.length_singleton,List.take_succ_cons,List.drop_succ_cons]
theorem wds_words (t:ByteArray):(wordsB t).map (·.data.toList)=wds t.data.toList:=by
 unfold wordsB;rw [Lib.splitB_data];exact zob _
set_option maxRecDepth 100000
namespace Sn
def p0:List Ln:=[⟨1,0,3,0⟩,⟨3,0,0,0⟩]
def p1:List Ln:=[⟨1,0,4,0⟩,⟨3,0,0,0⟩]
def t0:Tst:=⟨.nilIface,[0,0,0,0],0,8⟩
def x0:List Ed:=[⟨0,⟨1,0,4,0⟩⟩]
def o0:ByteArray:=⟨#[116,101,115,116,32,48,32,48,32,48,32,48,32,48,32,56]⟩
def o1:ByteArray:=⟨#[99,104,101,99,107]⟩
def o2:ByteArray:=⟨#[102,105,120]⟩
def o3:ByteArray:=⟨#[99,104,101,99,107]⟩
def o4:ByteArray:=⟨#[108,111,99,107,32,48]⟩
def o5:ByteArray:=⟨#[112,117,116,32,49,32,48,32,48,32,48,32,48]⟩
def o6:ByteArray:=⟨#[117,110,100,111]⟩
def ords:List ByteArray:=[o0,o1,o2,o3,o4,o5,o6]
def wants:List Int:=[0,7,0,0,0,6,6]
theorem num_0:numW ⟨#[48]⟩=some 0:=by
 unfold numW;rw [show Lib.atoiAll (⟨#[48]⟩:ByteArray).data.toList=.ok 0 from rfl];simp [Lib.itoa,Lib.decDigits]
theorem num_1:numW ⟨#[49]⟩=some 1:=by
 unfold numW;rw [show Lib.atoiAll (⟨#[49]⟩:ByteArray).data.toList=.ok 1 from rfl];simp [Lib.itoa,Lib.decDigits]
theorem num_8:numW ⟨#[56]⟩=some 8:=by
 unfold numW;rw [show Lib.atoiAll (⟨#[56]⟩:ByteArray).data.toList=.ok 8 from rfl];simp [Lib.itoa,Lib.decDigits]
theorem words0:wordsB o0=[wTest,⟨#[48]⟩,⟨#[48]⟩,⟨#[48]⟩,⟨#[48]⟩,⟨#[48]⟩,⟨#[56]⟩]:=by decide +kernel
theorem parse0:parseB o0=some (2,[0,0,0,0,0,8]):=by
 unfold parseB;rw [words0];simp only [show formB wTest=some (2,6) from by decide +kernel]
 rw [if_neg (by decide +kernel)]
 simp [numsW,num_0,num_8]
theorem words1:wordsB o1=[wCheck]:=by decide +kernel
theorem parse1:parseB o1=some (6,[]):=by
 unfold parseB;rw [words1];simp only [show formB wCheck=some (6,0) from by decide +kernel]
 rw [if_neg (by decide +kernel)]
 simp [numsW]
theorem words2:wordsB o2=[wFix]:=by decide +kernel
theorem parse2:parseB o2=some (5,[]):=by
 unfold parseB;rw [words2];simp only [show formB wFix=some (5,0) from by decide +kernel]
 rw [if_neg (by decide +kernel)]
 simp [numsW]
theorem words3:wordsB o3=[wCheck]:=by decide +kernel
theorem parse3:parseB o3=some (6,[]):=by
 unfold parseB;rw [words3];simp only [show formB wCheck=some (6,0) from by decide +kernel]
 rw [if_neg (by decide +kernel)]
 simp [numsW]
theorem words4:wordsB o4=[wLock,⟨#[48]⟩]:=by decide +kernel
theorem parse4:parseB o4=some (4,[0]):=by
 unfold parseB;rw [words4];simp only [show formB wLock=some (4,1) from by decide +kernel]
 rw [if_neg (by decide +kernel)]
 simp [numsW,num_0]
theorem words5:wordsB o5=[wPut,⟨#[49]⟩,⟨#[48]⟩,⟨#[48]⟩,⟨#[48]⟩,⟨#[48]⟩]:=by decide +kernel
theorem parse5:parseB o5=some (0,[1,0,0,0,0]):=by
 unfold parseB;rw [words5];simp only [show formB wPut=some (0,5) from by decide +kernel]
 rw [if_neg (by decide +kernel)]
 simp [numsW,num_0,num_1]
theorem words6:wordsB o6=[wUndo]:=by decide +kernel
theorem parse6:parseB o6=some (1,[]):=by
 unfold parseB;rw [words6];simp only [show formB wUndo=some (1,0) from by decide +kernel]
 rw [if_neg (by decide +kernel)]
 simp [numsW]
def s1:Bn:=⟨[p0],[],[t0],[],0,0,[o0]⟩
def s3:Bn:=⟨[p0,p1],[x0],[t0],[],1,0,[o0,o2]⟩
def s4:Bn:=⟨[p0,p1],[x0],[t0],[],1,1,[o0,o2,o3]⟩
def s5:Bn:=⟨[p0,p1],[x0],[t0],[0],1,1,[o0,o2,o3,o4]⟩
def stN (k:Nat):Bn:=(([newB p0,s1,s1,s3,s4,s5,s5,s5]:List Bn)[k]?).getD s5
theorem every0:everyN p0 [t0] (candAt p0 ((0:Nat):Int)) 2=x0:=by kernel_rfl
theorem sngl0:SnglP p0 [t0] ((0:Nat):Int) ⟨0,⟨1,0,4,0⟩⟩ true:=by
 refine .inr ⟨rfl,by kernel_rfl,0,?_,?_⟩
 ·show (everyN p0 [t0] (candAt p0 ((0:Nat):Int)) 2)[0]?=_
  rw [every0];rfl
 ·show FirstMin ((everyN p0 [t0] (candAt p0 ((0:Nat):Int)) 2).map (size1 p0)) 0 _
  rw [every0];refine ⟨rfl,fun i s hs=>?_⟩;cases i with
  | zero=>simp [x0] at hs;omega
  | succ i=>simp [x0] at hs
theorem rep0:RepP p0 [t0] x0 ((0:Nat):Int) true:=
 .inr ⟨by kernel_rfl,.inl ⟨0,by decide,rfl,rfl,fun k' hk=>absurd hk (Nat.not_lt_zero _),_,rfl,sngl0⟩⟩
theorem fix0:fixX p0 [t0]=some x0:=by rw [zql rep0];rfl
theorem do0:doB (newB p0) o0=(0,s1):=by unfold doB;rw [parse0];kernel_rfl
theorem do1:doB s1 o1=(7,s1):=by unfold doB;rw [parse1];kernel_rfl
theorem fixBn1:fixBn s1=(0,{ s3 with orders:=[o0] }):=by
 unfold fixBn;rw [show fixX s1.prog s1.tests=some x0 from fix0]
 kernel_rfl
theorem do2:doB s1 o2=(0,s3):=by
 unfold doB;rw [parse2];dsimp only;rw [show execB s1 5 []=fixBn s1 from rfl,fixBn1]
 kernel_rfl
theorem do3:doB s3 o3=(0,s4):=by unfold doB;rw [parse3];kernel_rfl
theorem do4:doB s4 o4=(0,s5):=by unfold doB;rw [parse4];kernel_rfl
theorem do5:doB s5 o5=(6,s5):=by unfold doB;rw [parse5];kernel_rfl
theorem do6:doB s5 o6=(6,s5):=by unfold doB;rw [parse6];kernel_rfl
theorem do_at (k:Nat) (t:ByteArray) (e:Int) (ht:ords[k]?=some t) (he:wants[k]?=some e):doB (stN k) t=(e,stN (k+1)):=by
 rcases k with _ | _ | _ | _ | _ | _ | _ | k
 ·obtain rfl:=Option.some.inj ht;obtain rfl:=Option.some.inj he;exact do0
 ·obtain rfl:=Option.some.inj ht;obtain rfl:=Option.some.inj he;exact do1
 ·obtain rfl:=Option.some.inj ht;obtain rfl:=Option.some.inj he;exact do2
 ·obtain rfl:=Option.some.inj ht;obtain rfl:=Option.some.inj he;exact do3
 ·obtain rfl:=Option.some.inj ht;obtain rfl:=Option.some.inj he;exact do4
 ·obtain rfl:=Option.some.inj ht;obtain rfl:=Option.some.inj he;exact do5
 ·obtain rfl:=Option.some.inj ht;obtain rfl:=Option.some.inj he;exact do6
 ·simp [ords] at ht
theorem val0:valP p0=0:=by kernel_rfl
theorem okN:∀ k,k≤7→OkB (stN k)
 | 0,_=>OkB.new val0
 | k+1,h=>by
  obtain ⟨t,ht⟩:∃ t,ords[k]?=some t:=⟨_,List.getElem?_eq_getElem (by show k<7;omega)⟩
  obtain ⟨e,he⟩:∃ e,wants[k]?=some e:=⟨_,List.getElem?_eq_getElem (by show k<7;omega)⟩
  have:=(okN k (by omega)).do t
  rw [do_at k t e ht he] at this;exact this
theorem prog7:(stN 7).prog=p1:=rfl
end Sn
end Go.Proofs.YtmeejlgnhfkeaaaGreatDoor
