/- Parts. -/
import Derived.Test.YtmeejlgnhfkeaaaGreatDoorR37
import Derived.Test.YtmeejlgnhfkeaaaGreatDoorR23
import Derived.BigQuiet
import Derived.Test.YtmeejlgnhfkeaaaGreatDoorR13
import Derived.Test.YtmeejlgnhfkeaaaGreatDoorR25
import Derived.Test.YtmeejlgnhfkeaaaGreatDoorR06
import Derived.Lib.ItoaLen
import Derived.Lib.IndexAny
namespace Go.Proofs.YtmeejlgnhfkeaaaGreatDoor
open Go.RowKit Go.Proofs.Tryz
set_option maxHeartbeats 4000000
theorem zlm (xs ys:List ByteArray) (v u:Value) (w:World) (hx:TextsAt w v xs) (hy:TextsAt w u ys) (R:Ending→World→Prop)
  (hR:∀ w',Grow w w'→R (.returned (.bool (decide (xs=ys)))) w') :
  Calls Tryz.prog 26 #[v,u] w R:=by
 have HX:=jH hx;have HY:=jH hy;have HR:=jH hR;obtain ⟨va,vc,rfl,v1,v2,jk⟩:=hx;obtain ⟨ua,uc,rfl,u1,u2,jk2⟩:=hy;clear hR jk jk2;by_cases hl:xs.length=ys.length;rotate_left
 ·have hlz:((xs.length:Int) != (ys.length:Int))=true:=by simpa using fun h=>hl (by omega)
  have hr:=HR.out w (Grow.refl _);rw [decide_eq_false (fun e=>hl (by rw [e]))] at hr
  have HF:=jH hr;clear hr hl
  go_enter func26,ntmps26
  go_wp2_with fail;exact HF.out
 have HL:=jH hl;rw [← hl];clear hl
 go_enter func26,ntmps26
 go_wp2_with fail
 go_loopw [5] (fun s3 wr=>∃ k:Nat,k≤xs.length∧s3=.int .i64 k∧Grow w wr∧xs.take k=ys.take k) (fun s3 _=>xs.length - (intOf s3).toNat)
 case atStart=>exact ⟨0,Nat.zero_le _,rfl,Grow.refl _,by simp⟩
 case round=>
  obtain ⟨k,hk,rfl,hg,hno⟩:=hrel;have HG:=jH hg;have HNO:=jH hno;clear hg hno;by_cases hlt:k<xs.length
  ·have hlt2:(k:Int)<(xs.length:Int):=by omega
   obtain ⟨x,hx⟩:∃ x,xs[k]?=some x:=⟨_,List.getElem?_eq_getElem hlt⟩;obtain ⟨y,hy⟩:∃ y,ys[k]?=some y:=⟨_,List.getElem?_eq_getElem (by have:=HL.out;omega)⟩
   obtain ⟨b,o,rfl,hb,e0⟩:=zcq (HX.out.grow HG.out) hx;have hy2:=zcq (HY.out.grow HG.out) hy;obtain ⟨b2,o2,rfl,hb2,f0⟩:=hy2;have HXE:=jH hx;have HYE:=jH hy;clear hx hy;by_cases hxy:x=y
   ·subst hxy;go_wp2_with (go_quiet (fail));go_roundw
    case rel=>
     have ht:xs.take (k+1)=ys.take (k+1):=by rw [List.take_add_one,List.take_add_one,HXE.out,HYE.out,HNO.out]
     exact ⟨k+1,by omega,by go_num,HG.out.drewN _,ht⟩
    case measure=>simp [intOf];omega
   ·have t1:=tx_ne hxy;have hr:=fun n=>HR.out _ (HG.out.drewN n);rw [decide_eq_false (fun e=>hxy (by have h1:=HXE.out;rw [e,HYE.out] at h1;exact (Option.some.inj h1).symm))] at hr
    have HF:=jH hr;clear hr;go_wp2_with (go_quiet (fail));exact HF.out _
  ·have hk2:k=xs.length:=by omega
   subst hk2;have hr:=HR.out wr HG.out;rw [decide_eq_true (by have h1:=HNO.out;rw [List.take_length,HL.out,List.take_length] at h1;exact h1)] at hr
   have HF:=jH hr;clear hr;go_wp2_with fail;exact HF.out
set_option maxHeartbeats 2000000
set_option maxRecDepth 100000
theorem zrt:(Tryz.prog.info? 140).map (·.size)=some 2:=by kernel_rfl
theorem bld_lies:liesAt Tryz.prog Tryz.prog.depth 140 (2 / Tryz.prog.cellsOf 140) 0 140 1=true:=by kernel_rfl
theorem bld_byte:(Tryz.prog.info? 5).map (fun i=>(i.zero,i.size,i.bytes))=some (some (.int .u8 0),1,1):=by kernel_rfl
theorem zlk (b:Nat) (w:World) (h0:w.cell? ⟨b,0,none⟩=some (.pointer (some ⟨b,0,none⟩))) :
  Calls Tryz.prog 130 #[.pointer (some ⟨b,0,none⟩)] w fun e w'=>e=.returned (.tuple #[])∧w'=w:=by
 obtain ⟨j,hj,_⟩:=Option.map_eq_some_iff.1 zrt
 go_enter func130,ntmps130
 go_wp2
 rw [Lib.run_neq_ptr_same w _ underlying137 hj]
 go_wp2
 go_end0
 exact ⟨rfl,rfl⟩
theorem zjh (b:Nat) (w:World) (h0:w.cell? ⟨b,0,none⟩=some (.pointer none)) (hsh:w.shape? b=some (140,2)) (hfz:w.frozen? ⟨b,0,none⟩=false) :
  Calls Tryz.prog 130 #[.pointer (some ⟨b,0,none⟩)] w fun e w'=>e=.returned (.tuple #[])∧w'=w.setCell ⟨b,0,none⟩ (.pointer (some ⟨b,0,none⟩)):=by
 obtain ⟨j,hj,hjs⟩:=Option.map_eq_some_iff.1 zrt
 go_enter func130,ntmps130
 go_wp2
 rw [Lib.run_to_unsafe w ⟨b,0,none⟩ underlying137 underlying160 hj (by rw [hjs];decide) hsh (Nat.zero_lt_succ 1)]
 simp only [Result.andThen];rw [Oper.upon_value]
 go_wp2
 rw [run_callFunc_extern func179 (by kernel_rfl) (by kernel_rfl) (by kernel_rfl) (e:=Extern.AbiNoEscape.same) (by kernel_rfl)]
 rw [Lib.run_noEscape];simp only [Result.andThen];rw [Oper.upon_value]
 go_wp2
 rw [Lib.run_from_unsafe w ⟨b,0,none⟩ underlying160 underlying137 hj hsh bld_lies];simp only [Result.andThen];rw [Oper.upon_value]
 go_wp2
 go_end0
 exact ⟨rfl,rfl⟩
theorem zns (B b:Nat) (bs:List Value) (w:World) (h:Lib.IsBuilder 140 5 B b bs w) :
  Calls Tryz.prog 130 #[.pointer (some ⟨b,0,none⟩)] w fun e w'=>e=.returned (.tuple #[])∧(Lib.BuilderAt 140 5 B b (.pointer (some ⟨b,0,none⟩)) bs w'∧Below B w w'):=by
 rcases h with h | h
 ·refine (zjh b w h.cell0 h.shape h.frozen0).mono ?_;rintro e w' ⟨rfl,rfl⟩;exact ⟨rfl,h.used _,(Below.refl B w).setCell (p:=⟨b,0,none⟩) h.1 _⟩
 ·refine (zlk b w h.cell0).mono ?_;rintro e w' ⟨rfl,rfl⟩;exact ⟨rfl,h,Below.refl B _⟩
theorem zju (B b:Nat) (bs:List Value) (s:ByteArray) (w:World) (h:Lib.IsBuilder 140 5 B b bs w) (hlen:bs.length+s.size≤140737488355328) (hBw:B≤w.heap.size) :
  Calls Tryz.prog 82 #[.pointer (some ⟨b,0,none⟩),.string s] w fun e w'=>e=.returned (.tuple #[.int .i64 s.size,.nilIface])∧(Lib.BuilderAt 140 5 B b (.pointer (some ⟨b,0,none⟩)) (bs++Lib.strCells s) w'∧Below B w w'):=by
 obtain ⟨i0,hi,hz0,hz1,hz2⟩:=info_parts bld_byte
 go_enter func82,ntmps82
 go_wp2_with (go_at_call 130;refine (zns B b bs _ h).mono ?_);rintro e w1 ⟨rfl,h1,hb1⟩;obtain ⟨hB,v,hbk,hown,hne⟩:=h1;have c0:w1.cell? ⟨b,0,none⟩=some (.pointer (some ⟨b,0,none⟩)):=by rw [Lib.cell_of_heap hbk];rfl
 have c1:w1.cell? ⟨b,1,none⟩=some v:=by rw [Lib.cell_of_heap hbk];rfl
 go_wp2_with (at_builtin;refine Lib.wpList_append_own_string _ rfl _ _ 138 9 rfl B 5 i0 underlying138 underlying9 hi hz0 hz1 hz2 _ _ _ rfl hown s rfl ?c3 ?c4 ?c5 ?_)
 case c3=>unfold maxLen;omega
 case c4=>omega
 case c5=>have:=hb1.size;omega
 intro v' w2 hown' hgrow _;have hlt:b<w1.heap.size:=by
  rcases Nat.lt_or_ge b w1.heap.size with h' | h'
  ·exact h'
  ·simp [Array.getElem?_eq_none h'] at hbk
 have hb2:w2.heap[b]?=some (.cells #[.pointer (some ⟨b,0,none⟩),v] 140 (0,0)):=by
  rw [hgrow.block b hlt (fun e=>hne e.symm)];exact hbk
 have d0:w2.cell? ⟨b,0,none⟩=some (.pointer (some ⟨b,0,none⟩)):=by rw [Lib.cell_of_heap hb2];rfl
 have d1:w2.cell? ⟨b,1,none⟩=some v:=by rw [Lib.cell_of_heap hb2];rfl
 have f1:w2.frozen? ⟨b,1,none⟩=false:=Lib.frozen_of_heap hb2 1;obtain ⟨ao,n',cap,rfl⟩:∃ ao n' cap,v'=.slice ao n' cap:=by
  rcases hown'.2 with ⟨hv,_⟩ | ⟨g,cap,cur,hv,_⟩
  ·exact ⟨_,_,_,hv⟩
  ·exact ⟨_,_,_,hv⟩
 go_wp2
 go_ret2
 refine ⟨rfl,?_,?_⟩
 ·exact Lib.BuilderAt.put (T:=140) (e:=5) hB hb2 (bs':=bs++Lib.strCells s) (by simpa [Lib.strCells_length] using hown') (by decide)
 ·exact (hb1.grown hgrow (by have:=hb1.size;omega) (fun k hk=>(hown.lt k hk).1)).setCell (p:=⟨b,1,none⟩) hB _
set_option maxHeartbeats 2000000
def tb (l:List UInt8):ByteArray:=⟨l.toArray⟩
theorem zbt (l:List UInt8):(tb l).data.toList=l:=by simp [tb]
theorem tb_of (t:ByteArray):tb t.data.toList=t:=by cases t;simp [tb]
theorem zck (l:List UInt8):(tb l).size=l.length:=by rw [zhl,zbt]
theorem zmm (a b:List UInt8):tb a++tb b=tb (a++b):=by
 apply tx_eq
 rw [zbt];simp [tb,ByteArray.data_append]
theorem zya (q:Int) (t:ByteArray):(⟨(Lib.itoa q).toArray⟩:ByteArray)++⟨#[32]⟩++t++⟨#[10]⟩=tb (Bk.lineL q t.data.toList):=by
 have h1:(⟨(Lib.itoa q).toArray⟩:ByteArray)=tb (Lib.itoa q):=rfl;have h2:(⟨#[32]⟩:ByteArray)=tb [32]:=rfl;have h3:(⟨#[10]⟩:ByteArray)=tb [10]:=rfl;have h4:=tb_of t;rw [h1,h2,h3,← h4,zmm,zmm,zmm,zbt];unfold Bk.lineL;simp
theorem zsl (b:Int) (t:ByteArray) (ht:t.size≤1000000000000) (w:World) (hg:Glob w) (R:Ending→World→Prop)
  (hR:∀ w',Grow w w'→R (.returned (.tuple #[.string (tb (Bk.lineL (Bk.sumS b t.data.toList) t.data.toList)),.int .i64 (Bk.sumS b t.data.toList)])) w') :
  Calls Tryz.prog 58 #[.int .i64 b,.string t] w R:=by
 have HR:=jH hR;have HG:=jH hg;obtain ⟨q,hq⟩:∃ q,Bk.sumS b t.data.toList=q:=⟨_,rfl⟩;obtain ⟨hq0,hq1⟩:=Bk.sumS_bd b t.data.toList;rw [hq] at hq0 hq1 HR;have HQ:=jH hq;clear hR hg hq
 go_enter func58,ntmps58
 go_wp2_with fail;refine Sum_any b t _ (by omega) _ ?_
 intro w1 hg1;rw [HQ.out];have HG1:=jH hg1;clear hg1;go_wp2_with fail;refine zho q (by omega) (by omega) _ (HG.out.grow HG1.out) _ ?_
 intro w2 hg2;have HF:=jH (HR.out w2 (HG1.out.trans hg2));have hil:=Lib.itoa_length_le q (by omega) (by omega)
 clear hg2;have hf:=HF.out;rw [← zya] at hf;have HF2:=jH hf;clear hf;go_wp2_with fail;exact HF2.out
theorem zlp (t:ByteArray) (ht:t.size≤1000000000000) (w:World) (R:Ending→World→Prop) (hR:∀ w',Grow w w'→R (.returned (.bool (Bk.okT t.data.toList))) w') :
  Calls Tryz.prog 57 #[.string t] w R:=by
 have hv:Bk.okT t.data.toList=(decide (1≤t.size) && decide (t.size≤30) && !decide (0≤Lib.indexByte t.data.toList 10)):=by
  unfold Bk.okT;rw [← zhl,Lib.contains_iff_indexByte]
 rw [hv] at hR;have HR:=jH hR;clear hR hv;by_cases h1:1≤t.size;rotate_left
 ·have hf:=HR.out w (Grow.refl _);rw [decide_eq_false h1] at hf;have HF:=jH hf;have h1z:decide ((1:Int)≤(t.size:Int))=false:=by rw [decide_eq_false_iff_not];omega
  clear hf
  go_enter func57,ntmps57
  go_wp2_with fail;exact HF.out
 have h1z:decide ((1:Int)≤(t.size:Int))=true:=by rw [decide_eq_true_eq];omega
 rw [decide_eq_true h1] at HR;by_cases h2:t.size≤30;rotate_left
 ·have hf:=HR.out w (Grow.refl _);rw [decide_eq_false h2] at hf;have HF:=jH hf;have h2z:decide ((t.size:Int)≤(30:Int))=false:=by rw [decide_eq_false_iff_not];omega
  clear hf
  go_enter func57,ntmps57
  go_wp2_with fail;exact HF.out
 have h2z:decide ((t.size:Int)≤(30:Int))=true:=by rw [decide_eq_true_eq];omega
 rw [decide_eq_true h2] at HR;have hf:=HR.out w (Grow.refl _);obtain ⟨q,hq⟩:∃ q,decide (0≤Lib.indexByte t.data.toList 10)=q:=⟨_,rfl⟩;rw [hq] at hf;have HQ:=jH hq;have HF:=jH hf;clear hf hq HR
 go_enter func57,ntmps57
 go_wp2_with fail;refine (Tryz.strings_Contains_one t 10 _).mono ?_;rintro e w' ⟨rfl,rfl⟩;rw [HQ.out];go_wp2_with fail;exact HF.out
end Go.Proofs.YtmeejlgnhfkeaaaGreatDoor
