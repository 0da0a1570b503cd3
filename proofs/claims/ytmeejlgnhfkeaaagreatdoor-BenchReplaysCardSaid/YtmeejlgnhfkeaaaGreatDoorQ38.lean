/- Parts. -/
import Derived.Test.YtmeejlgnhfkeaaaGreatDoorQ37
import Derived.Test.YtmeejlgnhfkeaaaGreatDoorQ23
import Derived.BigQuiet
import Derived.Test.YtmeejlgnhfkeaaaGreatDoorQ13
import Derived.Test.YtmeejlgnhfkeaaaGreatDoorQ25
import Derived.Test.YtmeejlgnhfkeaaaGreatDoorQ06
import Derived.Lib.ItoaLen
import Derived.Lib.IndexAny
namespace Go.Proofs.YtmeejlgnhfkeaaaGreatDoor
open Go.RowKit Go.Proofs.Tryz
set_option maxHeartbeats 4000000
theorem byte10 {c:UInt8} (h:c.toNat=10):c=10:=UInt8.toNat_inj.1 h
theorem zwc (t:ByteArray) (w:World) (ht:t.size≤9223372036854775807) (R:Ending→World→Prop)
  (hR:∀ w',Grow w w'→R (.returned (.bool (Bk.okT t.data.toList))) w') :
  Calls Tryz.prog 85 #[.string t] w R:=by
 have HR:=jH hR;have HSZ:=jH (zfw t);clear hR
 go_enter func85,ntmps85
 go_wp2_with fail
 go_loopw [3] (fun s3 wr=>∃ k:Nat,k≤t.size∧s3=.int .i64 k∧Grow w wr∧∀ c∈t.data.toList.take k,c≠10) (fun s3 _=>t.size - (intOf s3).toNat)
 case atStart=>exact ⟨0,Nat.zero_le _,rfl,Grow.refl _,by simp⟩
 case round=>
  obtain ⟨k,hk,rfl,hg,hno⟩:=hrel;have HG:=jH hg;have HNO:=jH hno;clear hg hno;by_cases hlt:k<t.size
  ·have hlt2:(k:Int)<(t.size:Int):=by omega
   obtain ⟨c,hc⟩:∃ c,t[k]=c:=⟨_,rfl⟩;have hget:t.data.toList[k]?=some c:=by
    rw [Array.getElem?_toList,Array.getElem?_eq_getElem hlt,← hc];rfl
   have HGET:=jH hget;by_cases h10:c=10
   ·subst h10;have hr:=HR.out wr HG.out;rw [show Bk.okT t.data.toList=false by
     rw [← Bool.not_eq_true,Bk.okT_iff];rintro ⟨_,_,h⟩;exact h (List.mem_of_getElem? HGET.out)] at hr
    have HF:=jH hr;clear hr hget;go_wp2_with fail;exact HF.out
   ·have hcn:((c.toNat:Nat):Int)≠10:=fun h=>h10 (byte10 (by omega))
    have hcb:(((c.toNat:Nat):Int) == 10)=false:=beq_eq_false_iff_ne.2 hcn;clear hget;go_wp2_with fail;go_roundw
    case rel=>
     refine ⟨k+1,by omega,by go_num,HG.out,fun d hd=>?_⟩
     rw [List.take_add_one,HGET.out] at hd;rcases List.mem_append.1 hd with hd | hd
     ·exact HNO.out d hd
     ·simp at hd;subst hd;exact h10
    case measure=>simp [intOf];omega
  ·have hk2:k=t.size:=by omega
   subst hk2;have hno:(10:UInt8) ∉ t.data.toList:=fun h=>by
    have:=HNO.out;rw [HSZ.out,List.take_length] at this;exact this 10 h rfl
   have hr:=HR.out wr HG.out;rw [show Bk.okT t.data.toList=(decide (1≤t.size) && decide (t.size≤30)) by
    unfold Bk.okT;rw [← HSZ.out,show t.data.toList.contains 10=false by rw [← Bool.not_eq_true,List.contains_iff_mem];exact hno]
    simp] at hr
   have HF:=jH hr;clear hr hno;by_cases h1:1≤t.size
   ·have h1z:(1:Int)≤(t.size:Int):=by omega
    by_cases h2:t.size≤30
    ·have h2z:(t.size:Int)≤30:=by omega
     have hf:=HF.out;rw [decide_eq_true h1,decide_eq_true h2] at hf;have HF2:=jH hf;clear hf;go_wp2_with fail;exact HF2.out
    ·have h2z:¬ (t.size:Int)≤30:=by omega
     have hf:=HF.out;rw [decide_eq_true h1,decide_eq_false h2] at hf;have HF2:=jH hf;clear hf;go_wp2_with fail;exact HF2.out
   ·have h1z:¬ (1:Int)≤(t.size:Int):=by omega
    have hf:=HF.out;rw [decide_eq_false h1] at hf;have HF2:=jH hf;clear hf;go_wp2_with fail;exact HF2.out
set_option maxHeartbeats 2000000
set_option maxRecDepth 100000
theorem zsh:(Tryz.prog.info? 140).map (·.size)=some 2:=by kernel_rfl
theorem bld_lies:liesAt Tryz.prog Tryz.prog.depth 140 (2 / Tryz.prog.cellsOf 140) 0 140 1=true:=by kernel_rfl
theorem bld_byte:(Tryz.prog.info? 5).map (fun i=>(i.zero,i.size,i.bytes))=some (some (.int .u8 0),1,1):=by kernel_rfl
theorem zlg (b:Nat) (w:World) (h0:w.cell? ⟨b,0,none⟩=some (.pointer (some ⟨b,0,none⟩))) :
  Calls Tryz.prog 130 #[.pointer (some ⟨b,0,none⟩)] w fun e w'=>e=.returned (.tuple #[])∧w'=w:=by
 obtain ⟨j,hj,_⟩:=Option.map_eq_some_iff.1 zsh
 go_enter func130,ntmps130
 go_wp2
 rw [Lib.run_neq_ptr_same w _ underlying137 hj]
 go_wp2
 go_end0
 exact ⟨rfl,rfl⟩
theorem zju (b:Nat) (w:World) (h0:w.cell? ⟨b,0,none⟩=some (.pointer none)) (hsh:w.shape? b=some (140,2)) (hfz:w.frozen? ⟨b,0,none⟩=false) :
  Calls Tryz.prog 130 #[.pointer (some ⟨b,0,none⟩)] w fun e w'=>e=.returned (.tuple #[])∧w'=w.setCell ⟨b,0,none⟩ (.pointer (some ⟨b,0,none⟩)):=by
 obtain ⟨j,hj,hjs⟩:=Option.map_eq_some_iff.1 zsh
 go_enter func130,ntmps130
 go_wp2
 rw [Lib.run_to_unsafe w ⟨b,0,none⟩ underlying137 underlying160 hj (by rw [hjs];decide) hsh (Nat.zero_lt_succ 1)]
 simp only [Result.andThen];rw [Oper.upon_value]
 go_wp2
 rw [run_callFunc_extern func179 (by kernel_rfl) (by kernel_rfl) (by kernel_rfl) (e:=Extern.AbiNoEscape.same) (by kernel_rfl)]
 rw [Lib.run_noEscape];simp only [Result.andThen];rw [Oper.upon_value]
 go_wp2
 rw [Lib.run_from_unsafe w ⟨b,0,none⟩ underlying160 underlying137 hj hsh bld_lies];simp only [Result.andThen];rw [Oper.upon_value]
 go_wp2
 go_end0
 exact ⟨rfl,rfl⟩
theorem znu (B b:Nat) (bs:List Value) (w:World) (h:Lib.IsBuilder 140 5 B b bs w) :
  Calls Tryz.prog 130 #[.pointer (some ⟨b,0,none⟩)] w fun e w'=>e=.returned (.tuple #[])∧(Lib.BuilderAt 140 5 B b (.pointer (some ⟨b,0,none⟩)) bs w'∧Below B w w'):=by
 rcases h with h | h
 ·refine (zju b w h.cell0 h.shape h.frozen0).mono ?_;rintro e w' ⟨rfl,rfl⟩;exact ⟨rfl,h.used _,(Below.refl B w).setCell (p:=⟨b,0,none⟩) h.1 _⟩
 ·refine (zlg b w h.cell0).mono ?_;rintro e w' ⟨rfl,rfl⟩;exact ⟨rfl,h,Below.refl B _⟩
theorem zkl (B b:Nat) (bs:List Value) (s:ByteArray) (w:World) (h:Lib.IsBuilder 140 5 B b bs w) (hlen:bs.length+s.size≤140737488355328) (hBw:B≤w.heap.size) :
  Calls Tryz.prog 82 #[.pointer (some ⟨b,0,none⟩),.string s] w fun e w'=>e=.returned (.tuple #[.int .i64 s.size,.nilIface])∧(Lib.BuilderAt 140 5 B b (.pointer (some ⟨b,0,none⟩)) (bs++Lib.strCells s) w'∧Below B w w'):=by
 obtain ⟨i0,hi,hz0,hz1,hz2⟩:=info_parts bld_byte
 go_enter func82,ntmps82
 go_wp2_with (go_at_call 130;refine (znu B b bs _ h).mono ?_);rintro e w1 ⟨rfl,h1,hb1⟩;obtain ⟨hB,v,hbk,hown,hne⟩:=h1;have c0:w1.cell? ⟨b,0,none⟩=some (.pointer (some ⟨b,0,none⟩)):=by rw [Lib.cell_of_heap hbk];rfl
 have c1:w1.cell? ⟨b,1,none⟩=some v:=by rw [Lib.cell_of_heap hbk];rfl
 go_wp2_with (at_builtin;refine Lib.wpList_append_own_string _ rfl _ _ 138 9 rfl B 5 i0 underlying138 underlying9 hi hz0 hz1 hz2 _ _ _ rfl hown s rfl ?c3 ?c4 ?c5 ?_)
 case c3=>unfold maxLen;omega
 case c4=>omega
 case c5=>have:=hb1.size;omega
 intro v' w2 hown' hgrow _;have hlt:b<w1.heap.size:=by
  rcases Nat.lt_or_ge b w1.heap.size with h' | h'
  ·exact h'
  ·simp [Array.getElem?_eq_none h'] at hbk
 have hb2:w2.heap[b]?=some (.cells #[.pointer (some ⟨b,0,none⟩),v] 140 (0,0)):=by
  rw [hgrow.block b hlt (fun e=>hne e.symm)];exact hbk
 have d0:w2.cell? ⟨b,0,none⟩=some (.pointer (some ⟨b,0,none⟩)):=by rw [Lib.cell_of_heap hb2];rfl
 have d1:w2.cell? ⟨b,1,none⟩=some v:=by rw [Lib.cell_of_heap hb2];rfl
 have f1:w2.frozen? ⟨b,1,none⟩=false:=Lib.frozen_of_heap hb2 1;obtain ⟨ao,n',cap,rfl⟩:∃ ao n' cap,v'=.slice ao n' cap:=by
  rcases hown'.2 with ⟨hv,_⟩ | ⟨g,cap,cur,hv,_⟩
  ·exact ⟨_,_,_,hv⟩
  ·exact ⟨_,_,_,hv⟩
 go_wp2
 go_ret2
 refine ⟨rfl,?_,?_⟩
 ·exact Lib.BuilderAt.put (T:=140) (e:=5) hB hb2 (bs':=bs++Lib.strCells s) (by simpa [Lib.strCells_length] using hown') (by decide)
 ·exact (hb1.grown hgrow (by have:=hb1.size;omega) (fun k hk=>(hown.lt k hk).1)).setCell (p:=⟨b,1,none⟩) hB _
set_option maxHeartbeats 2000000
def tb (l:List UInt8):ByteArray:=⟨l.toArray⟩
theorem zbo (l:List UInt8):(tb l).data.toList=l:=by simp [tb]
theorem tb_of (t:ByteArray):tb t.data.toList=t:=by cases t;simp [tb]
theorem zbr (l:List UInt8):(tb l).size=l.length:=by rw [zfw,zbo]
theorem zmu (a b:List UInt8):tb a++tb b=tb (a++b):=by
 apply tx_eq
 rw [zbo];simp [tb,ByteArray.data_append]
theorem zzp (q:Int) (t:ByteArray):(⟨(Lib.itoa q).toArray⟩:ByteArray)++⟨#[32]⟩++t++⟨#[10]⟩=tb (Bk.lineL q t.data.toList):=by
 have h1:(⟨(Lib.itoa q).toArray⟩:ByteArray)=tb (Lib.itoa q):=rfl;have h2:(⟨#[32]⟩:ByteArray)=tb [32]:=rfl;have h3:(⟨#[10]⟩:ByteArray)=tb [10]:=rfl;have h4:=tb_of t;rw [h1,h2,h3,← h4,zmu,zmu,zmu,zbo];unfold Bk.lineL;simp
theorem zsn (b:Int) (t:ByteArray) (ht:t.size≤1000000000000) (w:World) (hg:Glob w) (R:Ending→World→Prop)
  (hR:∀ w',Grow w w'→R (.returned (.tuple #[.string (tb (Bk.lineL (Bk.sumS b t.data.toList) t.data.toList)),.int .i64 (Bk.sumS b t.data.toList)])) w') :
  Calls Tryz.prog 58 #[.int .i64 b,.string t] w R:=by
 have HR:=jH hR;have HG:=jH hg;obtain ⟨q,hq⟩:∃ q,Bk.sumS b t.data.toList=q:=⟨_,rfl⟩;obtain ⟨hq0,hq1⟩:=Bk.sumS_bd b t.data.toList;rw [hq] at hq0 hq1 HR;have HQ:=jH hq;clear hR hg hq
 go_enter func58,ntmps58
 go_wp2_with fail;refine Sum_any b t _ (by omega) _ ?_
 intro w1 hg1;rw [HQ.out];have HG1:=jH hg1;clear hg1;go_wp2_with fail;refine zge q (by omega) (by omega) _ (HG.out.grow HG1.out) _ ?_
 intro w2 hg2;have HF:=jH (HR.out w2 (HG1.out.trans hg2));have hil:=Lib.itoa_length_le q (by omega) (by omega)
 clear hg2;have hf:=HF.out;rw [← zzp] at hf;have HF2:=jH hf;clear hf;go_wp2_with fail;exact HF2.out
theorem zmv (t:ByteArray) (ht:t.size≤1000000000000) (w:World) (R:Ending→World→Prop) (hR:∀ w',Grow w w'→R (.returned (.bool (Bk.okT t.data.toList))) w') :
  Calls Tryz.prog 57 #[.string t] w R:=by
 have hv:Bk.okT t.data.toList=(decide (1≤t.size) && decide (t.size≤30) && !decide (0≤Lib.indexByte t.data.toList 10)):=by
  unfold Bk.okT;rw [← zfw,Lib.contains_iff_indexByte]
 rw [hv] at hR;have HR:=jH hR;clear hR hv;by_cases h1:1≤t.size;rotate_left
 ·have hf:=HR.out w (Grow.refl _);rw [decide_eq_false h1] at hf;have HF:=jH hf;have h1z:decide ((1:Int)≤(t.size:Int))=false:=by rw [decide_eq_false_iff_not];omega
  clear hf
  go_enter func57,ntmps57
  go_wp2_with fail;exact HF.out
 have h1z:decide ((1:Int)≤(t.size:Int))=true:=by rw [decide_eq_true_eq];omega
 rw [decide_eq_true h1] at HR;by_cases h2:t.size≤30;rotate_left
 ·have hf:=HR.out w (Grow.refl _);rw [decide_eq_false h2] at hf;have HF:=jH hf;have h2z:decide ((t.size:Int)≤(30:Int))=false:=by rw [decide_eq_false_iff_not];omega
  clear hf
  go_enter func57,ntmps57
  go_wp2_with fail;exact HF.out
 have h2z:decide ((t.size:Int)≤(30:Int))=true:=by rw [decide_eq_true_eq];omega
 rw [decide_eq_true h2] at HR;have hf:=HR.out w (Grow.refl _);obtain ⟨q,hq⟩:∃ q,decide (0≤Lib.indexByte t.data.toList 10)=q:=⟨_,rfl⟩;rw [hq] at hf;have HQ:=jH hq;have HF:=jH hf;clear hf hq HR
 go_enter func57,ntmps57
 go_wp2_with fail;refine (Tryz.strings_Contains_one t 10 _).mono ?_;rintro e w' ⟨rfl,rfl⟩;rw [HQ.out];go_wp2_with fail;exact HF.out
end Go.Proofs.YtmeejlgnhfkeaaaGreatDoor
