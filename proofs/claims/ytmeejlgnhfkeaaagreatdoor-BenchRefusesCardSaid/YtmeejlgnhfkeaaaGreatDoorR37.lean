
import Derived.Test.YtmeejlgnhfkeaaaGreatDoorR36
import Derived.Test.YtmeejlgnhfkeaaaGreatDoorR00
import Derived.Test.YtmeejlgnhfkeaaaGreatDoorRows
namespace Go.Proofs.YtmeejlgnhfkeaaaGreatDoor
open Go.RowKit Go.Proofs.Tryz
set_option maxHeartbeats 4000000
theorem zza (b:Int):(if b.tmod 1000003<0 then b.tmod 1000003+1000003 else b.tmod 1000003)=b % 1000003:=by
 have:=Int.tmod_def b 1000003;have h1:=Int.emod_nonneg b (b:=1000003) (by decide)
 have h2:=Int.emod_lt_of_pos b (b:=1000003) (by decide)
 rw [Int.tmod_eq_emod]
 split<;>split<;>omega
theorem zrf {m q:Int} {t:ByteArray} {k:Nat} (hk:k<t.size) (h0:0≤q) (h1:q<1000003) (hq:Bk.sumL m (t.data.toList.take k)=q) :
  (wrap64 (wrap64 (q * 257+wrap64 ((t[k].toNat:Nat):Int))+1)).tmod 1000003=Bk.sumL m (t.data.toList.take (k+1)):=by
 have hb:t[k].toNat<256:=UInt8.toNat_lt _;have hget:t.data.toList[k]?=some t[k]:=by
  rw [Array.getElem?_toList,Array.getElem?_eq_getElem hk];rfl
 rw [List.take_add_one,hget,Option.toList_some,Bk.sumL_snoc,hq];rw [IntWalk.wrap64_in ((t[k].toNat:Nat):Int) (by omega),IntWalk.wrap64_in (q * 257+((t[k].toNat:Nat):Int)) (by omega),IntWalk.wrap64_in (q * 257+((t[k].toNat:Nat):Int)+1) (by omega),Int.tmod_eq_emod_of_nonneg (by omega)]
theorem Sum_any (b:Int) (t:ByteArray) (w:World) (ht:t.size≤9223372036854775807) (R:Ending→World→Prop)
  (hR:∀ w',Grow w w'→R (.returned (.int .i64 (Bk.sumS b t.data.toList))) w') :
  Calls Tryz.prog 88 #[.int .i64 b,.string t] w R:=by
 have HR:=jH hR;have hst:=zza b;have hm0:=Int.emod_nonneg b (b:=1000003) (by decide)
 have hm1:=Int.emod_lt_of_pos b (b:=1000003) (by decide)
 have hsz:t.size=t.data.toList.length:=by rw [Array.length_toList];rfl
 have HSZ:=jH hsz;obtain ⟨m,hm⟩:∃ m,b % 1000003=m:=⟨_,rfl⟩;obtain ⟨r,hr⟩:∃ r,b.tmod 1000003=r:=⟨_,rfl⟩;rw [hm] at hm0 hm1;rw [hr,hm] at hst;have HM:=jH hm;clear hR hsz hm
 go_enter func88,ntmps88
 by_cases hneg:r<0;all_goals
  first | rw [if_pos hneg] at hst | rw [if_neg hneg] at hst
  go_wp2_with fail
  go_loopw [5,15] (fun s5 s15 wr=>∃ k:Nat,k≤t.size∧s5=.int .i64 (Bk.sumL m (t.data.toList.take k))∧s15=.int .i64 k∧Grow w wr) (fun _ s15 _=>t.size - (intOf s15).toNat)
  case atStart=>exact ⟨0,Nat.zero_le _,by rw [List.take_zero];rfl,rfl,Grow.refl _⟩
  case round=>
   obtain ⟨k,hk,rfl,rfl,hg⟩:=hrel;obtain ⟨q,hq⟩:∃ q,Bk.sumL m (t.data.toList.take k)=q:=⟨_,rfl⟩;obtain ⟨hq0,hq1⟩:=Bk.sumL_bd (t.data.toList.take k) hm0 hm1;rw [hq] at hq0 hq1 ⊢;have HQ:=jH hq;have HG:=jH hg;clear hq hg;by_cases hlt:k<t.size
   ·have hlt2:(k:Int)<(t.size:Int):=by omega
    go_wp2_with fail;rw [zrf hlt hq0 hq1 HQ.out];exact ⟨⟨k+1,by omega,rfl,by go_num,HG.out⟩,by simp [intOf];omega⟩
   ·have hk2:k=t.size:=by omega
    subst hk2;have hr2:=HR.out wr HG.out;rw [show Bk.sumS b t.data.toList=q by unfold Bk.sumS;rw [HM.out,← HQ.out,HSZ.out,List.take_length]] at hr2
    have HF:=jH hr2;clear hr2;go_wp2_with fail;exact HF.out
theorem ztx (b:Int):(b.tmod 1000003+1000003).tmod 1000003=b % 1000003:=by
 have h1:=Int.emod_nonneg b (b:=1000003) (by decide)
 have h2:=Int.emod_lt_of_pos b (b:=1000003) (by decide)
 rw [Int.tmod_eq_emod (a:=b)]
 split
 ·rw [Int.tmod_eq_emod_of_nonneg (by omega)];omega
 ·rw [Int.tmod_eq_emod_of_nonneg (by omega)];omega
theorem rSum_any (b:Int) (t:ByteArray) (w:World) (ht:t.size≤9223372036854775807) (R:Ending→World→Prop)
  (hR:∀ w',Grow w w'→R (.returned (.int .i64 (Bk.sumS b t.data.toList))) w') :
  Calls Tryz.prog 49 #[.int .i64 b,.string t] w R:=by
 have HR:=jH hR;have hst:=ztx b;have hm0:=Int.emod_nonneg b (b:=1000003) (by decide)
 have hm1:=Int.emod_lt_of_pos b (b:=1000003) (by decide)
 have hr0 : -1000003<b.tmod 1000003∧b.tmod 1000003<1000003:=by
  rw [Int.tmod_eq_emod];split<;>omega
 have hsz:t.size=t.data.toList.length:=by rw [Array.length_toList];rfl
 have HSZ:=jH hsz;obtain ⟨m,hm⟩:∃ m,b % 1000003=m:=⟨_,rfl⟩;obtain ⟨r,hr⟩:∃ r,b.tmod 1000003=r:=⟨_,rfl⟩;rw [hm] at hm0 hm1;rw [hr,hm] at hst;rw [hr] at hr0;have hw:wrap64 (r+1000003)=r+1000003:=IntWalk.wrap64_in _ (by omega)
 have HM:=jH hm;clear hR hsz hm
 go_enter func49,ntmps49
 go_wp2_with fail
 go_loopw [5,6] (fun s5 s6 wr=>∃ k:Nat,k≤t.size∧s5=.int .i64 (Bk.sumL m (t.data.toList.take k))∧s6=.int .i64 k∧Grow w wr) (fun _ s6 _=>t.size - (intOf s6).toNat)
 case atStart=>exact ⟨0,Nat.zero_le _,by rw [List.take_zero];first | rfl | (rw [hw,hst];rfl) | (rw [hst];rfl),rfl,Grow.refl _⟩
 case round=>
  obtain ⟨k,hk,rfl,rfl,hg⟩:=hrel;obtain ⟨q,hq⟩:∃ q,Bk.sumL m (t.data.toList.take k)=q:=⟨_,rfl⟩;obtain ⟨hq0,hq1⟩:=Bk.sumL_bd (t.data.toList.take k) hm0 hm1;rw [hq] at hq0 hq1 ⊢;have HQ:=jH hq;have HG:=jH hg;clear hq hg;by_cases hlt:k<t.size
  ·have hlt2:(k:Int)<(t.size:Int):=by omega
   go_wp2_with fail;rw [zrf hlt hq0 hq1 HQ.out];exact ⟨⟨k+1,by omega,rfl,by go_num,HG.out⟩,by simp [intOf];omega⟩
  ·have hk2:k=t.size:=by omega
   subst hk2;have hr2:=HR.out wr HG.out;rw [show Bk.sumS b t.data.toList=q by unfold Bk.sumS;rw [HM.out,← HQ.out,HSZ.out,List.take_length]] at hr2
   have HF:=jH hr2;clear hr2;go_wp2_with fail;exact HF.out
end Go.Proofs.YtmeejlgnhfkeaaaGreatDoor
