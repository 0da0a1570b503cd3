/- Parts. -/
import Derived.Test.YtmeejlgnhfkeaaaGreatDoorR39
import Derived.RegionTactic
import Derived.Deep.RegionHeld3
import Derived.Test.YtmeejlgnhfkeaaaGreatDoorR04
import Derived.Test.YtmeejlgnhfkeaaaGreatDoorR36
import Derived.Test.YtmeejlgnhfkeaaaGreatDoorR27
import Derived.BigQuiet
namespace Go.Proofs.YtmeejlgnhfkeaaaGreatDoor
open Go.RowKit Go.Proofs.Tryz
set_option maxRecDepth 100000
set_option maxHeartbeats 4000000
theorem zwu (l:List ByteArray) (v:Value) (w:World) (hg:Glob w) (hl:TextsAt w v l) (hsz:∀ t∈l,t.size≤1000000) (hn:l.length≤100000) (R:Ending→World→Prop)
  (hR:∀ w',Grow w w'→R (.returned (.string (tb (bkS l)))) w') :
  Calls Tryz.prog 20 #[v] w R:=by
 have HR:=jH hR;have HG:=jH hg;have HL:=jH hl;have HSZ:=jH hsz;obtain ⟨va,vc,rfl,v1,v2,jk⟩:=hl;clear hR hg hsz jk
 go_enter func20,ntmps20
 go_wp2_with fail
 go_loopw [3,4,5] (fun s3 s4 s5 wr=>∃ k:Nat,k≤l.length∧s5=.int .i64 k∧s4=.int .i64 (bkQ (l.take k))∧s3=.string (tb (bkS (l.take k)))∧Grow w wr) (fun _ _ s5 _=>l.length - (intOf s5).toNat)
 case atStart=>exact ⟨0,Nat.zero_le _,rfl,rfl,rfl,Grow.refl w⟩
 case round=>
  obtain ⟨k,hk,rfl,rfl,rfl,hg⟩:=hrel;have HGR:=jH hg;have hbl:=zja l HSZ.out k hk;clear hg;by_cases hlt:k<l.length
  ·have hltz:(k:Int)<(l.length:Int):=by omega
   obtain ⟨t,ht⟩:∃ t,l[k]?=some t:=⟨_,List.getElem?_eq_getElem hlt⟩;obtain ⟨b,o,rfl,hb,y0⟩:=zcq (HL.out.grow HGR.out) ht;obtain ⟨q,hq⟩:∃ q,bkQ (l.take k)=q:=⟨_,rfl⟩;obtain ⟨q0,q1⟩:=zwz (l.take k);obtain ⟨e1,e2⟩:=zqj ht;have hts:=HSZ.out t (List.mem_of_getElem? ht);have htl:(dl t).length=t.size:=(zhl t).symm;obtain ⟨s0,s1⟩:=Bk.sumL_bd (dl t) (hq ▸ q0) (hq ▸ q1);rw [hq] at q0 q1 e1 e2 ⊢;obtain ⟨out,hout⟩:∃ z,bkS (l.take k)=z:=⟨_,rfl⟩;rw [hout] at e2 hbl ⊢;obtain ⟨sm,hsm⟩:∃ z,Bk.sumL q (dl t)=z:=⟨_,rfl⟩;rw [hsm] at e1 e2 s0 s1;have HE1:=jH e1;have HE2:=jH e2;have HSM:=jH (show Bk.sumL q t.data.toList=sm from hsm);clear ht e1 e2 hq hout hsm;go_wp2_with fail;refine rSum_any q t _ (by omega) _ ?_
   intro w1 hg1;rw [Bk.sumS_of q0 q1,HSM.out];have HG1:=jH (HGR.out.trans hg1);have y1:=Grow.cell hg1 y0;have hil:=Lib.itoa_length_le sm (by omega) (by omega)
   have htbo:=zck out;clear hg1;go_wp2_with fail;refine wp_region_held_drew (S:=fun X=>Grow w1 X) (by kernel_rfl) ((Grow.refl w1).drew) (fun hH=>?_)
   refine tkA 0 (.string (tb out)) rfl ?_ hH ?_
   ·intro w9 hw9;go_simp
   try simp only [nrm]
   refine tkA 1 (.int .i64 sm) rfl ?_ hH ?_
   ·intro w9 hw9;go_simp
   try simp only [nrm]
   refine tkA 4 (.slice (some ⟨b,o,none⟩) l.length vc) rfl ?_ hH ?_
   ·intro w9 hw9;go_simp
   try simp only [nrm]
   refine tkA 5 (.int .i64 k) rfl ?_ hH ?_
   ·intro w9 hw9;go_simp
   try simp only [nrm]
   refine tkA 6 (.pointer (some ⟨b,o+k,none⟩)) rfl ?_ hH ?_
   ·intro w9 hw9;go_simp
   try simp only [nrm]
   refine tkA 7 (.string t) rfl ?_ hH ?_
   ·intro w9 hw9;have y9:=Grow.cell hw9 y1;go_simp
   try simp only [nrm]
   refine tk1 2 rfl fun K hK=>?_;go_simp;refine zho sm (by omega) (by omega) _ (HG.out.grow (HG1.out.trans hH)) _ ?_
   intro w2 hg2;go_wp2_with fail;refine hK.out _ _ (hH.trans hg2) ?_;clear hK K hH;intro hH;try simp only [nrm]
   clear hg2;refine tkA 3 (.string ((⟨(Lib.itoa sm).toArray⟩:ByteArray)++⟨#[32]⟩)) rfl ?_ hH ?_
   ·intro w9 hw9;go_simp;omega
   try simp only [nrm]
   refine tkA 8 (.string ((⟨(Lib.itoa sm).toArray⟩:ByteArray)++⟨#[32]⟩++t)) rfl ?_ hH ?_
   ·intro w9 hw9;go_simp;omega
   try simp only [nrm]
   refine tkA 9 (.string ((⟨(Lib.itoa sm).toArray⟩:ByteArray)++⟨#[32]⟩++t++⟨#[10]⟩)) rfl ?_ hH ?_
   ·intro w9 hw9;go_simp;omega
   try simp only [nrm]
   refine tkA 10 (.string (tb out++((⟨(Lib.itoa sm).toArray⟩:ByteArray)++⟨#[32]⟩++t++⟨#[10]⟩))) rfl ?_ hH ?_
   ·intro w9 hw9;go_simp;omega
   try simp only [nrm]
   refine tkA 11 (.string (tb out++((⟨(Lib.itoa sm).toArray⟩:ByteArray)++⟨#[32]⟩++t++⟨#[10]⟩))) rfl ?_ hH ?_
   ·intro w9 hw9;go_simp
   try simp only [nrm]
   refine wpAnyH_done (by kernel_rfl) ?_ _
   have HG2:=jH (HG1.out.trans hH);clear hH;rw [zya,zmm];go_wp2_with fail;go_roundw
   case rel=>exact ⟨k+1,by omega,by go_num,by rw [HE1.out],by rw [HE2.out];rfl,HG2.out⟩
   case measure=>simp [intOf];omega
  ·have hk2:k=l.length:=by omega
   subst hk2;have hltz:¬ (l.length:Int)<(l.length:Int):=by omega
   have hf:=HR.out wr HGR.out;rw [List.take_length];have HF:=jH hf;clear hf;go_wp2_with fail;exact HF.out
theorem zif (l:List UInt8) (i j:Nat):(tb l).extract i j=tb ((l.take j).drop i):=by
 apply tx_eq
 rw [zbt];simp [tb,ByteArray.data_extract,List.drop_take]
theorem ziz (l:List UInt8) (j:Nat) (h:j<(tb l).size):l[j]?=some ((tb l)[j]):=by
 have h2:j<l.length:=by rwa [zck] at h
 rw [List.getElem?_eq_getElem h2];rfl
theorem zyi {c:UInt8} {n:Nat} (hn:n<256) (h:c≠UInt8.ofNat n):(((c.toNat:Nat):Int) != (n:Int))=true:=by
 rw [bne_iff_ne];intro e;refine h (UInt8.toNat_inj.1 ?_);rw [UInt8.toNat_ofNat'];omega
theorem tb_nil:(tb []).toList=[]:=by rw [Lib.toList_data,zbt]
end Go.Proofs.YtmeejlgnhfkeaaaGreatDoor
