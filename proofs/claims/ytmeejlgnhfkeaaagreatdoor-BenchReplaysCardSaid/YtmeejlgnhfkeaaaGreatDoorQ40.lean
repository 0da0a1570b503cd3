/- Parts. -/
import Derived.Test.YtmeejlgnhfkeaaaGreatDoorQ39
import Derived.RegionTactic
import Derived.Deep.RegionHeld3
import Derived.Test.YtmeejlgnhfkeaaaGreatDoorQ04
import Derived.Test.YtmeejlgnhfkeaaaGreatDoorQ36
import Derived.Test.YtmeejlgnhfkeaaaGreatDoorQ27
import Derived.BigQuiet
namespace Go.Proofs.YtmeejlgnhfkeaaaGreatDoor
open Go.RowKit Go.Proofs.Tryz
set_option maxRecDepth 100000
set_option maxHeartbeats 4000000
theorem zkr (l:List ByteArray) (v:Value) (w:World) (hg:Glob w) (hl:TextsAt w v l) (hsz:∀ t∈l,t.size≤1000000) (hn:l.length≤100000) (R:Ending→World→Prop)
  (hR:∀ w',Grow w w'→R (.returned (.string (tb (bkS l)))) w') :
  Calls Tryz.prog 20 #[v] w R:=by
 have HR:=jH hR;have HG:=jH hg;have HL:=jH hl;have HSZ:=jH hsz;obtain ⟨va,vc,rfl,v1,v2,jk⟩:=hl;clear hR hg hsz jk
 go_enter func20,ntmps20
 go_wp2_with fail
 go_loopw [3,4,5] (fun s3 s4 s5 wr=>∃ k:Nat,k≤l.length∧s5=.int .i64 k∧s4=.int .i64 (bkQ (l.take k))∧s3=.string (tb (bkS (l.take k)))∧Grow w wr) (fun _ _ s5 _=>l.length - (intOf s5).toNat)
 case atStart=>exact ⟨0,Nat.zero_le _,rfl,rfl,rfl,Grow.refl w⟩
 case round=>
  obtain ⟨k,hk,rfl,rfl,rfl,hg⟩:=hrel;have HGR:=jH hg;have hbl:=zgj l HSZ.out k hk;clear hg;by_cases hlt:k<l.length
  ·have hltz:(k:Int)<(l.length:Int):=by omega
   obtain ⟨t,ht⟩:∃ t,l[k]?=some t:=⟨_,List.getElem?_eq_getElem hlt⟩;obtain ⟨b,o,rfl,hb,y0⟩:=zco (HL.out.grow HGR.out) ht;obtain ⟨q,hq⟩:∃ q,bkQ (l.take k)=q:=⟨_,rfl⟩;obtain ⟨q0,q1⟩:=zzk (l.take k);obtain ⟨e1,e2⟩:=zpx ht;have hts:=HSZ.out t (List.mem_of_getElem? ht);have htl:(dl t).length=t.size:=(zfw t).symm;obtain ⟨s0,s1⟩:=Bk.sumL_bd (dl t) (hq ▸ q0) (hq ▸ q1);rw [hq] at q0 q1 e1 e2 ⊢;obtain ⟨out,hout⟩:∃ z,bkS (l.take k)=z:=⟨_,rfl⟩;rw [hout] at e2 hbl ⊢;obtain ⟨sm,hsm⟩:∃ z,Bk.sumL q (dl t)=z:=⟨_,rfl⟩;rw [hsm] at e1 e2 s0 s1;have HE1:=jH e1;have HE2:=jH e2;have HSM:=jH (show Bk.sumL q t.data.toList=sm from hsm);clear ht e1 e2 hq hout hsm;go_wp2_with fail;refine zoj q t _ (by omega) _ ?_
   intro w1 hg1;rw [Bk.sumS_of q0 q1,HSM.out];have HG1:=jH (HGR.out.trans hg1);have y1:=Grow.cell hg1 y0;have hil:=Lib.itoa_length_le sm (by omega) (by omega)
   have htbo:=zbr out;clear hg1;go_wp2_with fail;refine wp_region_held_drew (S:=fun X=>Grow w1 X) (by kernel_rfl) ((Grow.refl w1).drew) (fun hH=>?_)
   refine tkA 0 (.string (tb out)) rfl ?_ hH ?_
   ·intro w9 hw9;go_simp
   try simp only [nrm]
   refine tkA 1 (.int .i64 sm) rfl ?_ hH ?_
   ·intro w9 hw9;go_simp
   try simp only [nrm]
   refine tkA 4 (.slice (some ⟨b,o,none⟩) l.length vc) rfl ?_ hH ?_
   ·intro w9 hw9;go_simp
   try simp only [nrm]
   refine tkA 5 (.int .i64 k) rfl ?_ hH ?_
   ·intro w9 hw9;go_simp
   try simp only [nrm]
   refine tkA 6 (.pointer (some ⟨b,o+k,none⟩)) rfl ?_ hH ?_
   ·intro w9 hw9;go_simp
   try simp only [nrm]
   refine tkA 7 (.string t) rfl ?_ hH ?_
   ·intro w9 hw9;have y9:=Grow.cell hw9 y1;go_simp
   try simp only [nrm]
   refine tk1 2 rfl fun K hK=>?_;go_simp;refine zge sm (by omega) (by omega) _ (HG.out.grow (HG1.out.trans hH)) _ ?_
   intro w2 hg2;go_wp2_with fail;refine hK.out _ _ (hH.trans hg2) ?_;clear hK K hH;intro hH;try simp only [nrm]
   clear hg2;refine tkA 3 (.string ((⟨(Lib.itoa sm).toArray⟩:ByteArray)++⟨#[32]⟩)) rfl ?_ hH ?_
   ·intro w9 hw9;go_simp;omega
   try simp only [nrm]
   refine tkA 8 (.string ((⟨(Lib.itoa sm).toArray⟩:ByteArray)++⟨#[32]⟩++t)) rfl ?_ hH ?_
   ·intro w9 hw9;go_simp;omega
   try simp only [nrm]
   refine tkA 9 (.string ((⟨(Lib.itoa sm).toArray⟩:ByteArray)++⟨#[32]⟩++t++⟨#[10]⟩)) rfl ?_ hH ?_
   ·intro w9 hw9;go_simp;omega
   try simp only [nrm]
   refine tkA 10 (.string (tb out++((⟨(Lib.itoa sm).toArray⟩:ByteArray)++⟨#[32]⟩++t++⟨#[10]⟩))) rfl ?_ hH ?_
   ·intro w9 hw9;go_simp;omega
   try simp only [nrm]
   refine tkA 11 (.string (tb out++((⟨(Lib.itoa sm).toArray⟩:ByteArray)++⟨#[32]⟩++t++⟨#[10]⟩))) rfl ?_ hH ?_
   ·intro w9 hw9;go_simp
   try simp only [nrm]
   refine wpAnyH_done (by kernel_rfl) ?_ _
   have HG2:=jH (HG1.out.trans hH);clear hH;rw [zzp,zmu];go_wp2_with fail;go_roundw
   case rel=>exact ⟨k+1,by omega,by go_num,by rw [HE1.out],by rw [HE2.out];rfl,HG2.out⟩
   case measure=>simp [intOf];omega
  ·have hk2:k=l.length:=by omega
   subst hk2;have hltz:¬ (l.length:Int)<(l.length:Int):=by omega
   have hf:=HR.out wr HGR.out;rw [List.take_length];have HF:=jH hf;clear hf;go_wp2_with fail;exact HF.out
set_option maxRecDepth 100000
set_option maxHeartbeats 16000000
theorem cut_at {c:UInt8} {l:List UInt8} {j:Nat} (hj:l[j]?=some c) (hno:∀ x∈l.take j,x≠c):Bk.cutL c l=some (l.take j,l.drop (j+1)):=by
 refine Bk.cutL_some.2 ⟨?_,fun h=>hno c h rfl⟩;have hlt:=(List.getElem?_eq_some_iff.1 hj).1;have he:=(List.getElem?_eq_some_iff.1 hj).2;rw [← he,← List.drop_eq_getElem_cons hlt,List.take_append_drop]
theorem cut_no {c:UInt8} {l:List UInt8} (hno:∀ x∈l.take l.length,x≠c):Bk.cutL c l=none:=by
 rw [List.take_length] at hno;exact Bk.cutL_none.2 fun h=>hno c h rfl
theorem zzf {c d:UInt8} {l:List UInt8} {j:Nat} (hj:l[j]?=some d) (hd:d≠c) (hno:∀ x∈l.take j,x≠c):∀ x∈l.take (j+1),x≠c:=by
 intro x hx;rw [List.take_add_one,hj] at hx;rcases List.mem_append.1 hx with hx | hx
 ·exact hno x hx
 ·simp at hx;subst hx;exact hd
theorem zds (l:List UInt8) (i j:Nat):(tb l).extract i j=tb ((l.take j).drop i):=by
 apply tx_eq
 rw [zbo];simp [tb,ByteArray.data_extract,List.drop_take]
theorem zgm (l:List UInt8) (j:Nat) (h:j<(tb l).size):l[j]?=some ((tb l)[j]):=by
 have h2:j<l.length:=by rwa [zbr] at h
 rw [List.getElem?_eq_getElem h2];rfl
theorem zkh {c:UInt8} {n:Nat} (hn:n<256) (h:c≠UInt8.ofNat n):(((c.toNat:Nat):Int) != (n:Int))=true:=by
 rw [bne_iff_ne];intro e;refine h (UInt8.toNat_inj.1 ?_);rw [UInt8.toNat_ofNat'];omega
theorem zxg (b:ByteArray) (hb:b.size≤1000000000) (w:World) (hg:Glob w) (R:Ending→World→Prop)
  (hR:∀ w' v,Grow w w'→w'.ownsRow w.heap.size 9 1 v (((Bk.readL 80 0 b.data.toList).1.map tb)).length ((((Bk.readL 80 0 b.data.toList).1.map tb)).flatMap encTx)→R (.returned (.tuple #[v,.string (tb (Bk.readL 80 0 b.data.toList).2)])) w') :
  Calls Tryz.prog 51 #[.string b] w R:=by
 have HR:=jH hR;have HG:=jH hg;clear hR hg
 go_enter func51,ntmps51
 go_wp2_with fail
 go_loopw [0,4,5] (fun s0 s4 s5 wr=>∃ (l:List (List UInt8)) (rest:List UInt8) (q:Int) (va:Option Addr) (vc:Nat),s0=.string (tb rest)∧s4=.slice va l.length vc∧s5=.int .i64 q∧0≤q∧q<1000003∧l.length≤80∧rest.length≤b.size∧Grow w wr ∧
   wr.ownsRow w.heap.size 9 1 (.slice va l.length vc) (l.map tb).length ((l.map tb).flatMap encTx)∧(Bk.readL 80 0 b.data.toList).1=l++(Bk.readL (80 - l.length) q rest).1∧(Bk.readL 80 0 b.data.toList).2=(Bk.readL (80 - l.length) q rest).2) (fun _ s4 _ _=>80 - lenS s4)
 case atStart=>
  exact ⟨[],b.data.toList,0,none,0,by rw [tb_of],rfl,rfl,by decide,by decide,by decide,by rw [← zfw];exact Nat.le_refl _,Grow.refl _,World.ownsRow_nil _ _ _ _,rfl,rfl⟩
 case round=>
  obtain ⟨l,rest,q,va,vc,rfl,rfl,rfl,hq0,hq1,hl80,hrl,hg,ho,he1,he2⟩:=hrel;have HO:=jH ho;have HGR:=jH hg;have HGL:=jH (HG.out.grow hg);have HE1:=jH he1;have HE2:=jH he2;have hfin:(Bk.readL (80 - l.length) q rest)=([],rest)→∀ wr',Grow wr wr'→R (.returned (.tuple #[.slice va l.length vc,.string (tb rest)])) wr':=fun hr wr' hgr=>by
   have h1:=HE1.out;have h2:=HE2.out;rw [hr] at h1 h2;simp only [List.append_nil] at h1;have:=HR.out wr' (.slice va l.length vc) (HGR.out.trans hgr);rw [h1,h2] at this;exact this (hgr.owns HO.out)
  have HFIN:=jH hfin;clear ho hg he1 he2 hfin;by_cases h80:l.length<80;rotate_left
  ·have h80z:¬ (l.length:Int)<80:=by omega
   have HF:=jH (HFIN.out (by rw [show 80 - l.length=0 by omega];rfl) wr (Grow.refl _))
   go_wp2_with fail;exact HF.out
  have h80z:(l.length:Int)<80:=by omega
  obtain ⟨n,hn⟩:∃ n,80 - l.length=n+1:=⟨79 - l.length,by omega⟩
  have hno:=fun (hs:Bk.stepL q rest=none)=>HFIN.out (by rw [hn,Bk.readL,hs])
  have HNO:=jH hno;have HN:=jH hn;have hbs:(tb rest).size=rest.length:=zbr rest;have HBS:=jH hbs;clear hno hn hbs;go_wp2_with fail
  go_loopw [7] (fun s7 wx=>∃ j:Nat,j≤rest.length∧s7=.int .i64 j∧(∀ x∈rest.take j,x≠10)∧wx=wr) (fun s7 _=>rest.length - (intOf s7).toNat)
  case atStart=>exact ⟨0,Nat.zero_le _,rfl,by simp,rfl⟩
  case round=>
   obtain ⟨j,hj,rfl,hnj,rfl⟩:=hrel;have HNJ:=jH hnj;clear hnj;by_cases hjl:j<rest.length
   ·have hjs:j<(tb rest).size:=by rw [HBS.out];exact hjl
    have hjz:(j:Int)<((tb rest).size:Int):=by omega
    have hgt:=zgm rest j hjs;obtain ⟨c,hc⟩:∃ c,(tb rest)[j]=c:=⟨_,rfl⟩;rw [hc] at hgt;have HGT:=jH hgt;by_cases h10:c=10;rotate_left
    ·have hcb:=zkh (n:=10) (by decide) h10
     have hcz:¬ ((c.toNat:Nat):Int)=10:=by have:=bne_iff_ne.1 hcb;omega
     clear hgt;go_wp2_with fail;go_roundw
     case rel=>exact ⟨j+1,by omega,by go_num,zzf HGT.out h10 HNJ.out,by trivial⟩
     case measure=>simp [intOf];omega
    subst h10;have hct:=cut_at HGT.out HNJ.out;have HCT:=jH hct;clear hgt hct;go_wp2_with fail
    go_loopw [6] (fun s6 wx=>∃ i:Nat,i≤j∧s6=.int .i64 i∧(∀ x∈rest.take i,x≠32)∧wx=wr) (fun s6 _=>j - (intOf s6).toNat)
    case atStart=>exact ⟨0,Nat.zero_le _,rfl,by simp,rfl⟩
    case round=>
     obtain ⟨i,hi,rfl,hni,rfl⟩:=hrel;have HNI:=jH hni;clear hni;have htt:∀ m,m≤j→(rest.take j).take m=rest.take m:=fun m hm=>by rw [List.take_take,Nat.min_eq_left hm]
     by_cases hij:i<j;rotate_left
     ·-- no blank
      obtain rfl:i=j:=by omega
      have hiz:¬ (i:Int)<(i:Int):=by omega
      have HF:=jH (HNO.out (by unfold Bk.stepL;rw [HCT.out];dsimp only;rw [cut_no (fun x hx=>by rw [List.length_take,Nat.min_eq_left hj,htt i (Nat.le_refl _)] at hx;exact HNI.out x hx)]) wr (Grow.refl _))
      have hjn:((i:Int) == ((tb rest).size:Int))=false:=by rw [beq_eq_false_iff_ne];omega
      clear htt;go_wp2_with fail;exact HF.out
     have hijz:(i:Int)<(j:Int):=by omega
     have hgi:=zgm rest i (by rw [HBS.out];omega)
     have his:i<(tb rest).size:=by rw [HBS.out];omega
     obtain ⟨d,hd⟩:∃ d,(tb rest)[i]=d:=⟨_,rfl⟩;rw [hd] at hgi;have HGI:=jH hgi;by_cases h32:d=32;rotate_left
     ·have hdb:=zkh (n:=32) (by decide) h32
      have hdz:¬ ((d.toNat:Nat):Int)=32:=by have:=bne_iff_ne.1 hdb;omega
      clear hgi htt;go_wp2_with fail;go_roundw
      case rel=>exact ⟨i+1,by omega,by go_num,zzf HGI.out h32 HNI.out,by trivial⟩
      case measure=>simp [intOf];omega
     subst h32;have hcd:Bk.cutL 32 (rest.take j)=some (rest.take i,(rest.take j).drop (i+1)):=by
      have:=cut_at (l:=rest.take j) (j:=i) (c:=32) (by rw [List.getElem?_take,if_pos hij];exact HGI.out) (by rw [htt i hi];exact HNI.out)
      rw [htt i hi] at this;exact this
     have HCD:=jH hcd;have hjn:((j:Int) == ((tb rest).size:Int))=false:=by rw [beq_eq_false_iff_ne];omega
     have hin:((i:Int) == (j:Int))=false:=by rw [beq_eq_false_iff_ne];omega
     have hex:=zds rest (i+1) j;obtain ⟨o,ho⟩:∃ o,(rest.take j).drop (i+1)=o:=⟨_,rfl⟩;rw [ho] at hex HCD;have hol:o.length≤rest.length:=by rw [← ho,List.length_drop,List.length_take];omega
     have HEX:=jH hex;have hex0:=zds rest 0 i;rw [List.drop_zero] at hex0;have HEX0:=jH hex0;have hexr:(tb rest).extract (j+1) (tb rest).size=tb (rest.drop (j+1)):=by rw [zds rest (j+1) _,HBS.out,List.take_length]
     have HEXR:=jH hexr;clear hgi htt hcd hex hex0 hexr ho;go_wp2_with fail;rw [HEX.out];refine zwc (tb o) _ (by rw [zbr];omega) _ ?_
     intro w1 hg1;rw [zbo];have HG1:=jH hg1;clear hg1;cases hok:Bk.okT o with
     | false=>
      have HF:=jH (HNO.out (by unfold Bk.stepL;rw [HCT.out];dsimp only;rw [HCD.out];dsimp only;rw [if_neg (fun h=>by rw [hok] at h;exact absurd h.1 (by decide))]) w1 HG1.out)
      clear hok;go_wp2_with fail;exact HF.out
     | true=>
      have HOK:=jH hok;clear hok;have hos:(tb o).size≤1000000000:=by rw [zbr];omega
      obtain ⟨sm,hsm⟩:∃ z,Bk.sumL q o=z:=⟨_,rfl⟩;obtain ⟨s0,s1⟩:=Bk.sumL_bd o hq0 hq1;rw [hsm] at s0 s1;have HSM:=jH hsm;have hsum:Bk.sumS q (tb o).data.toList=sm:=by rw [zbo,Bk.sumS_of hq0 hq1,hsm]
      have HSUM:=jH hsum;clear hsm hsum;go_wp2_with fail;rw [HEX.out];refine wp_region_held_drew (S:=fun X=>Grow wr X) (by kernel_rfl) (HG1.out.drew) (fun hH=>?_)
      refine tkA 0 (.int .i64 q) rfl ?_ hH ?_
      ·intro w9 hw9;go_simp
      try simp only [nrm]
      refine tkA 1 (.string (tb o)) rfl ?_ hH ?_
      ·intro w9 hw9;go_simp
      try simp only [nrm]
      refine tkA 4 (.string (tb rest)) rfl ?_ hH ?_
      ·intro w9 hw9;go_simp
      try simp only [nrm]
      refine tkA 5 (.int .i64 i) rfl ?_ hH ?_
      ·intro w9 hw9;go_simp
      try simp only [nrm]
      refine tkA 6 (.string ((tb rest).extract 0 i)) rfl ?_ hH ?_
      ·intro w9 hw9;go_simp;intro hbad;exact absurd hbad (by have:=HBS.out;omega)
      try simp only [nrm]
      rw [HEX0.out];refine tk1 2 rfl fun K hK=>?_;go_simp;refine zoj q (tb o) _ (by omega) _ ?_
      intro w2 hg2;rw [HSUM.out];go_wp2_with fail;refine hK.out _ _ (hH.trans hg2) ?_;clear hK K hH;intro hH;try simp only [nrm]
      clear hg2;refine tk1 3 rfl fun K hK=>?_;go_simp;refine zge sm (by omega) (by omega) _ (HGL.out.grow hH) _ ?_
      intro w3 hg3;go_wp2_with fail;refine hK.out _ _ (hH.trans hg3) ?_;clear hK K hH;intro hH;try simp only [nrm]
      clear hg3;by_cases hh:rest.take i=Lib.itoa sm;rotate_left
      ·
       have hne:=tx_ne (x:=(⟨(Lib.itoa sm).toArray⟩:ByteArray)) (y:=tb (rest.take i)) (fun e=>hh (by have:=congrArg (fun t:ByteArray=>t.data.toList) e;simpa [tb] using this.symm))
       refine tkA 7 (.bool true) rfl ?_ hH ?_
       ·intro w9 hw9;go_simp;rw [Lib.toList_data,zbo];exact fun e=>hh e.symm
       try simp only [nrm]
       refine wpAnyH_done (by kernel_rfl) ?_ _
       have HF:=jH (HNO.out (by unfold Bk.stepL;rw [HCT.out];dsimp only;rw [HCD.out];dsimp only;rw [HSM.out,if_neg (fun h=>hh h.2)]) _ hH)
       clear hH;go_wp2_with fail;exact HF.out
      have heq:(⟨(Lib.itoa sm).toArray⟩:ByteArray)=tb (rest.take i):=by rw [hh];rfl
      rw [heq];have HHH:=jH hh;clear heq hh;refine tkA 7 (.bool false) rfl ?_ hH ?_
      ·intro w9 hw9;go_simp
      try simp only [nrm]
      refine wpAnyH_done (by kernel_rfl) ?_ _
      have HG2:=jH hH;clear hH;go_wp2_with fail;refine zoj q (tb o) _ (by omega) _ ?_
      intro w5 hg5;rw [HSUM.out];have HG5:=jH (HG2.out.trans hg5);have hz5:=(HGR.out.trans (HG2.out.trans hg5)).sz;clear hg5;go_wp2_with (at_builtin;refine zad _ rfl (.tmp 69) (.tmp 71) 23 rfl w.heap.size 9 underlying23 zji rfl (by decide) (by decide) encTx zbk zdm (.slice va l.length vc) (l.map tb) rfl (by rw [show l.length=(l.map tb).length by rw [List.length_map]];exact ((Grow.refl w5).alloc _).owns (HG5.out.owns (by simpa using HO.out))) _ (tb o) 1 rfl (zbj w5 (encTx (tb o)) 9) (by rw [List.length_map];omega) (by simp;omega) ?_;intro v9 w9 hown9 hgr9)
      have hH9:Grow w w9:=zaf (((Grow.refl w5).alloc (.cells (encTx (tb o)).toArray 9)).owns (HG5.out.owns HO.out)) hgr9 (Nat.le_refl _) (by simp;omega) (show Grow w _ from (HGR.out.trans HG5.out).alloc _)
      obtain ⟨a9,c9,rfl⟩:∃ a c,v9=.slice a (l.length+1) c:=by
       rcases hown9.2 with ⟨hv,h0⟩ | ⟨g,cap,cur,hv,_⟩
       ·simp at h0
       ·exact ⟨some ⟨g,0,none⟩,cap,by rw [hv];simp⟩
      have HW9:=jH hown9;have HH9:=jH hH9;clear hown9 hgr9 hH9;rw [HEXR.out];go_roundw
      case rel=>
       have hst:Bk.stepL q rest=some (o,rest.drop (j+1)):=by
        unfold Bk.stepL;rw [HCT.out];dsimp only;rw [HCD.out];dsimp only;rw [HSM.out,if_pos ⟨HOK.out,HHH.out⟩]
       refine ⟨l++[o],rest.drop (j+1),sm,a9,c9,rfl,by simp,rfl,s0,s1,by simp;omega,by rw [List.length_drop];omega,HH9.out,by simpa using HW9.out,?_,?_⟩
       ·rw [HE1.out,HN.out,Bk.readL,hst,show 80 - (l++[o]).length=n by rw [List.length_append,List.length_singleton];have:=HN.out;omega];dsimp only;rw [HSM.out];simp
       ·rw [HE2.out,HN.out,Bk.readL,hst,show 80 - (l++[o]).length=n by rw [List.length_append,List.length_singleton];have:=HN.out;omega];dsimp only;rw [HSM.out]
      case measure=>simp [lenS];omega
   ·obtain rfl:j=rest.length:=by omega
    have hjz:¬ (rest.length:Int)<((tb rest).size:Int):=by have:=HBS.out;omega
    have hjn:((rest.length:Int) == ((tb rest).size:Int))=true:=by rw [beq_iff_eq];have:=HBS.out;omega
    have HF:=jH (HNO.out (by unfold Bk.stepL;rw [cut_no HNJ.out]) wr (Grow.refl _))
    go_wp2_with fail
    go_loopw [6] (fun s6 wx=>∃ i:Nat,i≤rest.length∧s6=.int .i64 i∧wx=wr) (fun s6 _=>rest.length - (intOf s6).toNat)
    case atStart=>exact ⟨0,Nat.zero_le _,rfl,by trivial⟩
    case round=>
     obtain ⟨i,hi,rfl,rfl⟩:=hrel;by_cases hij:i<rest.length;rotate_left
     ·have hijz:¬ (i:Int)<(rest.length:Int):=by omega
      go_wp2_with fail;exact HF.out
     have hijz:(i:Int)<(rest.length:Int):=by omega
     have his:i<(tb rest).size:=by rw [HBS.out];omega
     obtain ⟨d,hd⟩:∃ d,(tb rest)[i]=d:=⟨_,rfl⟩;by_cases h32:d=32
     ·subst h32;go_wp2_with fail;exact HF.out
     ·have hdb:=zkh (n:=32) (by decide) h32
      have hdz:¬ ((d.toNat:Nat):Int)=32:=by have:=bne_iff_ne.1 hdb;omega
      go_wp2_with fail;go_roundw
      case rel=>exact ⟨i+1,by omega,by go_num,by trivial⟩
      case measure=>simp [intOf];omega
theorem zma (n:Nat):∀ (s:Int) (b:List UInt8),(Bk.readL n s b).1.length≤n:=by
 induction n with
 | zero=>intro s b;simp [Bk.readL]
 | succ n ih=>
  intro s b;unfold Bk.readL
  split
  ·simp
  ·next o rest _=>simp;exact ih _ _
theorem tb_nil:(tb []).toList=[]:=by rw [Lib.toList_data,zbo]
theorem tb_nel {x:List UInt8} (h:x≠[]):(tb x).toList≠[]:=by rw [Lib.toList_data,zbo];exact h
end Go.Proofs.YtmeejlgnhfkeaaaGreatDoor
