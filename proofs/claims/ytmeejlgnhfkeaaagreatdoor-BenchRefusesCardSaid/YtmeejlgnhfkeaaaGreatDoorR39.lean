/- Parts. -/
import Derived.Test.YtmeejlgnhfkeaaaGreatDoorR38
import Derived.Test.YtmeejlgnhfkeaaaGreatDoorR36
import Derived.Test.YtmeejlgnhfkeaaaGreatDoorR27
import Derived.Test.YtmeejlgnhfkeaaaGreatDoorR04
import Derived.BigQuiet
namespace Go.Proofs.YtmeejlgnhfkeaaaGreatDoor
open Go.RowKit Go.Proofs.Tryz
set_option maxRecDepth 100000
set_option maxHeartbeats 16000000
theorem znl:(Tryz.prog.info? 9).map (fun i=>(i.zero,i.size,i.bytes))=some (some (.string ByteArray.empty),1,16):=by kernel_rfl
def lenS:Value→Nat
 | .slice _ n _=>n
 | _=>0
theorem tb_inj {a b:List UInt8} (h:tb a=tb b):a=b:=by rw [← zbt a,h,zbt]
theorem line_ne {h o:List UInt8} {s:Int} (hn:h≠Lib.itoa s):tb (Bk.lineL s o)≠tb ((h++32 :: o)++[10]):=fun e=>hn (by
 have:=tb_inj e;unfold Bk.lineL at this;rw [List.append_assoc] at this;simpa using this.symm)
theorem Read_any (b:ByteArray) (hb:b.size≤1000000000) (w:World) (hg:Glob w) (R:Ending→World→Prop)
  (hR:∀ w' v,Grow w w'→w'.ownsRow w.heap.size 9 1 v (((Bk.readL 80 0 b.data.toList).1.map tb)).length ((((Bk.readL 80 0 b.data.toList).1.map tb)).flatMap encTx)→R (.returned (.tuple #[v,.string (tb (Bk.readL 80 0 b.data.toList).2)])) w') :
  Calls Tryz.prog 25 #[.string b] w R:=by
 have HR:=jH hR;have HG:=jH hg;clear hR hg
 go_enter func25,ntmps25
 go_wp2_with fail
 go_loopw [0,4,5] (fun s0 s4 s5 wr=>∃ (l:List (List UInt8)) (rest:List UInt8) (q:Int) (va:Option Addr) (vc:Nat),s0=.string (tb rest)∧s4=.slice va l.length vc∧s5=.int .i64 q∧0≤q∧q<1000003∧l.length≤80∧rest.length≤b.size∧Grow w wr ∧
   wr.ownsRow w.heap.size 9 1 (.slice va l.length vc) (l.map tb).length ((l.map tb).flatMap encTx)∧(Bk.readL 80 0 b.data.toList).1=l++(Bk.readL (80 - l.length) q rest).1∧(Bk.readL 80 0 b.data.toList).2=(Bk.readL (80 - l.length) q rest).2) (fun _ s4 _ _=>80 - lenS s4)
 case atStart=>
  exact ⟨[],b.data.toList,0,none,0,by rw [tb_of],rfl,rfl,by decide,by decide,by decide,by rw [← zhl];exact Nat.le_refl _,Grow.refl _,World.ownsRow_nil _ _ _ _,rfl,rfl⟩
 case round=>
  obtain ⟨l,rest,q,va,vc,rfl,rfl,rfl,hq0,hq1,hl80,hrl,hg,ho,he1,he2⟩:=hrel;have HO:=jH ho;have HGR:=jH hg;have HGL:=jH (HG.out.grow hg);have HE1:=jH he1;have HE2:=jH he2;have hfin:(Bk.readL (80 - l.length) q rest)=([],rest)→∀ wr',Grow wr wr'→R (.returned (.tuple #[.slice va l.length vc,.string (tb rest)])) wr':=fun hr wr' hgr=>by
   have h1:=HE1.out;have h2:=HE2.out;rw [hr] at h1 h2;simp only [List.append_nil] at h1;have:=HR.out wr' (.slice va l.length vc) (HGR.out.trans hgr);rw [h1,h2] at this;exact this (hgr.owns HO.out)
  have HFIN:=jH hfin;clear ho hg he1 he2 hfin;by_cases h80:l.length<80;rotate_left
  ·have h80z:¬ (l.length:Int)<80:=by omega
   have HF:=jH (HFIN.out (by rw [show 80 - l.length=0 by omega];rfl) wr (Grow.refl _))
   go_wp2_with fail;exact HF.out
  have h80z:(l.length:Int)<80:=by omega
  obtain ⟨n,hn⟩:∃ n,80 - l.length=n+1:=⟨79 - l.length,by omega⟩
  have hno:=fun (hs:Bk.stepL q rest=none)=>HFIN.out (by rw [hn,Bk.readL,hs])
  have HNO:=jH hno;have HN:=jH hn;clear hno hn;go_wp2_with fail;refine zqr (tb rest) (tb [10]) (by rw [zck];omega) _ HGL.out _ ?_
  intro w1 hg1;rw [zbt,zbt];cases hc:Bk.cutL 10 rest with
  | none=>
   rw [zsq hc];have HG1:=jH hg1;have HNO2:=jH (HNO.out (by unfold Bk.stepL;rw [hc]))
   clear hg1 hc;dsimp only;go_wp2_with fail;refine zqr (tb rest) (tb [32]) (by rw [zck];omega) _ (HGL.out.grow HG1.out) _ ?_
   intro w2 hg2;have HF:=jH (HNO2.out w2 (HG1.out.trans hg2));rw [zbt,zbt];obtain ⟨x,y,z,hc1⟩:∃ x y z,Lib.cut rest [32]=(x,y,z):=⟨_,_,_,rfl⟩;rw [hc1];clear hg2 hc1;dsimp only;go_wp2_with fail;exact HF.out
  | some p=>
   obtain ⟨t,rest'⟩:=p;rw [zsd hc];have hrt:=(Bk.cutL_some.1 hc).1;have hrl2:rest.length=t.length+1+rest'.length:=by rw [hrt,List.length_append,List.length_cons];omega
   have HG1:=jH hg1;have HC:=jH hc;have HRT:=jH hrt;clear hg1 hc hrt;dsimp only;go_wp2_with fail;refine zqr (tb t) (tb [32]) (by rw [zck];omega) _ (HGL.out.grow HG1.out) _ ?_
   intro w2 hg2;rw [zbt,zbt];have HG2:=jH (HG1.out.trans hg2);clear hg2;cases hd:Bk.cutL 32 t with
   | none=>
    rw [zsq hd];have HF:=jH (HNO.out (by unfold Bk.stepL;rw [HC.out];dsimp only;rw [hd]) w2 HG2.out)
    clear hd;dsimp only;go_wp2_with fail;exact HF.out
   | some p=>
    obtain ⟨h,o⟩:=p;rw [zsd hd];have hto:=(Bk.cutL_some.1 hd).1;have htl:t.length=h.length+1+o.length:=by rw [hto,List.length_append,List.length_cons];omega
    have HD:=jH hd;have HTO:=jH hto;clear hd hto;dsimp only;go_wp2_with fail;refine zlp (tb o) (by rw [zck];omega) _ _ ?_
    intro w3 hg3;rw [zbt];have HG3:=jH (HG2.out.trans hg3);clear hg3;cases hok:Bk.okT o with
    | false=>
     have HF:=jH (HNO.out (by unfold Bk.stepL;rw [HC.out];dsimp only;rw [HD.out];dsimp only;rw [if_neg (by rw [hok];simp)]) w3 HG3.out)
     clear hok;go_wp2_with fail;exact HF.out
    | true=>
     have HOK:=jH hok;clear hok;go_wp2_with fail;refine zsl q (tb o) (by rw [zck];omega) _ (HGL.out.grow HG3.out) _ ?_
     intro w4 hg4;rw [zbt,Bk.sumS_of hq0 hq1];have HG4:=jH (HG3.out.trans hg4);obtain ⟨q2,hq2⟩:∃ q2,Bk.sumL q o=q2:=⟨_,rfl⟩;obtain ⟨hr0,hr1⟩:=Bk.sumL_bd o hq0 hq1;rw [hq2] at hr0 hr1 ⊢;have HQ2:=jH hq2;clear hg4 hq2;by_cases hh:h=Lib.itoa q2
     ·subst hh;have hcat:(⟨t.toArray⟩:ByteArray)++(⟨#[10]⟩:ByteArray)=tb (Bk.lineL q2 o):=by
       rw [HTO.out,show Bk.lineL q2 o=(Lib.itoa q2++32 :: o)++[10] by unfold Bk.lineL;simp];exact zmm _ [10]
      have heq:((tb (Bk.lineL q2 o)).toList == ((⟨t.toArray⟩:ByteArray)++(⟨#[10]⟩:ByteArray)).toList)=true:=by rw [hcat];simp
      clear hcat;have hlz:(tb (Bk.lineL q2 o)).size=t.length+1:=by rw [zck];unfold Bk.lineL;simp [htl];omega
      have hle:(tb (Bk.lineL q2 o)).size≤(tb rest).size:=by rw [hlz,zck];omega
      have hex:(tb rest).extract (tb (Bk.lineL q2 o)).size (tb rest).size=tb rest':=by
       apply tx_eq
       rw [Lib.extract_to_end,zbt,zbt,hlz,HRT.out,show t++10 :: rest'=(t++[10])++rest' by simp,List.drop_append_of_le_length (by simp),List.drop_of_length_le (by simp)]
       rfl
      clear hlz;have HEX:=jH hex;have HOD:=jH ((HG4.out.drew).owns HO.out);have hzz:w.heap.size≤w4.heap.size:=(HGR.out.trans HG4.out).sz;clear hex;go_wp2_with fail;refine wp_region_held_drew (S:=fun X=>Grow w X) (by kernel_rfl) ((HGR.out.trans HG4.out).drew) (fun hH=>?_)
      refine tkA 0 (.slice va l.length vc) rfl ?_ hH ?_
      ·intro w9 hw9;go_simp
      try simp only [nrm]
      refine tkA 1 (.string ⟨o.toArray⟩) rfl ?_ hH ?_
      ·intro w9 hw9;go_simp
      try simp only [nrm]
      refine tkA 4 (.int .i64 q2) rfl ?_ hH ?_
      ·intro w9 hw9;go_simp
      try simp only [nrm]
      refine tkA 5 (.string (tb rest)) rfl ?_ hH ?_
      ·intro w9 hw9;go_simp
      try simp only [nrm]
      refine tkA 6 (.string (tb (Bk.lineL q2 o))) rfl ?_ hH ?_
      ·intro w9 hw9;go_simp
      try simp only [nrm]
      refine tkA 7 (.int .i64 ((tb (Bk.lineL q2 o)).size:Nat)) rfl ?_ hH ?_
      ·intro w9 hw9;go_simp
      try simp only [nrm]
      refine tkA 8 (.string ((tb rest).extract (tb (Bk.lineL q2 o)).size (tb rest).size)) rfl ?_ hH ?_
      ·intro w9 hw9;go_simp
      try simp only [nrm]
      rw [HEX.out];refine tk1 2 rfl fun K hK=>?_;go_simp;refine hK.out _ _ (hH.alloc _) ?_;clear hK K hH;intro hH;try simp only [nrm]
      refine tk1 3 rfl fun K hK=>?_;refine zew rfl (.tmp 50) (.tmp 52) 23 rfl w.heap.size 9 underlying23 znl rfl (by decide) (by decide) encTx zbi zcz (.slice va l.length vc) (l.map tb) (by simp [Act.eval]) (((Grow.refl w4.drew).alloc _).owns HOD.out) ⟨w4.heap.size,0,none⟩ (tb o) 1 (by simp [Act.eval]<;>rfl) (zbj w4.drew (encTx (tb o)) 9) (by rw [List.length_map];omega) (by simp;omega) ?_
      intro v9 w9 hown9 hgr9 hat9;have hH9:Grow w w9:=zae (((Grow.refl w4.drew).alloc (.cells (encTx (tb o)).toArray 9)).owns HOD.out) hgr9 (Nat.le_refl _) (by simp;omega) hH
      obtain ⟨a9,c9,rfl⟩:∃ a c,v9=.slice a (l.length+1) c:=by
       rcases hown9.2 with ⟨hv,h0⟩ | ⟨g,cap,cur,hv,_⟩
       ·simp at h0
       ·exact ⟨some ⟨g,0,none⟩,cap,by rw [hv];simp⟩
      have HW9:=jH hown9;clear hown9 hgr9 hat9;refine hK.out _ _ hH9 (fun hH2=>?_);clear hK K hH hH9;have hH:=hH2;clear hH2;try simp only [nrm]
      refine tkA 9 (.slice a9 (l.length+1) c9) rfl ?_ hH ?_
      ·intro w9 hw9;go_simp
      try simp only [nrm]
      refine tkA 10 (.int .i64 q2) rfl ?_ hH ?_
      ·intro w9 hw9;go_simp
      try simp only [nrm]
      refine tkA 11 (.string (tb rest')) rfl ?_ hH ?_
      ·intro w9 hw9;go_simp
      try simp only [List.getElem_toArray,List.getElem_cons_succ,List.getElem_cons_zero,Act.put,List.setIfInBounds_toArray,List.set_cons_zero]
      refine wpAnyH_done (by kernel_rfl) ?_ _
      have HGE:=jH hH;clear hH;go_wp2_with fail;go_roundw
      case rel=>
       have hst:Bk.stepL q rest=some (o,rest'):=by
        unfold Bk.stepL;rw [HC.out];dsimp only;rw [HD.out];dsimp only;rw [HQ2.out,if_pos ⟨HOK.out,rfl⟩]
       refine ⟨l++[o],rest',q2,a9,c9,rfl,by simp,rfl,hr0,hr1,by simp;omega,by omega,HGE.out,by simpa using HW9.out,?_,?_⟩
       ·rw [HE1.out,HN.out,Bk.readL,hst,show 80 - (l++[o]).length=n by rw [List.length_append,List.length_singleton];have:=HN.out;omega];dsimp only;rw [HQ2.out];simp
       ·rw [HE2.out,HN.out,Bk.readL,hst,show 80 - (l++[o]).length=n by rw [List.length_append,List.length_singleton];have:=HN.out;omega];dsimp only;rw [HQ2.out]
      case measure=>simp [lenS];omega
     ·have HF:=jH (HNO.out (by unfold Bk.stepL;rw [HC.out];dsimp only;rw [HD.out];dsimp only;rw [HQ2.out,if_neg (fun e=>hh e.2)]) w4 HG4.out)
      have hcat:(⟨t.toArray⟩:ByteArray)++(⟨#[10]⟩:ByteArray)=tb ((h++32 :: o)++[10]):=by rw [HTO.out];exact zmm _ [10]
      have hne:=tx_ne (line_ne (o:=o) hh);rw [← hcat] at hne;clear hcat;go_wp2_with fail;exact HF.out
set_option maxHeartbeats 4000000
def dl (t:ByteArray):List UInt8:=t.data.toList
def bkS (l:List ByteArray):List UInt8:=Bk.bookL 0 (l.map dl)
def bkQ (l:List ByteArray):Int:=Bk.sumsL 0 (l.map dl)
theorem zwz (l:List ByteArray):0≤bkQ l∧bkQ l<1000003:=Bk.sumsL_bd _ (by decide) (by decide)
theorem zqj {l:List ByteArray} {k:Nat} {t:ByteArray} (h:l[k]?=some t):bkQ (l.take (k+1))=Bk.sumL (bkQ (l.take k)) (dl t)∧bkS (l.take (k+1))=bkS (l.take k)++Bk.lineL (Bk.sumL (bkQ (l.take k)) (dl t)) (dl t):=by
 unfold bkQ bkS;rw [List.take_add_one,h,Option.toList_some,List.map_append,Bk.sumsL_append,Bk.bookL_append];refine ⟨rfl,?_⟩
 show _++(_++[])=_
 rw [List.append_nil]
theorem zrp {q:Int} (h0:0≤q) (h1:q<1000003) (t:List UInt8):(Bk.lineL q t).length≤t.length+23:=by
 have:=Lib.itoa_length_le q (by omega) (by omega)
 unfold Bk.lineL;simp;omega
theorem zja (l:List ByteArray) (h:∀ t∈l,t.size≤1000000):∀ k,k≤l.length→(bkS (l.take k)).length≤k * 1000023
 | 0,_=>by simp [bkS,Bk.bookL]
 | k+1,hk=>by
  obtain ⟨t,ht⟩:∃ t,l[k]?=some t:=⟨_,List.getElem?_eq_getElem (by omega)⟩
  rw [(zqj ht).2,List.length_append];have h1:=zja l h k (by omega)
  have h2:=h t (List.mem_of_getElem? ht);obtain ⟨b0,b1⟩:=zwz (l.take k);obtain ⟨s0,s1⟩:=Bk.sumL_bd (dl t) b0 b1;have h3:=zrp s0 s1 (dl t);have h4:(dl t).length=t.size:=(zhl t).symm;omega
theorem zsu {T e:TypeId} {B b:Nat} {p:Value} {bs:List Value} {w w':World} (h:Lib.BuilderAt T e B b p bs w) (g:Grow w w'):Lib.BuilderAt T e B b p bs w':=by
 obtain ⟨hB,v,hb,hown,hne⟩:=h;exact ⟨hB,v,g.blk hb,g.owns hown,hne⟩
theorem zow (l:List ByteArray) (v:Value) (w:World) (hg:Glob w) (hl:TextsAt w v l) (hsz:∀ t∈l,t.size≤1000000) (hn:l.length≤100000) (R:Ending→World→Prop)
  (hR:∀ w',Grow w w'→R (.returned (.string (tb (bkS l)))) w') :
  Calls Tryz.prog 47 #[v] w R:=by
 have HR:=jH hR;have HG:=jH hg;have HL:=jH hl;have HSZ:=jH hsz;obtain ⟨va,vc,rfl,v1,v2,jk⟩:=hl;clear hR hg hsz jk
 go_enter func47,ntmps47
 go_wp2_with fail
 go_loopw [4,11] (fun s4 s11 wr=>∃ k:Nat,k≤l.length∧s11=.int .i64 k∧s4=.int .i64 (bkQ (l.take k))∧Grow w wr∧Lib.IsBuilder 140 5 w.heap.size w.heap.size (Lib.byteCells (bkS (l.take k))) wr) (fun _ s11 _=>l.length - (intOf s11).toNat)
 case atStart=>
  exact ⟨0,Nat.zero_le _,rfl,rfl,(Grow.refl w).alloc _,.inl ⟨Nat.le_refl _,.slice none 0 0,heap_alloc_new w (.cells #[.pointer none,.slice none 0 0] 140),World.ownsRow_nil _ _ _ _,by simp [Value.ownBlock]⟩⟩
 case round=>
  obtain ⟨k,hk,rfl,rfl,hg,hb⟩:=hrel;have HGR:=jH hg;have HB:=jH hb;have hzr:=hg.sz;have hbl:=zja l HSZ.out k hk;clear hg hb;by_cases hlt:k<l.length
  ·have hltz:(k:Int)<(l.length:Int):=by omega
   obtain ⟨t,ht⟩:∃ t,l[k]?=some t:=⟨_,List.getElem?_eq_getElem hlt⟩;obtain ⟨_,_,rfl,_,y0⟩:=zcq (HL.out.grow HGR.out) ht;obtain ⟨q,hq⟩:∃ q,bkQ (l.take k)=q:=⟨_,rfl⟩;obtain ⟨q0,q1⟩:=zwz (l.take k);obtain ⟨e1,e2⟩:=zqj ht;have hts:=HSZ.out t (List.mem_of_getElem? ht);have htl:(dl t).length=t.size:=(zhl t).symm;rw [hq] at q0 q1 e1 e2 ⊢;have HE1:=jH e1;have HE2:=jH e2;clear ht e1 e2 hq;go_wp2_with fail;refine zsl q t (by omega) _ (HG.out.grow HGR.out) _ ?_
   intro w1 hg1;rw [Bk.sumS_of q0 q1];obtain ⟨s0,s1⟩:=Bk.sumL_bd (dl t) q0 q1;have hll:=zrp s0 s1 (dl t);have HG1:=jH (HGR.out.trans hg1);have HB1:=jH (show Lib.IsBuilder 140 5 w.heap.size w.heap.size (Lib.byteCells (bkS (l.take k))) w1 from HB.out.imp (fun h=>zsu h hg1) (fun h=>zsu h hg1));have hz1:=hg1.sz;rw [show t.data.toList=dl t from rfl];obtain ⟨sm,hsm⟩:∃ z,Bk.sumL q (dl t)=z:=⟨_,rfl⟩;obtain ⟨ln,hln⟩:∃ z,Bk.lineL sm (dl t)=z:=⟨_,rfl⟩;rw [hsm] at hll HE1 HE2;rw [hln] at hll HE2;rw [hsm,hln];clear hg1 hsm hln;go_wp2_with fail;refine (zju w.heap.size w.heap.size _ (tb ln) _ HB1.out (by rw [Lib.byteCells_length,zck];omega) (by omega)).mono ?_
   rintro e w2 ⟨rfl,hb2,hbl2⟩;have HG2:=jH (show Grow w w2 from Below.trans HG1.out hbl2);have HB2:=jH (show Lib.IsBuilder 140 5 w.heap.size w.heap.size (Lib.byteCells (bkS (l.take (k+1)))) w2 from .inr (by rw [HE2.out,Lib.byteCells_append];rw [Lib.strCells_eq,zbt] at hb2;exact hb2))
   clear hb2 hbl2;go_wp2_with fail;go_roundw
   case rel=>exact ⟨k+1,by omega,by go_num,by rw [HE1.out],HG2.out,HB2.out⟩
   case measure=>simp [intOf];omega
  ·have hk2:k=l.length:=by omega
   subst hk2;have hltz:¬ (l.length:Int)<(l.length:Int):=by omega
   rw [List.take_length] at HB;go_wp2_with fail;refine (Tryz.Builder_String_any w.heap.size w.heap.size (bkS l) _ HB.out hzr).mono ?_;rintro e w2 ⟨rfl,hbl2⟩;have HF:=jH (HR.out w2 (Below.trans HGR.out hbl2));clear hbl2;go_wp2_with fail;exact HF.out
def okL (l:List ByteArray):Bool:=l.all fun t=>Bk.okT (dl t)
def wrE (l:List ByteArray):Int:=if 80<l.length then 3 else if okL l then 0 else 1
def wrS (l:List ByteArray):List UInt8:=if 80<l.length then [] else if okL l then bkS l else []
theorem okL_no {l:List ByteArray} {k:Nat} {t:ByteArray} (h:l[k]?=some t) (hn:Bk.okT (dl t)=false):okL l=false:=by
 unfold okL;rw [← Bool.not_eq_true,List.all_eq_true];intro h2;have:=h2 t (List.mem_of_getElem? h);rw [hn] at this;cases this
theorem zwv {l:List ByteArray} (h:∀ t∈l,Bk.okT (dl t)=true):okL l=true:=List.all_eq_true.2 h
theorem Write_any (l:List ByteArray) (v:Value) (w:World) (hg:Glob w) (hl:TextsAt w v l) (hsz:∀ t∈l,t.size≤1000000) (R:Ending→World→Prop)
  (hR:∀ w',Grow w w'→R (.returned (.tuple #[.string (tb (wrS l)),.int .i64 (wrE l)])) w') :
  Calls Tryz.prog 33 #[v] w R:=by
 have HR:=jH hR;have HG:=jH hg;have HL:=jH hl;have HSZ:=jH hsz;obtain ⟨va,vc,rfl,v1,v2,jk⟩:=hl;clear hR hg hsz jk
 go_enter func33,ntmps33
 by_cases h80:80<l.length
 ·have hz:decide ((l.length:Int) > 80)=true:=by rw [decide_eq_true_eq];omega
  have hf:=HR.out w (Grow.refl _);unfold wrS wrE at hf;rw [if_pos h80,if_pos h80] at hf;have HF:=jH (show R (.returned (.tuple #[.string ⟨#[]⟩,.int .i64 3])) w from hf);clear hf;go_wp2_with fail;exact HF.out
 have hz:decide ((l.length:Int) > 80)=false:=by rw [decide_eq_false_iff_not];omega
 go_wp2_with fail
 go_loopw [11] (fun s11 wr=>∃ k:Nat,k≤l.length∧s11=.int .i64 k∧Grow w wr∧∀ t∈l.take k,Bk.okT (dl t)=true) (fun s11 _=>l.length - (intOf s11).toNat)
 case atStart=>exact ⟨0,Nat.zero_le _,rfl,Grow.refl w,by simp⟩
 case round=>
  obtain ⟨k,hk,rfl,hg,hall⟩:=hrel;have HGR:=jH hg;have HALL:=jH hall;clear hg hall;by_cases hlt:k<l.length
  ·have hltz:(k:Int)<(l.length:Int):=by omega
   obtain ⟨t,ht⟩:∃ t,l[k]?=some t:=⟨_,List.getElem?_eq_getElem hlt⟩;obtain ⟨_,_,rfl,_,y0⟩:=zcq (HL.out.grow HGR.out) ht;have hts:=HSZ.out t (List.mem_of_getElem? ht);have HT:=jH ht;clear ht;go_wp2_with fail;refine zlp t (by omega) _ _ ?_
   intro w1 hg1;have HG1:=jH (HGR.out.trans hg1);rw [show t.data.toList=dl t from rfl];clear hg1;cases hok:Bk.okT (dl t) with
   | false=>
    have hf:=HR.out w1 HG1.out;unfold wrS wrE at hf;rw [if_neg h80,if_neg h80,okL_no HT.out hok] at hf;have HF:=jH (show R (.returned (.tuple #[.string ⟨#[]⟩,.int .i64 1])) w1 from hf);clear hf hok;go_wp2_with fail;exact HF.out
   | true=>
    have HOK:=jH hok;clear hok;go_wp2_with fail;go_roundw
    case rel=>
     refine ⟨k+1,by omega,by go_num,HG1.out,fun u hu=>?_⟩
     rw [List.take_add_one,HT.out] at hu;rcases List.mem_append.1 hu with hu | hu
     ·exact HALL.out u hu
     ·simp at hu;subst hu;exact HOK.out
    case measure=>simp [intOf];omega
  ·have hk2:k=l.length:=by omega
   subst hk2;have hltz:¬ (l.length:Int)<(l.length:Int):=by omega
   have hoky:okL l=true:=zwv (by have:=HALL.out;rwa [List.take_length] at this)
   have HOKY:=jH hoky;clear hoky;go_wp2_with fail;refine zow l _ _ (HG.out.grow HGR.out) (HL.out.grow HGR.out) HSZ.out (by omega) _ ?_
   intro w2 hg2;have hf:=HR.out w2 (HGR.out.trans hg2);unfold wrS wrE at hf;rw [if_neg h80,if_neg h80,HOKY.out,if_pos rfl,if_pos rfl] at hf;have HF:=jH hf;clear hf hg2;go_wp2_with fail;exact HF.out
set_option maxHeartbeats 4000000
def lngT (l:List ByteArray):Bool:=l.any (fun t=>decide (400<t.size)) || decide (300<l.length)
theorem lngT_no {l:List ByteArray} (h:lngT l=false):(∀ t∈l,t.size≤400)∧l.length≤300:=by
 unfold lngT at h;rw [Bool.or_eq_false_iff,decide_eq_false_iff_not] at h;refine ⟨fun t ht=>?_,by omega⟩
 have:=List.any_eq_false.1 h.1 t ht;simp at this;exact this
theorem lngT_hit {l:List ByteArray} {k:Nat} {t:ByteArray} (ht:l[k]?=some t) (h:400<t.size):lngT l=true:=by
 unfold lngT;rw [Bool.or_eq_true];exact .inl (List.any_eq_true.2 ⟨t,List.mem_of_getElem? ht,by simpa using h⟩)
theorem lngT_end {l:List ByteArray} (h:∀ t∈l,t.size≤400):lngT l=decide (300<l.length):=by
 unfold lngT;rw [show l.any (fun t=>decide (400<t.size))=false by rw [List.any_eq_false];intro t ht;have:=h t ht;simp;exact this,Bool.false_or]
theorem Long9_any (l:List ByteArray) (v:Value) (w:World) (hl:TextsAt w v l) (R:Ending→World→Prop) (hR:∀ w',Grow w w'→R (.returned (.bool (lngT l))) w') :
  Calls Tryz.prog 9 #[v] w R:=by
 have HR:=jH hR;have HL:=jH hl;obtain ⟨va,vc,rfl,v1,v2,jk⟩:=hl;clear hR jk
 go_enter func9,ntmps9
 go_wp2_with fail
 go_loopw [3] (fun s3 wr=>∃ k:Nat,k≤l.length∧s3=.int .i64 k∧Grow w wr∧∀ t∈l.take k,t.size≤400) (fun s3 _=>l.length - (intOf s3).toNat)
 case atStart=>exact ⟨0,Nat.zero_le _,rfl,Grow.refl w,by simp⟩
 case round=>
  obtain ⟨k,hk,rfl,hg,hall⟩:=hrel;have HGR:=jH hg;have HALL:=jH hall;clear hg hall;by_cases hlt:k<l.length
  ·have hltz:(k:Int)<(l.length:Int):=by omega
   obtain ⟨t,ht⟩:∃ t,l[k]?=some t:=⟨_,List.getElem?_eq_getElem hlt⟩;obtain ⟨b,o,rfl,hb,y0⟩:=zcq (HL.out.grow HGR.out) ht;have HT:=jH ht;clear ht;by_cases h4:400<t.size
   ·have h4z:decide ((t.size:Int) > 400)=true:=by rw [decide_eq_true_eq];omega
    have hf:=HR.out wr HGR.out;rw [lngT_hit HT.out h4] at hf;have HF:=jH hf;clear hf;go_wp2_with (go_quiet (fail));exact HF.out
   ·have h4z:decide ((t.size:Int) > 400)=false:=by rw [decide_eq_false_iff_not];omega
    go_wp2_with (go_quiet (fail));go_roundw
    case rel=>
     refine ⟨k+1,by omega,by go_num,HGR.out,fun u hu=>?_⟩
     rw [List.take_add_one,HT.out] at hu;rcases List.mem_append.1 hu with hu | hu
     ·exact HALL.out u hu
     ·simp at hu;subst hu;omega
    case measure=>simp [intOf];omega
  ·obtain rfl:k=l.length:=by omega
   have hltz:¬ (l.length:Int)<(l.length:Int):=by omega
   have hf:=HR.out wr HGR.out;rw [lngT_end (by have:=HALL.out;rwa [List.take_length] at this)] at hf
   have hd:decide ((l.length:Int) > 300)=decide (300<l.length):=by rw [decide_eq_decide];omega
   obtain ⟨q,hq⟩:∃ q,decide (300<l.length)=q:=⟨_,rfl⟩;rw [hq] at hf hd;have HF:=jH hf;clear hf hq;go_wp2_with fail;exact HF.out
end Go.Proofs.YtmeejlgnhfkeaaaGreatDoor
