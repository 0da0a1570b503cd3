
import Derived.Test.YtmeejlgnhfkeaaaGreatDoorR47
import Derived.Test.YtmeejlgnhfkeaaaGreatDoorR32
namespace Go.Proofs.YtmeejlgnhfkeaaaGreatDoor
open Go.RowKit Go.Proofs.Tryz
set_option maxRecDepth 100000
set_option maxHeartbeats 4000000
theorem wds_tb (l:List UInt8):wordsB (tb l)=(wds l).map tb:=by
 have h:=wds_words (tb l);rw [zbt] at h;rw [← h,List.map_map]
 conv=>lhs;rw [← List.map_id (wordsB (tb l))]
 refine List.map_congr_left fun x _=>?_;exact (tb_of x).symm
theorem zwn {u:ByteArray} (h:formB u=none):cntW u=-1:=by unfold cntW;rw [h]
theorem zxu {u:ByteArray} {k n:Nat} (h:formB u=some (k,n)):cntW u=(n:Int):=by unfold cntW;rw [h]
theorem zuf (l:List UInt8) (hl:l.length<4294967281) (w:World) (hg:Glob w) (R:Ending→World→Prop)
  (hno:parseB (tb l)=none→∀ w',Grow w w'→R (.returned (.tuple #[.string ⟨#[]⟩,.slice none 0 0,.bool false])) w')
  (hyes:∀ k ns u,parseB (tb l)=some (k,ns)→formB u=some (k,ns.length)→∀ w' v,Grow w w'→OwnI w.heap.size w' v ns→R (.returned (.tuple #[.string u,v,.bool true])) w') :
  Calls Tryz.prog 38 #[.string (tb l)] w R:=by
 have HNO:=jH hno;have HY:=jH hyes;have HG:=jH hg;clear hno hyes hg;have HTS:=jH (zck l);obtain ⟨u,us,hu⟩:=zgb (tb l);have HU:=jH hu;have hul:=zmo (tb l);rw [hu] at hul;have HUL:=jH hul;clear hu hul
 go_enter func38,ntmps38
 by_cases h1:l.length<1
 ·have hz1:((tb l).size:Int)<1:=by have:=HTS.out;omega
  have HF:=jH (HNO.out (by obtain rfl:l=[]:=List.eq_nil_of_length_eq_zero (by omega);decide +kernel) w (Grow.refl w))
  go_wp2_with fail;exact bodyPost_ret (by simp [results,Tryz.results38,go_sem]) rfl HF.out
 have hz1:¬ ((tb l).size:Int)<1:=by have:=HTS.out;omega
 by_cases h30:30<l.length
 ·have hz3:((tb l).size:Int) > 30:=by have:=HTS.out;omega
  have HF:=jH (HNO.out (zca HU.out (by
   cases hf:formB u with
   | none=>exact .inl rfl
   | some x=>exact .inr ⟨x.1,x.2,rfl,.inl (by rw [HTS.out];exact h30)⟩)) w (Grow.refl w))
  go_wp2_with fail;exact bodyPost_ret (by simp [results,Tryz.results38,go_sem]) rfl HF.out
 have hz3:¬ ((tb l).size:Int) > 30:=by have:=HTS.out;omega
 go_wp2_with fail;refine zvv l (by omega) _ _ ?_
 intro w1 v1 hg1 ho1;rw [← wds_tb,HU.out] at ho1;have HG1:=jH hg1;have HT1:=jH (zaa zbi ho1);obtain ⟨a,c,rfl,q1,q2,jk⟩:=zaa zbi ho1;clear hg1 ho1 jk;obtain ⟨b,o,rfl,hbl,y0⟩:=zcq HT1.out (k:=0) (t:=u) rfl;rw [Nat.add_zero] at y0;have hz0:(0:Int)<((us.length+1:Nat):Int):=by omega
 rw [List.length_cons] at q1 HT1 ⊢;have husl:us.length≤31:=by have:=HUL.out;have:=HTS.out;rw [List.length_cons] at *;omega
 go_wp2_with fail;refine zuu u _ _ ?_;cases hf:formB u with
 | none=>
  rw [zwn hf];have HF:=jH (HNO.out (zca HU.out (.inl hf)) w1 HG1.out);have hsub:IntKind.i64.wrap (((us.length+1:Nat):Int) - 1)=(us.length:Int):=by rw [show ((us.length+1:Nat):Int) - 1=(us.length:Int) by omega];exact IntWalk.i64_in _ (by omega)
  have hne:((-1:Int) != (us.length:Int))=true:=bne_iff_ne.2 (by omega)
  clear hf;go_wp2_with fail;exact bodyPost_ret (by simp [results,Tryz.results38,go_sem]) rfl HF.out
 | some x=>
 obtain ⟨k,n⟩:=x;rw [zxu hf];have hsub:IntKind.i64.wrap (((us.length+1:Nat):Int) - 1)=(us.length:Int):=by rw [show ((us.length+1:Nat):Int) - 1=(us.length:Int) by omega];exact IntWalk.i64_in _ (by omega)
 by_cases hn:us.length=n;rotate_left
 ·have HF:=jH (HNO.out (zca HU.out (.inr ⟨k,n,hf,.inr (.inl hn)⟩)) w1 HG1.out);have hne:((n:Int) != (us.length:Int))=true:=bne_iff_ne.2 (by omega)
  clear hf;go_wp2_with fail;exact bodyPost_ret (by simp [results,Tryz.results38,go_sem]) rfl HF.out
 subst hn;have hne:((us.length:Int) != (us.length:Int))=false:=by simp
 have HNN:=jH (fun hnn=>HNO.out (zca HU.out (.inr ⟨k,_,hf,.inr (.inr hnn)⟩)));have HYY:=jH (fun ns (hns:numsW us=some ns)=>HY.out k ns u (zin HU.out hf (by rw [HTS.out];exact h30) rfl hns) (by rw [hf,zfv hns]))
 clear hf;go_wp2_with fail
 go_loopw [6,7] (fun s6 s7 wr=>∃ (j:Nat) (xs:List Int) (na:Option Addr) (nc:Nat),j≤us.length∧s6=.slice na xs.length nc∧s7=.int .i64 ((j+1:Nat):Int)∧numsW (us.take j)=some xs∧xs.length=j∧Grow w1 wr∧wr.ownsRow w1.heap.size 3 1 (.slice na xs.length nc) xs.length (xs.flatMap encI)) (fun _ s7 _=>us.length+1 - (intOf s7).toNat)
 case atStart=>exact ⟨0,[],none,0,Nat.zero_le _,rfl,rfl,rfl,rfl,Grow.refl _,World.ownsRow_nil _ _ _ _⟩
 case round=>
  obtain ⟨j,xs,na,nc,hj,rfl,rfl,hxs,hxl,hgr,hown⟩:=hrel;have HXS:=jH hxs;have HXL:=jH hxl;have HGR:=jH hgr;have HOW:=jH hown;clear hxs hxl hgr hown;by_cases hju:j<us.length;rotate_left
  ·obtain rfl:j=us.length:=by omega
   have hiz:¬ ((us.length+1:Nat):Int)<((us.length+1:Nat):Int):=by omega
   have hall:numsW us=some xs:=by have:=HXS.out;rwa [List.take_length] at this
   have HF:=jH (HYY.out xs hall wr _ (HG1.out.trans HGR.out) ⟨_,zbu HOW.out HG1.out.sz⟩);have hy0:=HGR.out.cell y0;clear hall;go_wp2_with fail;exact bodyPost_ret (by simp [results,Tryz.results38,go_sem]) rfl HF.out
  have hiz:((j+1:Nat):Int)<((us.length+1:Nat):Int):=by omega
  obtain ⟨x,hx⟩:∃ x,us[j]?=some x:=⟨_,List.getElem?_eq_getElem hju⟩;obtain ⟨b',o',hab,hbl',y1⟩:=zcq (HT1.out.grow HGR.out) (k:=j+1) (t:=x) (by rw [List.getElem?_cons_succ];exact hx)
  cases hab;have hxsz:x.size≤(tb l).size:=zgg (by rw [HU.out];exact List.mem_cons_of_mem _ (List.mem_of_getElem? hx))
  obtain ⟨xl,rfl⟩:∃ xl,x=tb xl:=⟨x.data.toList,(tb_of x).symm⟩;have HX:=jH hx;have hxll:xl.length≤1000:=by have:=zck xl;have:=HTS.out;omega
  clear hx hxsz;go_wp2_with fail;refine zqg xl hxll _ (HG.out.grow (HG1.out.trans HGR.out)) _ ?_;intro w2 m hg2 hm;have HG2:=jH hg2;have HM:=jH hm;have hdn:=doc_num (tb xl);rw [zbt] at hdn;have HDN:=jH hdn;clear hg2 hm hdn;cases hd:docN xl with
  | none=>
   have HF:=jH (HNN.out (zem HX.out (HDN.out.symm.trans hd)) w2 (HG1.out.trans (HGR.out.trans HG2.out)));clear hd;go_wp2_with fail;exact bodyPost_ret (by simp [results,Tryz.results38,go_sem]) rfl HF.out
  | some n=>
   obtain rfl:m=n:=HM.out n hd;have hsn:=zmg HX.out HXS.out;rw [← HDN.out,hd] at hsn;have HSN:=jH hsn;clear hd hsn;go_wp2_with (at_builtin;refine Classical.byContradiction (fun hcon=>?_));refine hcon ?_;clear hcon;have hbs:w1.heap.size≤w2.heap.size:=Nat.le_trans HGR.out.sz HG2.out.sz;refine zad _ rfl (.tmp 44) (.tmp 46) 61 rfl w1.heap.size 3 underlying61 zga rfl (by decide) (by decide) encI zal zcx (.slice na xs.length nc) xs rfl (((Grow.refl w2).alloc _).owns (HG2.out.owns HOW.out)) _ m 1 rfl (zbj w2 (encI m) 3) (by have:=HXL.out;omega) (by simp;omega) ?_
   intro v9 w9 hown9 hgr9;have hH9:Grow w1 w9:=zae (B:=w1.heap.size) (((Grow.refl w2).alloc (.cells (encI m).toArray 3)).owns (HG2.out.owns HOW.out)) hgr9 (Nat.le_refl _) (by have:=HGR.out.sz;have:=HG2.out.sz;simp;omega) (show Grow w1 _ from (HGR.out.trans HG2.out).alloc _)
   obtain ⟨a9,c9,rfl⟩:∃ a c,v9=.slice a (xs.length+1) c:=by
    rcases hown9.2 with ⟨hv,h0⟩ | ⟨g,cap,cur,hv,_⟩
    ·simp at h0
    ·exact ⟨some ⟨g,0,none⟩,cap,by rw [hv];simp⟩
   have HW9:=jH hown9;have HH9:=jH hH9;clear hown9 hgr9 hH9;go_wp2_with fail;go_roundw
   case rel=>exact ⟨j+1,xs++[m],a9,c9,by omega,by rw [List.length_append,List.length_singleton],by go_num,HSN.out,by rw [List.length_append,List.length_singleton,HXL.out],HH9.out,by simpa using HW9.out⟩
   case measure=>simp [intOf];omega
end Go.Proofs.YtmeejlgnhfkeaaaGreatDoor
