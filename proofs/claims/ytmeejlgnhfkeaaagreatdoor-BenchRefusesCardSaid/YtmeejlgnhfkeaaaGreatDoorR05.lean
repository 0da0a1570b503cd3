/- Parts. -/
import Derived.Test.YtmeejlgnhfkeaaaGreatDoorR00
import Derived.Test.YtmeejlgnhfkeaaaGreatDoorR03
import Derived.BigGuard
import Derived.Test.YtmeejlgnhfkeaaaGreatDoorR04
namespace Go.Proofs.YtmeejlgnhfkeaaaGreatDoor
open Go.RowKit Go.Proofs.Tryz
set_option maxRecDepth 100000
set_option maxHeartbeats 16000000
theorem box5 {w:World} {b:Nat} {c0 c1 c2 c3 c4:Value} {e:TypeId} (h:w.heap[b]?=some (.cells #[c0,c1,c2,c3,c4] e (0,0))):w.cell? ⟨b,0,none⟩=some c0∧w.cell? ⟨b,1,none⟩=some c1∧w.cell? ⟨b,2,none⟩=some c2∧w.cell? ⟨b,3,none⟩=some c3∧w.cell? ⟨b,4,none⟩=some c4:=by
 refine ⟨?_,?_,?_,?_,?_⟩<;>(unfold World.cell?;simp only [h];rfl)
theorem keep5 {w2 X Y:World} {a0 a1 a2 a3 a4:Addr} {v0 v1 v2 v3 v4:Value} (g:Grow X Y)
  (h:X.cell? a0=some v0∧X.cell? a1=some v1∧X.cell? a2=some v2∧X.cell? a3=some v3∧X.cell? a4=some v4∧Grow w2 X) :
  Y.cell? a0=some v0∧Y.cell? a1=some v1∧Y.cell? a2=some v2∧Y.cell? a3=some v3∧Y.cell? a4=some v4∧Grow w2 Y:=
 ⟨g.cell h.1,g.cell h.2.1,g.cell h.2.2.1,g.cell h.2.2.2.1,g.cell h.2.2.2.2.1,h.2.2.2.2.2.trans g⟩
theorem keep6 {w2 X Y:World} {a0 a1 a2 a3 a4 a5:Addr} {v0 v1 v2 v3 v4 v5:Value} (g:Grow X Y)
  (h:X.cell? a0=some v0∧X.cell? a1=some v1∧X.cell? a2=some v2∧X.cell? a3=some v3∧X.cell? a4=some v4∧X.cell? a5=some v5∧Grow w2 X) :
  Y.cell? a0=some v0∧Y.cell? a1=some v1∧Y.cell? a2=some v2∧Y.cell? a3=some v3∧Y.cell? a4=some v4∧Y.cell? a5=some v5∧Grow w2 Y:=
 ⟨g.cell h.1,g.cell h.2.1,g.cell h.2.2.1,g.cell h.2.2.2.1,g.cell h.2.2.2.2.1,g.cell h.2.2.2.2.2.1,h.2.2.2.2.2.2.trans g⟩
theorem znz {f:Nat→Bool} {k:Nat} (h:∀ i<k,f i=true) (hk:f k=true):∀ i<k+1,f i=true:=fun i hi=>by
 by_cases e:i=k
 ·rw [e];exact hk
 ·exact h i (by omega)
theorem zdp (x:List Ed) (v:Value) (w:World) (hx:EditsAt w v x) (R:Ending→World→Prop) (hR:∀ w',Grow w w'→R (.returned (.int .i64 (valX x))) w') :
  Calls Tryz.prog 138 #[v] w R:=by
 have HX:=jH hx;have HR:=jH hR;obtain ⟨a,c,rfl,h1,h2,_⟩:=hx;clear hR;by_cases hl:4<x.length
 ·have hv:valX x=3:=by unfold valX;rw [if_pos hl]
  rw [hv] at HR;have hl2:(x.length:Int) > 4:=by omega
  go_enter func138,ntmps138
  go_wp2_with fail;exact HR.out _ (Grow.refl _)
 ·have hv:valX x=errB (edsOK x):=by unfold valX;rw [if_neg hl]
  rw [hv] at HR;clear hv;have hl2:¬ (x.length:Int) > 4:=by omega
  go_enter func138,ntmps138
  go_wp2_with fail
  go_loopw [3,4,10] (fun _ _ i wr=>∃ k:Nat,k≤x.length∧i=.int .i64 k∧Grow w wr∧∀ i<k,edOK x i=true) (fun _ _ i _=>x.length - (intOf i).toNat)
  case atStart=>exact ⟨0,Nat.zero_le _,rfl,Grow.refl _,fun i hi=>by omega⟩
  case round=>
   obtain ⟨k,hk,rfl,hg,hall⟩:=hrel;have HG:=jH hg;have HALL:=jH hall;have hzw:=hg.sz;clear hg hall;by_cases hlt:k<x.length;rotate_left
   ·rw [zid HALL.out (by omega),zeb] at HR
    have HF:=jH (HR.out _ HG.out);go_wp2_with fail;exact HF.out
   obtain ⟨⟨t,op,d,a',b'⟩,he⟩:∃ e,x[k]?=some e:=⟨_,List.getElem?_eq_getElem hlt⟩;have hiff:=zgd he;dsimp only at hiff;have HIFF:=jH hiff;have hltk:(k:Int)<(x.length:Int):=by omega
   have hpv:(k=0∧prevAt x k=-1)∨∃ (j:Nat) (q:Ed),k=j+1∧x[j]?=some q∧prevAt x k=q.at_:=by
    by_cases h0:k=0
    ·exact .inl ⟨h0,by unfold prevAt;rw [if_pos h0]⟩
    ·obtain ⟨q,hq⟩:∃ q,x[k - 1]?=some q:=⟨_,List.getElem?_eq_getElem (by omega)⟩
     exact .inr ⟨k - 1,q,by omega,hq,by unfold prevAt;rw [if_neg h0,hq]⟩
   obtain ⟨pv,hpvd⟩:∃ z,prevAt x k=z:=⟨_,rfl⟩;rw [hpvd] at hpv HIFF;clear hiff hpvd;obtain ⟨gb,o,rfl,hgb,y0,y1,y2,y3,y4⟩:=zci (HX.out.grow HG.out) he;have HE:=jH he;clear he;have BX:=jH (heap_alloc_new wr (.cells #[.int .i64 t,.int .i64 op,.int .i64 d,.int .i64 a',.int .i64 b'] 60));have GX:=jH ((Grow.refl wr).alloc (.cells #[.int .i64 t,.int .i64 op,.int .i64 d,.int .i64 a',.int .i64 b'] 60));rcases hpv with ⟨h0,hpv⟩ | ⟨j,q,hkj,hq,hpv⟩
   ·have hk0:¬ (k:Int) > 0:=by omega
    subst hpv;by_cases s0:t<0
    ·skip
     have HOKK:=jH (show edOK x k=false by rw [← Bool.not_eq_true,HIFF.out];omega)
     have s0d0:decide (t<0)=true:=by simp;omega
     try clear h0
     go_wp2_with fail;generalize wr.alloc (.cells #[.int .i64 t,.int .i64 op,.int .i64 d,.int .i64 a',.int .i64 b'] 60)=W at BX GX ⊢;obtain ⟨c0,c1,c2,c3,c4⟩:=box5 BX.out;have hz:=lt_of_block BX.out;clear y0 y1 y2 y3 y4;have HF:=HR.out;rw [zdz hlt HOKK.out,zbv] at HF;have HF2:=jH HF;clear HF;go_wp2_with (go_quiet (fail));exact HF2.out _ (HG.out.trans (GX.out.drewN _))
    by_cases s1:8≤t
    ·skip
     have HOKK:=jH (show edOK x k=false by rw [← Bool.not_eq_true,HIFF.out];omega)
     have s0d0:decide (t<0)=false:=by simp;omega
     have s1d0:decide (t≥8)=true:=by simp;omega
     have s1d1:decide (8≤t)=true:=by simp;omega
     try clear h0
     go_wp2_with fail;generalize wr.alloc (.cells #[.int .i64 t,.int .i64 op,.int .i64 d,.int .i64 a',.int .i64 b'] 60)=W at BX GX ⊢;obtain ⟨c0,c1,c2,c3,c4⟩:=box5 BX.out;have hz:=lt_of_block BX.out;clear y0 y1 y2 y3 y4;have HF:=HR.out;rw [zdz hlt HOKK.out,zbv] at HF;have HF2:=jH HF;clear HF;go_wp2_with (go_quiet (fail));exact HF2.out _ (HG.out.trans (GX.out.drewN _))
    obtain ⟨q,hv⟩:∃ q,vL op d a' b'=q:=⟨_,rfl⟩;have HOKK:=jH (show edOK x k=q from by
     cases q with
     | true=>exact HIFF.out.2 ⟨by omega,by omega,hv⟩
     | false=>rw [← Bool.not_eq_true,HIFF.out];rintro ⟨_,_,h⟩;unfold Ln.ok at h;rw [hv] at h;cases h)
    have HV:=jH (show errB (vL op d a' b')=errB q by rw [hv])
    have hzq:(errB q != 0)=!q:=by cases q<;>rfl
    clear hv;have s0d0:decide (t<0)=false:=by simp;omega
    have s1d0:decide (t≥8)=false:=by simp;omega
    have s1d1:decide (8≤t)=false:=by simp;omega
    have kzd0:decide ((k:Int) > 0)=false:=by simp;omega
    have kzd1:decide (0<(k:Int))=false:=by simp;omega
    have kzd2:decide (0<k)=false:=by simp;omega
    clear h0;try clear h0
    go_wp2_with fail;generalize wr.alloc (.cells #[.int .i64 t,.int .i64 op,.int .i64 d,.int .i64 a',.int .i64 b'] 60)=W at BX GX ⊢;obtain ⟨c0,c1,c2,c3,c4⟩:=box5 BX.out;have hz:=lt_of_block BX.out;clear y0 y1 y2 y3 y4;refine wp_region_held_drew (S:=fun X=>X.cell? ⟨wr.heap.size,0,none⟩=some (.int .i64 t)∧X.cell? ⟨wr.heap.size,1,none⟩=some (.int .i64 op)∧X.cell? ⟨wr.heap.size,2,none⟩=some (.int .i64 d)∧X.cell? ⟨wr.heap.size,3,none⟩=some (.int .i64 a')∧X.cell? ⟨wr.heap.size,4,none⟩=some (.int .i64 b')∧Grow W X) (by kernel_rfl) ⟨c0,c1,c2,c3,c4,(Grow.refl W).drew⟩ (fun hH=>?_)
    refine tkA 0 (.pointer (some ⟨wr.heap.size,0,none⟩)) rfl ?_ hH ?_
    ·intro w9 hw9;obtain ⟨d0,d1,d2,d3,d4,dg⟩:=hw9;go_simp
    simp only [nrm];refine tkA 1 (.int .i64 t) rfl ?_ hH ?_
    ·intro w9 hw9;obtain ⟨d0,d1,d2,d3,d4,dg⟩:=hw9;go_simp
    simp only [nrm];refine tkA 2 (.bool false) rfl ?_ hH ?_
    ·intro w9 hw9;obtain ⟨d0,d1,d2,d3,d4,dg⟩:=hw9;go_simp
    simp only [nrm];refine tkA 3 (.bool false) rfl ?_ hH ?_
    ·intro w9 hw9;obtain ⟨d0,d1,d2,d3,d4,dg⟩:=hw9;go_simp
    simp only [nrm];refine tkA 4 (.pointer (some ⟨wr.heap.size,0,none⟩)) rfl ?_ hH ?_
    ·intro w9 hw9;obtain ⟨d0,d1,d2,d3,d4,dg⟩:=hw9;go_simp
    simp only [nrm];refine tkA 5 (.int .i64 t) rfl ?_ hH ?_
    ·intro w9 hw9;obtain ⟨d0,d1,d2,d3,d4,dg⟩:=hw9;go_simp
    simp only [nrm];refine tkA 6 (.bool false) rfl ?_ hH ?_
    ·intro w9 hw9;obtain ⟨d0,d1,d2,d3,d4,dg⟩:=hw9;go_simp
    simp only [nrm];refine tkA 7 (.bool false) rfl ?_ hH ?_
    ·intro w9 hw9;obtain ⟨d0,d1,d2,d3,d4,dg⟩:=hw9;go_simp
    simp only [nrm];refine tkA 8 (.bool false) rfl ?_ hH ?_
    ·intro w9 hw9;obtain ⟨d0,d1,d2,d3,d4,dg⟩:=hw9;go_simp
    simp only [nrm];refine tkA 9 (.int .i64 k) rfl ?_ hH ?_
    ·intro w9 hw9;obtain ⟨d0,d1,d2,d3,d4,dg⟩:=hw9;go_simp
    simp only [nrm];refine tkA 10 (.bool false) rfl ?_ hH ?_
    ·intro w9 hw9;obtain ⟨d0,d1,d2,d3,d4,dg⟩:=hw9;go_simp
    simp only [nrm];refine tkA 11 (.bool false) rfl ?_ hH ?_
    ·intro w9 hw9;obtain ⟨d0,d1,d2,d3,d4,dg⟩:=hw9;go_simp
    simp only [nrm];refine tkS 12 rfl hH ?_;simp only [nrm];refine tkS 13 rfl hH ?_;simp only [nrm];refine tkS 14 rfl hH ?_;simp only [nrm];refine tkS 15 rfl hH ?_;simp only [nrm];refine tkS 16 rfl hH ?_;simp only [nrm];refine tkS 17 rfl hH ?_;simp only [nrm];refine tkS 18 rfl hH ?_;simp only [nrm];refine tkS 19 rfl hH ?_;simp only [nrm];refine tkS 20 rfl hH ?_;simp only [nrm];refine tkA 21 (.bool false) rfl ?_ hH ?_
    ·intro w9 hw9;obtain ⟨d0,d1,d2,d3,d4,dg⟩:=hw9;go_simp
    simp only [nrm];refine tkA 22 (.bool false) rfl ?_ hH ?_
    ·intro w9 hw9;obtain ⟨d0,d1,d2,d3,d4,dg⟩:=hw9;go_simp
    simp only [nrm];refine tkA 23 (.bool false) rfl ?_ hH ?_
    ·intro w9 hw9;obtain ⟨d0,d1,d2,d3,d4,dg⟩:=hw9;go_simp
    simp only [nrm];refine tkA 24 (.pointer (some ⟨wr.heap.size,1,none⟩)) rfl ?_ hH ?_
    ·intro w9 hw9;obtain ⟨d0,d1,d2,d3,d4,dg⟩:=hw9;go_simp
    simp only [nrm];refine tkA 25 (.agg #[.int .i64 op,.int .i64 d,.int .i64 a',.int .i64 b']) rfl ?_ hH ?_
    ·intro w9 hw9;obtain ⟨d0,d1,d2,d3,d4,dg⟩:=hw9;go_simp
    simp only [nrm];refine tk1 26 rfl fun K hK=>?_;go_simp;refine zbe op d a' b' _ _ ?_;intro w8 hg8;rw [HV.out];go_wp2_with fail;refine hK.out _ _ (keep5 hg8 hH) (fun hH2=>?_);have hgW:Grow W w8:=hH2.2.2.2.2.2;clear hK K hH;have hH:=hH2;clear hH2;refine tkA 27 (.bool (!q)) rfl ?_ hH ?_
    ·intro w9 hw9;obtain ⟨d0,d1,d2,d3,d4,dg⟩:=hw9;go_simp
    simp only [nrm];refine tkA 28 (.bool (!q)) rfl ?_ hH ?_
    ·intro w9 hw9;obtain ⟨d0,d1,d2,d3,d4,dg⟩:=hw9;go_simp
    simp only [nrm];refine wpAnyH_done (by kernel_rfl) ?_ _
    have HGW:=jH (HG.out.trans (GX.out.trans hgW));clear hgW;cases q with
    | true=>
     go_wp2_with fail;go_roundw
     case rel=>exact ⟨k+1,by omega,by go_num,HGW.out,znz HALL.out HOKK.out⟩
     case measure=>simp [intOf];omega
    | false=>
     have HF:=HR.out;rw [zdz hlt HOKK.out,zbv] at HF;have HF2:=jH HF;clear HF;go_wp2_with fail;exact HF2.out _ HGW.out
   ·have hk0:(k:Int) > 0:=by omega
    obtain ⟨qt,qo,qd,qa,qb⟩:=q;dsimp only at hpv;obtain ⟨gb2,o2,e2,_,q0,_⟩:=zci (HX.out.grow HG.out) hq;cases e2;subst hpv;have hkj2:(k:Int) - 1=(j:Int):=by omega
    have hjx:(j:Int)<(x.length:Int):=by omega
    have hwj:IntKind.i64.wrap (j:Int)=(j:Int):=IntWalk.i64_in _ (by omega)
    have hj0:(0:Int)≤(j:Int):=by omega
    have hjn:j<x.length:=by omega
    clear hq hkj;by_cases s0:t<0
    ·skip
     have HOKK:=jH (show edOK x k=false by rw [← Bool.not_eq_true,HIFF.out];omega)
     have s0d0:decide (t<0)=true:=by simp;omega
     try clear h0
     go_wp2_with fail;generalize wr.alloc (.cells #[.int .i64 t,.int .i64 op,.int .i64 d,.int .i64 a',.int .i64 b'] 60)=W at BX GX ⊢;obtain ⟨c0,c1,c2,c3,c4⟩:=box5 BX.out;have hz:=lt_of_block BX.out;have p0:=GX.out.cell q0;have hz2:gb<W.heap.size:=by have:=GX.out.sz;omega
     clear y0 y1 y2 y3 y4 q0;have HF:=HR.out;rw [zdz hlt HOKK.out,zbv] at HF;have HF2:=jH HF;clear HF;go_wp2_with (go_quiet (fail));exact HF2.out _ (HG.out.trans (GX.out.drewN _))
    by_cases s1:8≤t
    ·skip
     have HOKK:=jH (show edOK x k=false by rw [← Bool.not_eq_true,HIFF.out];omega)
     have s0d0:decide (t<0)=false:=by simp;omega
     have s1d0:decide (t≥8)=true:=by simp;omega
     have s1d1:decide (8≤t)=true:=by simp;omega
     try clear h0
     go_wp2_with fail;generalize wr.alloc (.cells #[.int .i64 t,.int .i64 op,.int .i64 d,.int .i64 a',.int .i64 b'] 60)=W at BX GX ⊢;obtain ⟨c0,c1,c2,c3,c4⟩:=box5 BX.out;have hz:=lt_of_block BX.out;have p0:=GX.out.cell q0;have hz2:gb<W.heap.size:=by have:=GX.out.sz;omega
     clear y0 y1 y2 y3 y4 q0;have HF:=HR.out;rw [zdz hlt HOKK.out,zbv] at HF;have HF2:=jH HF;clear HF;go_wp2_with (go_quiet (fail));exact HF2.out _ (HG.out.trans (GX.out.drewN _))
    by_cases s2:t≤pv
    ·skip
     have HOKK:=jH (show edOK x k=false by rw [← Bool.not_eq_true,HIFF.out];omega)
     have s0d0:decide (t<0)=false:=by simp;omega
     have s1d0:decide (t≥8)=false:=by simp;omega
     have s1d1:decide (8≤t)=false:=by simp;omega
     have kzd0:decide ((k:Int) > 0)=true:=by simp;omega
     have kzd1:decide (0<(k:Int))=true:=by simp;omega
     have kzd2:decide (0<k)=true:=by simp;omega
     have s2d0:decide (pv≥t)=true:=by simp;omega
     have s2d1:decide (t≤pv)=true:=by simp;omega
     try clear h0
     go_wp2_with fail;generalize wr.alloc (.cells #[.int .i64 t,.int .i64 op,.int .i64 d,.int .i64 a',.int .i64 b'] 60)=W at BX GX ⊢;obtain ⟨c0,c1,c2,c3,c4⟩:=box5 BX.out;have hz:=lt_of_block BX.out;have p0:=GX.out.cell q0;have hz2:gb<W.heap.size:=by have:=GX.out.sz;omega
     clear y0 y1 y2 y3 y4 q0;have HF:=HR.out;rw [zdz hlt HOKK.out,zbv] at HF;have HF2:=jH HF;clear HF;go_wp2_with (go_quiet (fail));exact HF2.out _ (HG.out.trans (GX.out.drewN _))
    obtain ⟨q,hv⟩:∃ q,vL op d a' b'=q:=⟨_,rfl⟩;have HOKK:=jH (show edOK x k=q from by
     cases q with
     | true=>exact HIFF.out.2 ⟨by omega,by omega,hv⟩
     | false=>rw [← Bool.not_eq_true,HIFF.out];rintro ⟨_,_,h⟩;unfold Ln.ok at h;rw [hv] at h;cases h)
    have HV:=jH (show errB (vL op d a' b')=errB q by rw [hv])
    have hzq:(errB q != 0)=!q:=by cases q<;>rfl
    clear hv;have s0d0:decide (t<0)=false:=by simp;omega
    have s1d0:decide (t≥8)=false:=by simp;omega
    have s1d1:decide (8≤t)=false:=by simp;omega
    have kzd0:decide ((k:Int) > 0)=true:=by simp;omega
    have kzd1:decide (0<(k:Int))=true:=by simp;omega
    have kzd2:decide (0<k)=true:=by simp;omega
    have s2d0:decide (pv≥t)=false:=by simp;omega
    have s2d1:decide (t≤pv)=false:=by simp;omega
    try clear h0
    go_wp2_with fail;generalize wr.alloc (.cells #[.int .i64 t,.int .i64 op,.int .i64 d,.int .i64 a',.int .i64 b'] 60)=W at BX GX ⊢;obtain ⟨c0,c1,c2,c3,c4⟩:=box5 BX.out;have hz:=lt_of_block BX.out;have p0:=GX.out.cell q0;have hz2:gb<W.heap.size:=by have:=GX.out.sz;omega
    clear y0 y1 y2 y3 y4 q0;refine wp_region_held_drew (S:=fun X=>X.cell? ⟨wr.heap.size,0,none⟩=some (.int .i64 t)∧X.cell? ⟨wr.heap.size,1,none⟩=some (.int .i64 op)∧X.cell? ⟨wr.heap.size,2,none⟩=some (.int .i64 d)∧X.cell? ⟨wr.heap.size,3,none⟩=some (.int .i64 a')∧X.cell? ⟨wr.heap.size,4,none⟩=some (.int .i64 b')∧X.cell? ⟨gb,o+j * 5,none⟩=some (.int .i64 pv)∧Grow W X) (by kernel_rfl) ⟨c0,c1,c2,c3,c4,p0,(Grow.refl W).drew⟩ (fun hH=>?_)
    refine tkA 0 (.pointer (some ⟨wr.heap.size,0,none⟩)) rfl ?_ hH ?_
    ·intro w9 hw9;obtain ⟨d0,d1,d2,d3,d4,dp,dg⟩:=hw9;go_simp
    simp only [nrm];refine tkA 1 (.int .i64 t) rfl ?_ hH ?_
    ·intro w9 hw9;obtain ⟨d0,d1,d2,d3,d4,dp,dg⟩:=hw9;go_simp
    simp only [nrm];refine tkA 2 (.bool false) rfl ?_ hH ?_
    ·intro w9 hw9;obtain ⟨d0,d1,d2,d3,d4,dp,dg⟩:=hw9;go_simp
    simp only [nrm];refine tkA 3 (.bool false) rfl ?_ hH ?_
    ·intro w9 hw9;obtain ⟨d0,d1,d2,d3,d4,dp,dg⟩:=hw9;go_simp
    simp only [nrm];refine tkA 4 (.pointer (some ⟨wr.heap.size,0,none⟩)) rfl ?_ hH ?_
    ·intro w9 hw9;obtain ⟨d0,d1,d2,d3,d4,dp,dg⟩:=hw9;go_simp
    simp only [nrm];refine tkA 5 (.int .i64 t) rfl ?_ hH ?_
    ·intro w9 hw9;obtain ⟨d0,d1,d2,d3,d4,dp,dg⟩:=hw9;go_simp
    simp only [nrm];refine tkA 6 (.bool false) rfl ?_ hH ?_
    ·intro w9 hw9;obtain ⟨d0,d1,d2,d3,d4,dp,dg⟩:=hw9;go_simp
    simp only [nrm];refine tkA 7 (.bool false) rfl ?_ hH ?_
    ·intro w9 hw9;obtain ⟨d0,d1,d2,d3,d4,dp,dg⟩:=hw9;go_simp
    simp only [nrm];refine tkA 8 (.bool false) rfl ?_ hH ?_
    ·intro w9 hw9;obtain ⟨d0,d1,d2,d3,d4,dp,dg⟩:=hw9;go_simp
    simp only [nrm];refine tkA 9 (.int .i64 k) rfl ?_ hH ?_
    ·intro w9 hw9;obtain ⟨d0,d1,d2,d3,d4,dp,dg⟩:=hw9;go_simp
    simp only [nrm];refine tkA 10 (.bool true) rfl ?_ hH ?_
    ·intro w9 hw9;obtain ⟨d0,d1,d2,d3,d4,dp,dg⟩:=hw9;go_simp
    simp only [nrm];refine tkA 11 (.bool true) rfl ?_ hH ?_
    ·intro w9 hw9;obtain ⟨d0,d1,d2,d3,d4,dp,dg⟩:=hw9;go_simp
    simp only [nrm];refine tkA 12 (.slice (some ⟨gb,o,none⟩) x.length c) rfl ?_ hH ?_
    ·intro w9 hw9;obtain ⟨d0,d1,d2,d3,d4,dp,dg⟩:=hw9;go_simp
    simp only [nrm];refine tkA 13 (.int .i64 k) rfl ?_ hH ?_
    ·intro w9 hw9;obtain ⟨d0,d1,d2,d3,d4,dp,dg⟩:=hw9;go_simp
    simp only [nrm];refine tkA 14 (.int .i64 j) rfl ?_ hH ?_
    ·intro w9 hw9;obtain ⟨d0,d1,d2,d3,d4,dp,dg⟩:=hw9;go_simp
    simp only [nrm];refine tkA 15 (.pointer (some ⟨gb,o+j * 5,none⟩)) rfl ?_ hH ?_
    ·intro w9 hw9;obtain ⟨d0,d1,d2,d3,d4,dp,dg⟩:=hw9;go_simp
    simp only [nrm];refine tkA 16 (.pointer (some ⟨gb,o+j * 5,none⟩)) rfl ?_ hH ?_
    ·intro w9 hw9;obtain ⟨d0,d1,d2,d3,d4,dp,dg⟩:=hw9;go_simp
    simp only [nrm];refine tkA 17 (.int .i64 pv) rfl ?_ hH ?_
    ·intro w9 hw9;obtain ⟨d0,d1,d2,d3,d4,dp,dg⟩:=hw9;go_simp
    simp only [nrm];refine tkA 18 (.pointer (some ⟨wr.heap.size,0,none⟩)) rfl ?_ hH ?_
    ·intro w9 hw9;obtain ⟨d0,d1,d2,d3,d4,dp,dg⟩:=hw9;go_simp
    simp only [nrm];refine tkA 19 (.int .i64 t) rfl ?_ hH ?_
    ·intro w9 hw9;obtain ⟨d0,d1,d2,d3,d4,dp,dg⟩:=hw9;go_simp
    simp only [nrm];refine tkA 20 (.bool false) rfl ?_ hH ?_
    ·intro w9 hw9;obtain ⟨d0,d1,d2,d3,d4,dp,dg⟩:=hw9;go_simp
    simp only [nrm];refine tkA 21 (.bool false) rfl ?_ hH ?_
    ·intro w9 hw9;obtain ⟨d0,d1,d2,d3,d4,dp,dg⟩:=hw9;go_simp
    simp only [nrm];refine tkA 22 (.bool false) rfl ?_ hH ?_
    ·intro w9 hw9;obtain ⟨d0,d1,d2,d3,d4,dp,dg⟩:=hw9;go_simp
    simp only [nrm];refine tkA 23 (.bool false) rfl ?_ hH ?_
    ·intro w9 hw9;obtain ⟨d0,d1,d2,d3,d4,dp,dg⟩:=hw9;go_simp
    simp only [nrm];refine tkA 24 (.pointer (some ⟨wr.heap.size,1,none⟩)) rfl ?_ hH ?_
    ·intro w9 hw9;obtain ⟨d0,d1,d2,d3,d4,dp,dg⟩:=hw9;go_simp
    simp only [nrm];refine tkA 25 (.agg #[.int .i64 op,.int .i64 d,.int .i64 a',.int .i64 b']) rfl ?_ hH ?_
    ·intro w9 hw9;obtain ⟨d0,d1,d2,d3,d4,dp,dg⟩:=hw9;go_simp
    simp only [nrm];refine tk1 26 rfl fun K hK=>?_;go_simp;refine zbe op d a' b' _ _ ?_;intro w8 hg8;rw [HV.out];go_wp2_with fail;refine hK.out _ _ (keep6 hg8 hH) (fun hH2=>?_);have hgW:Grow W w8:=hH2.2.2.2.2.2.2;clear hK K hH;have hH:=hH2;clear hH2;refine tkA 27 (.bool (!q)) rfl ?_ hH ?_
    ·intro w9 hw9;obtain ⟨d0,d1,d2,d3,d4,dp,dg⟩:=hw9;go_simp
    simp only [nrm];refine tkA 28 (.bool (!q)) rfl ?_ hH ?_
    ·intro w9 hw9;obtain ⟨d0,d1,d2,d3,d4,dp,dg⟩:=hw9;go_simp
    simp only [nrm];refine wpAnyH_done (by kernel_rfl) ?_ _
    have HGW:=jH (HG.out.trans (GX.out.trans hgW));clear hgW;cases q with
    | true=>
     go_wp2_with fail;go_roundw
     case rel=>exact ⟨k+1,by omega,by go_num,HGW.out,znz HALL.out HOKK.out⟩
     case measure=>simp [intOf];omega
    | false=>
     have HF:=HR.out;rw [zdz hlt HOKK.out,zbv] at HF;have HF2:=jH HF;clear HF;go_wp2_with fail;exact HF2.out _ HGW.out
set_option maxHeartbeats 4000000
set_option maxRecDepth 100000
def PredE (g:Nat) (cb:Array Value) (w:World) (pr:Ed→Bool):Prop:=
 ∀ t op d a b W,Grow w W→∀ R:Ending→World→Prop,(∀ W',Grow W W'→R (.returned (.bool (pr ⟨t,⟨op,d,a,b⟩⟩))) W')→Calls Tryz.prog g (#[.agg #[.int .i64 t,.int .i64 op,.int .i64 d,.int .i64 a,.int .i64 b]]++cb) W R
theorem zlg (g:Nat) (cb:Array Value) (eg:Enters Tryz.prog g) (pr:Ed→Bool) (ts:List Ed) (v:Value) (w:World) (hx:EditsAt w v ts) (hp:PredE g cb w pr)
  (R:Ending→World→Prop) (hR1:∀ w' (k:Nat),Grow w w'→ts.any pr=true→R (.returned (.int .i64 k)) w') (hR2:∀ w',Grow w w'→ts.any pr=false→R (.returned (.int .i64 (-1))) w') :
  Calls Tryz.prog 192 #[v,.func (.func g) #[] cb] w R:=by
 have HX:=jH hx;obtain ⟨a,c,rfl,h1,h2,_⟩:=hx;have hm:ts.length≤9223372036854775807:=by omega
 have HR1:=jH hR1;have HR2:=jH hR2;have HP:=jH hp;unfold Enters at eg;clear hR1 hR2 hp
 go_enter func192,ntmps192
 go_wp2_with fail
 go_loopw [4,5,8] (fun _ _ i wr=>∃ k:Nat,k≤ts.length∧i=.int .i64 k∧Grow w wr∧∀ y∈ts.take k,pr y=false) (fun _ _ i _=>ts.length - (intOf i).toNat)
 case atStart=>exact ⟨0,Nat.zero_le _,rfl,Grow.refl _,by simp⟩
 case round=>
  obtain ⟨k,hk,rfl,hg,hall⟩:=hrel;have HALL:=jH hall;have HG:=jH hg;clear hall hg;by_cases hlt:k<ts.length
  ·obtain ⟨⟨t,op,d,a',b'⟩,ht⟩:∃ x,ts[k]?=some x:=⟨_,List.getElem?_eq_getElem hlt⟩;obtain ⟨b,o,rfl,hb,e0,e1,e2,e3,e4⟩:=zci (HX.out.grow HG.out) ht;have HT:=jH ht;clear ht;by_cases hv:pr ⟨t,⟨op,d,a',b'⟩⟩=true
   ·have HA:=jH (any_at HT.out hv);have HV:=jH hv;clear hv;go_wp2_with fail;refine HP.out t op d a' b' _ HG.out _ ?_;intro w1 hg1;rw [HV.out];have HF:=jH (HR1.out w1 k (HG.out.trans hg1) HA.out);clear hg1;go_wp2_with fail;exact HF.out
   ·replace hv:pr ⟨t,⟨op,d,a',b'⟩⟩=false:=by simpa using hv
    have HV:=jH hv;clear hv;go_wp2_with fail;refine HP.out t op d a' b' _ HG.out _ ?_;intro w1 hg1;rw [HV.out];have HG2:=jH (HG.out.trans hg1);clear hg1;go_wp2_with fail;go_roundw
    case rel=>exact ⟨k+1,by omega,by go_num,HG2.out,take_succ_false' HALL.out HT.out HV.out⟩
    case measure=>simp [intOf];omega
  ·have HF:=jH (HR2.out _ HG.out (zsr HALL.out (by omega)))
   go_wp2_with fail;exact HF.out
theorem zel (g:Nat) (cb:Array Value) (eg:Enters Tryz.prog g) (pr:Ed→Bool) (ts:List Ed) (v:Value) (w:World) (hx:EditsAt w v ts) (hp:PredE g cb w pr)
  (R:Ending→World→Prop) (hR:∀ w',Grow w w'→R (.returned (.bool (ts.any pr))) w') :
  Calls Tryz.prog 140 #[v,.func (.func g) #[] cb] w R:=by
 have HR:=jH hR;clear hR
 go_enter func140,ntmps140
 go_wp2_with fail;refine zlg g cb eg pr ts v _ hx hp _ ?_ ?_
 ·intro w1 k hg1 h;have HF:=jH (HR.out w1 hg1);rw [h] at HF;have hk:(k:Int)≥0:=by omega
  clear h hg1;go_wp2_with fail;exact HF.out
 ·intro w1 hg1 h;have HF:=jH (HR.out w1 hg1);rw [h] at HF;clear h hg1;go_wp2_with fail;exact HF.out
theorem zsp (t op d a b:Int) (n c:Nat) (ad:Option Addr) (bp:Nat) (w:World) (hb:w.heap[bp]?=some (.cells #[.slice ad n c] 22 (0,0))) (R:Ending→World→Prop)
  (hR:∀ w',Grow w w'→R (.returned (.bool (decide ((n:Int)≤t)))) w') :
  Calls Tryz.prog 141 #[.agg #[.int .i64 t,.int .i64 op,.int .i64 d,.int .i64 a,.int .i64 b],.pointer (some ⟨bp,0,none⟩)] w R:=by
 have HR:=jH hR;have c0:=box1 hb;have hz:=lt_of_block hb;clear hR hb;by_cases h:(n:Int)≤t
 ·rw [decide_eq_true h] at HR;have t1:t≥(n:Int):=h
  go_enter func141,ntmps141
  go_wp2_with fail;exact HR.out _ ((Grow.refl _).alloc _)
 ·rw [decide_eq_false h] at HR;have t1:¬ t≥(n:Int):=h
  go_enter func141,ntmps141
  go_wp2_with fail;exact HR.out _ ((Grow.refl _).alloc _)
theorem zdd (p:List Ln) (x:List Ed) (ts:List Tst) (pv xv tv:Value) (w:World) (hp:LinesAt w pv p) (hx:EditsAt w xv x) (ht:TestsAt w tv ts) (R:Ending→World→Prop)
  (hR:∀ w',Grow w w'→R (.returned (.int .i64 (chkX p x ts))) w') :
  Calls Tryz.prog 90 #[pv,xv,tv] w R:=by
 have HP:=jH hp;have HX:=jH hx;have HT:=jH ht;have hv:chkX p x ts=if valP p=0 then (if valX x=0 then (if valT ts=0 then (if offB p.length x then 4 else 0) else valT ts) else valX x) else valP p:=rfl;rw [hv] at hR;have HR:=jH hR;obtain ⟨e1,h1⟩:∃ e,valP p=e:=⟨_,rfl⟩;obtain ⟨e2,h2⟩:∃ e,valX x=e:=⟨_,rfl⟩;obtain ⟨e3,h3⟩:∃ e,valT ts=e:=⟨_,rfl⟩;obtain ⟨q,h4⟩:∃ e,offB p.length x=e:=⟨_,rfl⟩;rw [h1,h2,h3,h4] at HR;have H1:=jH h1;have H2:=jH h2;have H3:=jH h3;have H4:=jH h4;obtain ⟨pa,pc,rfl,_⟩:=hp;obtain ⟨xa,xc,rfl,_⟩:=hx;obtain ⟨⟨ta,tc,rfl,_⟩,_⟩:=ht;clear hR hv h1 h2 h3 h4;have eg:Enters Tryz.prog 141:=enters_of func141 (by kernel_rfl) rfl
 have EG:=jH eg;clear eg;by_cases z1:e1=0;rotate_left
 ·rw [if_neg z1] at HR;have t1:(e1 != 0)=true:=by simpa using z1
  clear z1
  go_enter func90,ntmps90
  go_wp2_with fail;have hb:=heap_alloc_new w (.cells #[.slice pa p.length pc] 22);have hg:=(Grow.refl w).alloc (.cells #[.slice pa p.length pc] 22);generalize w.alloc (.cells #[.slice pa p.length pc] 22)=W at hb hg ⊢;refine zbm p _ _ (HP.out.grow hg) _ ?_;intro w1 hg1;rw [H1.out];have HB:=jH (hg1.blk hb);have HG:=jH (hg.trans hg1);clear hb hg hg1;have HF:=jH (HR.out w1 HG.out);go_wp2_with fail;exact HF.out
 subst z1;rw [if_pos rfl] at HR;by_cases z2:e2=0;rotate_left
 ·rw [if_neg z2] at HR;have t1:(e2 != 0)=true:=by simpa using z2
  clear z2
  go_enter func90,ntmps90
  go_wp2_with fail;have hb:=heap_alloc_new w (.cells #[.slice pa p.length pc] 22);have hg:=(Grow.refl w).alloc (.cells #[.slice pa p.length pc] 22);generalize w.alloc (.cells #[.slice pa p.length pc] 22)=W at hb hg ⊢;refine zbm p _ _ (HP.out.grow hg) _ ?_;intro w1 hg1;rw [H1.out];have HB:=jH (hg1.blk hb);have HG:=jH (hg.trans hg1);clear hb hg hg1;go_wp2_with fail;refine zdp x _ _ (HX.out.grow HG.out) _ ?_;intro w2 hg2;rw [H2.out];have HB2:=jH (hg2.blk HB.out);have HG2:=jH (HG.out.trans hg2);clear hg2;have HF:=jH (HR.out w2 HG2.out);go_wp2_with fail;exact HF.out
 subst z2;rw [if_pos rfl] at HR;by_cases z3:e3=0;rotate_left
 ·rw [if_neg z3] at HR;have t1:(e3 != 0)=true:=by simpa using z3
  clear z3
  go_enter func90,ntmps90
  go_wp2_with fail;have hb:=heap_alloc_new w (.cells #[.slice pa p.length pc] 22);have hg:=(Grow.refl w).alloc (.cells #[.slice pa p.length pc] 22);generalize w.alloc (.cells #[.slice pa p.length pc] 22)=W at hb hg ⊢;refine zbm p _ _ (HP.out.grow hg) _ ?_;intro w1 hg1;rw [H1.out];have HB:=jH (hg1.blk hb);have HG:=jH (hg.trans hg1);clear hb hg hg1;go_wp2_with fail;refine zdp x _ _ (HX.out.grow HG.out) _ ?_;intro w2 hg2;rw [H2.out];have HB2:=jH (hg2.blk HB.out);have HG2:=jH (HG.out.trans hg2);clear hg2;go_wp2_with fail;refine zbw ts _ _ (HT.out.grow HG2.out) _ ?_;intro w3 hg3;rw [H3.out];have HB3:=jH (hg3.blk HB2.out);have HG3:=jH (HG2.out.trans hg3);clear hg3;have HF:=jH (HR.out w3 HG3.out);go_wp2_with fail;exact HF.out
 subst z3;rw [if_pos rfl] at HR;cases q with
 | true=>
  rw [if_pos rfl] at HR
  go_enter func90,ntmps90
  go_wp2_with fail;have hb:=heap_alloc_new w (.cells #[.slice pa p.length pc] 22);have hg:=(Grow.refl w).alloc (.cells #[.slice pa p.length pc] 22);generalize w.alloc (.cells #[.slice pa p.length pc] 22)=W at hb hg ⊢;refine zbm p _ _ (HP.out.grow hg) _ ?_;intro w1 hg1;rw [H1.out];have HB:=jH (hg1.blk hb);have HG:=jH (hg.trans hg1);clear hb hg hg1;go_wp2_with fail;refine zdp x _ _ (HX.out.grow HG.out) _ ?_;intro w2 hg2;rw [H2.out];have HB2:=jH (hg2.blk HB.out);have HG2:=jH (HG.out.trans hg2);clear hg2;go_wp2_with fail;refine zbw ts _ _ (HT.out.grow HG2.out) _ ?_;intro w3 hg3;rw [H3.out];have HB3:=jH (hg3.blk HB2.out);have HG3:=jH (HG2.out.trans hg3);clear hg3;go_wp2_with fail;have hpred:PredE 141 #[.pointer (some ⟨w.heap.size,0,none⟩)] w3 (fun e=>decide ((p.length:Int)≤e.at_)):=fun t op d a b W hgW R hR=>zsp t op d a b _ _ _ _ W (hgW.blk HB3.out) R hR;refine zel 141 _ EG.out (fun e=>decide ((p.length:Int)≤e.at_)) x _ _ (HX.out.grow HG3.out) hpred _ ?_;intro w4 hg4;rw [show x.any (fun e=>decide ((p.length:Int)≤e.at_))=true from H4.out];have HG4:=jH (HG3.out.trans hg4);clear hg4 hpred;have HF:=jH (HR.out w4 HG4.out);go_wp2_with fail;exact HF.out
 | false=>
  rw [if_neg (by decide)] at HR
  go_enter func90,ntmps90
  go_wp2_with fail;have hb:=heap_alloc_new w (.cells #[.slice pa p.length pc] 22);have hg:=(Grow.refl w).alloc (.cells #[.slice pa p.length pc] 22);generalize w.alloc (.cells #[.slice pa p.length pc] 22)=W at hb hg ⊢;refine zbm p _ _ (HP.out.grow hg) _ ?_;intro w1 hg1;rw [H1.out];have HB:=jH (hg1.blk hb);have HG:=jH (hg.trans hg1);clear hb hg hg1;go_wp2_with fail;refine zdp x _ _ (HX.out.grow HG.out) _ ?_;intro w2 hg2;rw [H2.out];have HB2:=jH (hg2.blk HB.out);have HG2:=jH (HG.out.trans hg2);clear hg2;go_wp2_with fail;refine zbw ts _ _ (HT.out.grow HG2.out) _ ?_;intro w3 hg3;rw [H3.out];have HB3:=jH (hg3.blk HB2.out);have HG3:=jH (HG2.out.trans hg3);clear hg3;go_wp2_with fail;have hpred:PredE 141 #[.pointer (some ⟨w.heap.size,0,none⟩)] w3 (fun e=>decide ((p.length:Int)≤e.at_)):=fun t op d a b W hgW R hR=>zsp t op d a b _ _ _ _ W (hgW.blk HB3.out) R hR;refine zel 141 _ EG.out (fun e=>decide ((p.length:Int)≤e.at_)) x _ _ (HX.out.grow HG3.out) hpred _ ?_;intro w4 hg4;rw [show x.any (fun e=>decide ((p.length:Int)≤e.at_))=false from H4.out];have HG4:=jH (HG3.out.trans hg4);clear hg4 hpred;have HF:=jH (HR.out w4 HG4.out);go_wp2_with fail;exact HF.out
end Go.Proofs.YtmeejlgnhfkeaaaGreatDoor
