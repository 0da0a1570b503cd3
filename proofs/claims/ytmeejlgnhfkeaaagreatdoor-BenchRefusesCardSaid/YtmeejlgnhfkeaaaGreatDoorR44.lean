
import Derived.Test.YtmeejlgnhfkeaaaGreatDoorR03
import Derived.Deep.RegionWith
import Derived.BigGuard
namespace Go.Proofs.YtmeejlgnhfkeaaaGreatDoor
open Go.RowKit Go.Proofs.Tryz
set_option maxRecDepth 100000
set_option maxHeartbeats 4000000
theorem zoa (p:List Ln) (t:Tst) (pv:Value) (w:World) (hp:LinesAt w pv p) (ht:IntsAt w t.v t.xs) (hok:valP p=0) (htok:t.ok=true) (R:Ending→World→Prop)
  (hR:∀ w',Grow w w'→R (.returned (.tuple #[.bool (passM p t),.int .i64 0])) w') :
  Calls Tryz.prog 129 #[pv,.agg #[t.v,.int .i64 t.o,.int .i64 t.wt]] w R:=by
 obtain ⟨v,xs,o,wt⟩:=t;obtain ⟨k1,⟨k2,k3⟩,_⟩:=Tst.ok_iff.1 htok;have HC:=jH ((chkT_one p ⟨v,xs,o,wt⟩).2 ⟨hok,htok⟩);have hpm:passM p ⟨v,xs,o,wt⟩=decide (endM p xs o=wt):=rfl;rw [hpm] at hR;have HR:=jH hR;dsimp only at ht k1 k2 k3 ⊢;have HP:=jH hp;have HT:=jH ht;have HOK:=jH (zsy.2 ⟨hok,k1⟩);have HK2:=jH k2;have HK3:=jH k3;obtain ⟨q,hq⟩:∃ q,endM p xs o=q:=⟨_,rfl⟩;rw [hq] at HR;have HQ:=jH hq;obtain ⟨pa,pc,rfl,_⟩:=hp;obtain ⟨sa,sc,rfl,_⟩:=ht;have t1:(q == wt)=decide (q=wt):=by by_cases h:q=wt<;>simp [h]
 generalize decide (q=wt)=bb at HR t1;clear hR hpm hq htok hok k1 k2 k3
 go_enter func129,ntmps129
 go_wp2_with fail;have hb:=heap_alloc_new w (.cells #[.slice sa xs.length sc,.int .i64 o,.int .i64 wt] 63);have hg:=(Grow.refl w).alloc (.cells #[.slice sa xs.length sc,.int .i64 o,.int .i64 wt] 63);have hsz:(w.alloc (.cells #[.slice sa xs.length sc,.int .i64 o,.int .i64 wt] 63)).heap.size=w.heap.size+1:=by simp
 generalize w.alloc (.cells #[.slice sa xs.length sc,.int .i64 o,.int .i64 wt] 63)=W0 at hb hg hsz ⊢;have hL:=zks W0 ⟨.slice sa xs.length sc,xs,o,wt⟩ 63 (HT.out.grow hg);dsimp only at hL;rw [hsz] at hL;have hg2:=(Grow.refl W0).alloc (.cells #[.slice sa xs.length sc,.int .i64 o,.int .i64 wt] 63);generalize W0.alloc (.cells #[.slice sa xs.length sc,.int .i64 o,.int .i64 wt] 63)=W1 at hL hg2 ⊢;have HL:=jH hL;obtain ⟨c0,c1,c2⟩:=box3 hb;have HG2:=jH (hg.trans hg2);refine zon p [⟨.slice sa xs.length sc,xs,o,wt⟩] _ _ _ (HP.out.grow HG2.out) HL.out _ ?_;intro W hgW;rw [HC.out];have d0:=(hg2.trans hgW).cell c0;have d1:=(hg2.trans hgW).cell c1;have d2:=(hg2.trans hgW).cell c2;have hz:w.heap.size<W.heap.size:=Nat.lt_of_lt_of_le (lt_of_block hb) (hg2.trans hgW).sz;have HGW:=jH (HG2.out.trans hgW);clear hb hg hg2 hgW c0 c1 c2 HL hL hsz;go_wp2_with fail
 go_region_held3 (fun X=>X.cell? ⟨w.heap.size,0,none⟩=some (.slice sa xs.length sc)∧X.cell? ⟨w.heap.size,1,none⟩=some (.int .i64 o)∧X.cell? ⟨w.heap.size,2,none⟩=some (.int .i64 wt)∧Grow W X)
  (first | exact ⟨d0,d1,d2,(Grow.refl W).drew⟩ | exact ⟨d0,d1,d2,Grow.refl W⟩ | exact keep3 hg8 (by assumption))
  (first | (go_at_call 178;refine zvq p xs o _ _ _ ?_ ?_ HOK.out HK2.out HK3.out _ ?_;exact HP.out.grow (HGW.out.trans (And.right (And.right (And.right ‹_›))));exact HT.out.grow (HGW.out.trans (And.right (And.right (And.right ‹_›))));intro w8 hg8;rw [HQ.out]))
 rename_i hx
 have hgf:Grow w w8:=HGW.out.trans hx.2.2.2;have HF:=jH (HR.out w8 hgf);go_wp2_with fail;first | exact HF.out | (rw [t1];exact HF.out)
end Go.Proofs.YtmeejlgnhfkeaaaGreatDoor
