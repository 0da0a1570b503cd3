
import Derived.Test.YtmeejlgnhfkeaaaGreatDoorQ43
import Derived.Test.YtmeejlgnhfkeaaaGreatDoorQ39
import Derived.Test.YtmeejlgnhfkeaaaGreatDoorQ04
namespace Go.Proofs.YtmeejlgnhfkeaaaGreatDoor
open Go.RowKit Go.Proofs.Tryz
set_option maxRecDepth 100000
set_option maxHeartbeats 16000000
theorem zkg (p:List Ln) (l:List ByteArray) (w:World) (v0 v1:Value) (hg:Glob w) (hp:LinesAt w v0 p) (hl:TextsAt w v1 l) (R:Ending→World→Prop) (hR:∀ w',Grow w w'→R (.returned (.bool true)) w') :
  Calls Tryz.prog 3 #[v0,v1] w R:=by
 have HR:=jH hR;have HG:=jH hg;have HP:=jH hp;have HL:=jH hl;have hgs:=hg.size;clear hR hg hp hl
 go_enter func3,ntmps3
 go_wp2_with fail;refine zin p _ _ HP.out _ ?_;cases hlg:decide (100<p.length) with
 | true=>
  go_wp2_with fail;refine zcr _ HG.out _ ?_;intro ws hgs9;have HF:=jH (HR.out ws hgs9);clear hgs9;go_wp2_with fail;exact HF.out
 | false=>
 have hpl:p.length≤100:=by have:=of_decide_eq_false hlg;omega
 clear hlg;go_wp2_with fail;refine Long9_any l _ _ HL.out _ ?_;intro w1 hg1;have HG1:=jH hg1;clear hg1;cases hlg:lngT l with
 | true=>
  go_wp2_with fail;refine zcr _ (HG.out.grow HG1.out) _ ?_;intro ws hgs9;have HF:=jH (HR.out ws (HG1.out.trans hgs9));clear hgs9;go_wp2_with fail;exact HF.out
 | false=>
 obtain ⟨hsz,hlen⟩:=zxw hlg;have HSZ:=jH hsz;clear hlg hsz;go_wp2_with fail;refine BeginD_any p _ _ (HP.out.grow HG1.out) (by omega) _ ?_ ?_
 ·intro h0 w2 hg2;have HG2:=jH (HG1.out.trans hg2);have H0:=jH h0;clear hg2 h0;go_wp2_with fail;refine zlb p _ _ (HG.out.grow HG2.out) (HP.out.grow HG2.out) (by omega) H0.out _ ?_
  intro w3 hg3;have HF:=jH (HR.out w3 (HG2.out.trans hg3));clear hg3;go_wp2_with fail;exact HF.out
 intro h0 w2 H B Bd hg2 hB hb hd;have HG2:=jH (HG1.out.trans hg2);have HB2:=jH hb;have HD2:=jH hd;have HOK:=jH (OkB.new h0);have hb4:4<w1.heap.size:=by have:=HG1.out.sz;omega
 have HB12:=jH hg2.sz;clear hg2 hb hd hB h0;go_wp2_with fail;refine zxn l _ _ (HL.out.grow HG2.out) _ ?_;intro w3 v3 hg3 ht3 hv3;have hoff:=zmn (HL.out.grow HG1.out) (Nat.le_refl _) HD2.out.hid ht3 hv3;obtain ⟨ls,hls⟩:∃ z,l.take 24=z:=⟨_,rfl⟩;have hlsz:∀ t∈ls,t.size<4294967281:=fun t ht=>by
  rw [← hls] at ht;have:=HSZ.out t (List.mem_of_mem_take ht);omega
 rw [hls] at ht3 hoff;have HLS:=jH hlsz;have HT:=jH hoff;have HG3:=jH (HG2.out.trans hg3);have HB3:=jH (HB2.out.grow hg3);have HD3:=jH (HD2.out.grow hg3);have hb3:w1.heap.size≤w3.heap.size:=Nat.le_trans HB12.out hg3.sz;obtain ⟨va,vc,rfl,a1,a2,jk⟩:=ht3;clear hg3 hv3 hoff hlsz jk hls;go_wp2_with fail
 go_loopw [8] (fun s8 wr=>∃ (k:Nat) (Hr:Nat→Bool),k≤ls.length∧s8=.int .i64 k∧Dsh H w3 Hr wr∧BnAt Hr B wr (dosB (newB p) (ls.take k))∧DkAt w1.heap.size Hr Bd wr (dsB (dosB (newB p) (ls.take k)))) (fun s8 _=>ls.length - (intOf s8).toNat)
 case atStart=>exact ⟨0,H,Nat.zero_le _,rfl,Dsh.refl H w3,HB3.out,HD3.out⟩
 case round=>
  obtain ⟨k,Hr,hk,rfl,hds,hbn,hdk⟩:=hrel;have HDS:=jH hds;have HBN:=jH hbn;have HDK:=jH hdk;have HGW:=jH (hds.base HG3.out HD3.out.hid HG1.out.sz);clear hds hbn hdk;by_cases hlt:k<ls.length;rotate_left
  ·obtain rfl:k=ls.length:=by omega
   have hltz:¬ (ls.length:Int)<(ls.length:Int):=by omega
   go_wp2_with fail;refine zcr _ (HG.out.grow HGW.out) _ ?_;intro ws hgs9;have HF:=jH (HR.out ws (HGW.out.trans hgs9));clear hgs9;go_wp2_with fail;exact HF.out
  have hltz:(k:Int)<(ls.length:Int):=by omega
  obtain ⟨u,hu⟩:∃ u,ls[k]?=some u:=⟨_,List.getElem?_eq_getElem hlt⟩;obtain ⟨b,o,rfl,hbl,y0⟩:=zco (HT.out.grow HDS.out.g) hu;have HY:=jH y0;have HUS:=jH (HLS.out u (List.mem_of_getElem? hu));have HSN:=jH (zjc (s:=newB p) hu);have hB4:4<B:=Nat.lt_of_lt_of_le hb4 (HDK.out.hid.lo B HBN.out.hid.hH);have HOKK:=jH (HOK.out.dos (ls.take k));obtain ⟨s1,hs1⟩:∃ z,dosB (newB p) (ls.take k)=z:=⟨_,rfl⟩;rw [hs1] at HBN HDK HSN HOKK;have hbw:w1.heap.size≤wr.heap.size:=Nat.le_trans hb3 HDS.out.sz;clear hu hs1 y0 hbl;go_wp2_with fail;refine wp_region_held_drew (S:=fun X=>X.cell? ⟨b,o+k,none⟩=some (.string u)) (by kernel_rfl) ((zdh (Grow.cell ((Grow.refl wr).drew.hid Hr) HY.out)).1) (fun hH=>?_)
  obtain ⟨W,hWe⟩:∃ W:World,W=wr.drew:=⟨_,rfl⟩;have HGd:=jH (show Grow wr W by rw [hWe];exact (Grow.refl wr).drew)
  rw [← hWe] at hH ⊢;clear hWe;refine tkA 0 (.pointer (some ⟨B,0,none⟩)) rfl ?_ hH ?_
  ·intro w9 hw9;go_simp
  try simp only [nrm]
  refine tkA 1 (.slice (some ⟨b,o,none⟩) ls.length vc) rfl ?_ hH ?_
  ·intro w9 hw9;go_simp
  try simp only [nrm]
  refine tkA 2 (.int .i64 (k:Int)) rfl ?_ hH ?_
  ·intro w9 hw9;go_simp
  try simp only [nrm]
  refine tkA 3 (.pointer (some ⟨b,o+k,none⟩)) rfl ?_ hH ?_
  ·intro w9 hw9;go_simp
  try simp only [nrm]
  refine tkA 4 (.string u) rfl ?_ hH ?_
  ·intro w9 hw9;go_simp
  try simp only [nrm]
  refine tkA 6 (.pointer (some ⟨Bd,0,none⟩)) rfl ?_ hH ?_
  ·intro w9 hw9;go_simp
  try simp only [nrm]
  refine tkA 7 (.slice (some ⟨b,o,none⟩) ls.length vc) rfl ?_ hH ?_
  ·intro w9 hw9;go_simp
  try simp only [nrm]
  refine tkA 8 (.int .i64 (k:Int)) rfl ?_ hH ?_
  ·intro w9 hw9;go_simp
  try simp only [nrm]
  refine tkA 9 (.pointer (some ⟨b,o+k,none⟩)) rfl ?_ hH ?_
  ·intro w9 hw9;go_simp
  try simp only [nrm]
  refine tkA 10 (.string u) rfl ?_ hH ?_
  ·intro w9 hw9;go_simp
  try simp only [nrm]
  refine tk1 5 rfl fun K hK=>?_;go_simp;refine znk Hr B u HUS.out s1 _ (HG.out.grow ((HDS.out.trans (Dsh.of_grow HGd.out)).base HG3.out HD3.out.hid HG1.out.sz)) (HBN.out.grow HGd.out) HOKK.out hB4 _ ?_;intro w5 hc5 hb5;have hd5:=(HDK.out.grow HGd.out).bench (HBN.out.grow HGd.out) hc5;have hs5:=(HDS.out.trans (Dsh.of_grow HGd.out)).trans (Dsh.of_chg hc5 HBN.out.hid.hH);have hy5:=Grow.cell (hc5.hide (H:=Hr) HBN.out.hid.hH) (Grow.cell (HGd.out.hid Hr) HY.out);have hbw5:w1.heap.size≤w5.heap.size:=Nat.le_trans hbw (Nat.le_trans HGd.out.sz hc5.sz);have HB5:=jH hb5;have HD5:=jH hd5;have HS5:=jH hs5;have HY5:=jH hy5;obtain ⟨e1,he1⟩:∃ e,(doB s1 u).1=e:=⟨_,rfl⟩;rw [he1];have HE1:=jH he1;clear hb5 hd5 hs5 hy5 hc5 he1;go_wp2_with fail;refine hK.out _ _ ((zdh HY5.out).1) ?_;clear hK K hH;intro hH;try simp only [nrm]
  refine tk1 11 rfl fun K hK=>?_;go_simp;refine zqs w1.heap.size Hr Bd u HUS.out s1 HOKK.out _ (HG.out.grow (HS5.out.base HG3.out HD3.out.hid HG1.out.sz)) HD5.out hbw5 _ ?_;intro w6 H6 d6 hd6;rw [HE1.out];have HB6:=jH (HB5.out.dst d6 hd6);have HD6:=jH hd6;have HS6:=jH (HS5.out.trans d6.sh);have HY6:=jH (Grow.cell d6.g HY5.out);clear hd6 d6;go_wp2_with fail;refine hK.out _ _ ((zdh HY6.out).1) ?_;clear hK K hH;intro hH;try simp only [nrm]
  refine tkA 12 (.bool false) rfl ?_ hH ?_
  ·intro w9 hw9;go_simp
  try simp only [nrm]
  refine tkA 13 (.bool false) rfl ?_ hH ?_
  ·intro w9 hw9;go_simp
  try simp only [nrm]
  refine tkA 14 (.pointer (some ⟨B,0,none⟩)) rfl ?_ hH ?_
  ·intro w9 hw9;go_simp
  try simp only [nrm]
  refine tkA 15 (.pointer (some ⟨Bd,0,none⟩)) rfl ?_ hH ?_
  ·intro w9 hw9;go_simp
  try simp only [nrm]
  refine tk1 16 rfl fun K hK=>?_;go_simp;refine Equal_any H6 H6 B Bd w1.heap.size (doB s1 u).2 _ (HG.out.grow (HS6.out.base HG3.out HD3.out.hid HG1.out.sz)) HB6.out (HOKK.out.do u) HD6.out _ ?_;intro w7 hg7;have HB7:=jH (HB6.out.grow hg7);have HD7:=jH (HD6.out.grow hg7);have HS7:=jH (HS6.out.trans (Dsh.of_grow hg7));have hy7:=(zdh (Grow.cell (hg7.hid H6) HY6.out)).1;clear hg7;go_wp2_with fail;refine hK.out _ _ hy7 ?_;clear hK K hH;intro hH;try simp only [nrm]
  clear hy7;refine tkA 17 (.bool false) rfl ?_ hH ?_
  ·intro w9 hw9;go_simp
  try simp only [nrm]
  refine tkA 18 (.bool false) rfl ?_ hH ?_
  ·intro w9 hw9;go_simp
  try simp only [nrm]
  refine wpAnyH_done (by kernel_rfl) ?_ _
  clear hH;go_wp2_with fail;go_roundw
  case rel=>exact ⟨k+1,H6,by omega,by go_num,HS7.out,by rw [HSN.out];exact HB7.out,by rw [HSN.out];exact HD7.out⟩
  case measure=>simp [intOf];omega
end Go.Proofs.YtmeejlgnhfkeaaaGreatDoor
