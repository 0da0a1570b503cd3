/- Parts. -/
import Derived.Test.YtmeejlgnhfkeaaaGreatDoorR44
import Derived.Test.YtmeejlgnhfkeaaaGreatDoorR00
import Derived.Test.YtmeejlgnhfkeaaaGreatDoorR08
import Derived.Test.YtmeejlgnhfkeaaaGreatDoorR01
import Derived.Test.YtmeejlgnhfkeaaaGreatDoorR27
import Derived.Test.YtmeejlgnhfkeaaaGreatDoorR04
namespace Go.Proofs.YtmeejlgnhfkeaaaGreatDoor
open Go.RowKit Go.Proofs.Tryz
set_option maxHeartbeats 8000000
set_option maxRecDepth 100000
theorem zdi (p:List Ln) (t:Tst) (pv:Value) (w:World) (hp:LinesAt w pv p) (ht:IntsAt w t.v t.xs) (hok:valP p=0) (htok:t.ok=true) (R:Ending→World→Prop)
  (hR:∀ w',Grow w w'→R (.returned (.bool (passM p t))) w') :
  Calls Tryz.prog 81 #[pv,.agg #[t.v,.int .i64 t.o,.int .i64 t.wt]] w R:=by
 have HP:=jH hp;have HT:=jH ht;have HR:=jH hR;have HOK:=jH hok;have HTOK:=jH htok;obtain ⟨q,hq⟩:∃ q,passM p t=q:=⟨_,rfl⟩;rw [hq] at HR;have HQ:=jH hq;obtain ⟨pa,pc,rfl,_⟩:=hp;obtain ⟨sa,sc,hv,_⟩:=ht;obtain ⟨v,xs,o,wt⟩:=t;dsimp only at hv;subst hv;dsimp only at HT ⊢;clear hR hq hok htok
 go_enter func81,ntmps81
 go_wp2_with fail;have hg:=(Grow.refl w).alloc (.cells #[.slice sa xs.length sc,.int .i64 o,.int .i64 wt] 63);generalize w.alloc (.cells #[.slice sa xs.length sc,.int .i64 o,.int .i64 wt] 63)=W at hg ⊢;refine zoa p ⟨.slice sa xs.length sc,xs,o,wt⟩ _ _ (HP.out.grow hg) (HT.out.grow hg) HOK.out HTOK.out _ ?_;intro w1 hg1;rw [HQ.out];have HF:=jH (HR.out w1 (hg.trans hg1));clear hg hg1;cases q<;>(go_wp2_with fail;exact HF.out)
theorem zeh (p:List Ln) (ts:List Tst) (pv tv:Value) (w:World) (hp:LinesAt w pv p) (hx:TestsAt w tv ts) (hok:valP p=0) (htok:valT ts=0) (R:Ending→World→Prop)
  (hR:∀ w',Grow w w'→R (.returned (.bool (ts.all (passM p)))) w') :
  Calls Tryz.prog 209 #[pv,tv] w R:=by
 have HP:=jH hp;have HX:=jH hx;have HR:=jH hR;have HOK:=jH hok;have HTK:=jH (zcs.1 htok).2;obtain ⟨pa,pc,rfl,_⟩:=hp;obtain ⟨⟨a,c,rfl,h1,h2,_⟩,_⟩:=hx;have hm:ts.length≤9223372036854775807:=by omega
 clear hR hok htok
 go_enter func209,ntmps209
 go_wp2_with fail
 go_loopw [5] (fun i wr=>∃ k:Nat,k≤ts.length∧i=.int .i64 k∧Grow w wr∧∀ y∈ts.take k,passM p y=true) (fun i _=>ts.length - (intOf i).toNat)
 case atStart=>exact ⟨0,Nat.zero_le _,rfl,Grow.refl _,by simp⟩
 case round=>
  obtain ⟨k,hk,rfl,hg,hall⟩:=hrel;have HALL:=jH hall;have HG:=jH hg;clear hall hg;by_cases hlt:k<ts.length
  ·obtain ⟨t,ht⟩:∃ x,ts[k]?=some x:=⟨_,List.getElem?_eq_getElem hlt⟩;obtain ⟨b,o,rfl,hb,e0,e1,e2⟩:=zez (HX.out.at_.grow HG.out) ht;have HT:=jH ht;have HI:=jH ((HX.out.ins t (List.mem_of_getElem? ht)).grow HG.out);have HTO:=jH (HTK.out t (List.mem_of_getElem? ht));clear ht;cases hv:passM p t with
   | true=>
    have HV:=jH hv;clear hv;go_wp2_with fail;refine zdi p t _ _ (HP.out.grow HG.out) HI.out HOK.out HTO.out _ ?_;intro w1 hg1;rw [HV.out];have HG2:=jH (HG.out.trans hg1);clear hg1;go_wp2_with fail;go_roundw
    case rel=>exact ⟨k+1,by omega,by go_num,HG2.out,zek HALL.out HT.out HV.out⟩
    case measure=>simp [intOf];omega
   | false=>
    have HF0:=HR.out;rw [zff (f:=passM p) HT.out hv] at HF0;have HV:=jH hv;have HF0':=jH HF0;clear hv HF0;go_wp2_with fail;refine zdi p t _ _ (HP.out.grow HG.out) HI.out HOK.out HTO.out _ ?_;intro w1 hg1;rw [HV.out];have HF:=jH (HF0'.out _ (HG.out.trans hg1));clear hg1;go_wp2_with fail;exact HF.out
  ·have HF0:=HR.out _ HG.out;rw [zfw HALL.out (by omega)] at HF0
   have HF:=jH HF0;clear HF0;go_wp2_with fail;exact HF.out
theorem ownS {base:Nat} {e:TypeId} {w:World} {a:Option Addr} {n c:Nat} {ys:List Value} (h:w.ownsRow base e 4 (.slice a n c) n ys) (hp:0<n):∃ g,a=some ⟨g,0,none⟩∧base≤g∧g<w.heap.size:=by
 rcases h.2 with ⟨_,h0⟩ | ⟨g,cap,cur,hv,hg,hh,_⟩
 ·omega
 ·cases hv;exact ⟨g,rfl,hg,lt_of_block hh⟩
theorem zjp (p:List Ln) (x:List Ed) (pv xv:Value) (w:World) (hp:LinesAt w pv p) (hx:EditsAt w xv x) (hin:∀ e∈x,0≤e.at_∧e.at_<p.length) (hlen:p.length≤8) (R:Ending→World→Prop)
  (hR:∀ w' v,Grow w w'→Own 4 encL w.heap.size w' v (setAll p x)→R (.returned v) w') :
  Calls Tryz.prog 176 #[pv,xv] w R:=by
 have HP:=jH hp;have HX:=jH hx;have HR:=jH hR;have HIN:=jH hin;obtain ⟨pa,pc,rfl,h1,h2,_⟩:=hp;obtain ⟨xa,xc,rfl,g1,g2,_⟩:=hx;clear hR hin
 go_enter func176,ntmps176
 go_wp2_with (at_builtin;refine zay _ rfl (.tmp 7) (.tmp 8) 22 rfl w.heap.size 57 underlying22 zjy rfl (by decide) (by decide) encL zab zaj _ [] rfl (zah w 4 _ _ _ (Nat.le_refl _)) _ p rfl (HP.out.grow ((Grow.refl w).alloc _)) (by simp;omega) (by simp) ?_;intro v1 w1 hown1 hgr1)
 have hg1:Grow w w1:=zae (zah w 4 57 encL _ (Nat.le_refl _)) hgr1 (Nat.le_refl _) (by simp) ((Grow.refl w).alloc _)
 have hs1:=zaa zab hown1;simp only [List.nil_append] at hown1 hs1;obtain ⟨a1,c1,rfl,q1,q2,_⟩:=hs1;have HO1:=jH hown1;have HG1:=jH hg1;clear hown1 hgr1 hg1
 go_loopw [6] (fun i wr=>∃ k:Nat,k≤x.length∧i=.int .i64 k∧Grow w wr∧wr.ownsRow w.heap.size 57 4 (.slice a1 p.length c1) p.length ((setAll p (x.take k)).flatMap encL)) (fun i _=>x.length - (intOf i).toNat)
 case atStart=>exact ⟨0,Nat.zero_le _,rfl,HG1.out,HO1.out⟩
 case round=>
  obtain ⟨k,hk,rfl,hg,how⟩:=hrel;have HG:=jH hg;have hzw:=hg.sz;clear hg;by_cases hlt:k<x.length
  ·obtain ⟨⟨t,⟨op,d,a,b⟩⟩,hx⟩:∃ e,x[k]?=some e:=⟨_,List.getElem?_eq_getElem hlt⟩;obtain ⟨t0,t1⟩:=HIN.out _ (List.mem_of_getElem? hx);dsimp only at t0 t1;obtain ⟨m,rfl⟩:∃ m:Nat,t=m:=⟨t.toNat,by omega⟩
   have hmn:m<p.length:=by omega
   have hl:=zhw p (x.take k);obtain ⟨q,hq⟩:∃ q,setAll p (x.take k)=q:=⟨_,rfl⟩;have HST:=jH (show setAll p (x.take (k+1))=q.set m ⟨op,d,a,b⟩ by rw [List.take_add_one,hx,← hq];exact zjj _ _ _)
   rw [hq] at how hl;obtain ⟨g,rfl,hbg,hgl⟩:=ownS how (by omega)
   have HQL:=jH hl;rw [← hl] at how;have hs:=zaa zab how;obtain ⟨⟨o0,d0,a0,b0⟩,hl0⟩:∃ l,q[m]?=some l:=⟨_,List.getElem?_eq_getElem (by omega)⟩
   obtain ⟨_,_,e1,_,k0,k1,k2,k3⟩:=zbr hs hl0;cases e1;simp only [Nat.zero_add] at k0 k1 k2 k3;have z0:=zbn how (m * 4);have z1:=zbn how (m * 4+1);have z2:=zbn how (m * 4+2);have z3:=zbn how (m * 4+3);obtain ⟨gb,o,rfl,hgb,u0,u1,u2,u3,u4⟩:=zci HX.out hx;have y0:=HG.out.cell u0;have y1:=HG.out.cell u1;have y2:=HG.out.cell u2;have y3:=HG.out.cell u3;have y4:=HG.out.cell u4;have hs2:=zjk how m (by omega) ⟨op,d,a,b⟩
   rw [List.length_set,← HST.out,hl] at hs2;have HO2:=jH hs2;have HG2:=jH (zcc (i:=m * 4) (g:=g) ⟨op,d,a,b⟩ HG.out hbg);have hne:gb≠g:=by omega
   have hne2:g≠gb:=by omega
   have hgbr:gb<wr.heap.size:=by omega
   have j1:(k:Int)<(x.length:Int):=by omega
   have j2:(m:Int)<(p.length:Int):=by omega
   clear hs hs2 how u0 u1 u2 u3 u4 hl0 hx hq hl;go_wp2_with fail
   go_region
   go_wp2_with fail;go_roundw
   case rel=>exact ⟨k+1,by omega,by go_num,HG2.out.drew,(Grow.refl _).drew.owns HO2.out⟩
   case measure=>simp [intOf];omega
  ·have hkn:k=x.length:=by omega
   rw [hkn,List.take_length] at how;have hl:=zhw p x;rw [← hl] at how;have hs:=zaa zab how;rw [hl] at hs;have hown:Own 4 encL w.heap.size wr (.slice a1 (setAll p x).length c1) (setAll p x):=⟨_,how⟩;rw [hl] at hown;have HF:=jH (HR.out _ _ HG.out hown);clear hown;clear how hs hkn hl;go_wp2_with fail;exact HF.out
theorem zur (p:List Ln) (x:List Ed) (pv xv:Value) (w:World) (hp:LinesAt w pv p) (hx:EditsAt w xv x) (hin:∀ e∈x,0≤e.at_∧e.at_<p.length) (hlen:p.length≤8) (R:Ending→World→Prop)
  (hR:∀ w' v,Grow w w'→LinesAt w' v (setAll p x)→R (.returned v) w') :
  Calls Tryz.prog 176 #[pv,xv] w R:=
 zjp p x pv xv w hp hx hin hlen R fun w' v g h=>hR w' v g (h.slc zab)
theorem zgf (p:List Ln) (x:List Ed) (ts:List Tst) (pv xv tv:Value) (w:World) (hp:LinesAt w pv p) (hx:EditsAt w xv x) (ht:TestsAt w tv ts) (hin:∀ e∈x,0≤e.at_∧e.at_<p.length) (hlen:p.length≤8) (htok:valT ts=0) (hok:valP (setAll p x)=0) (R:Ending→World→Prop)
  (hR:∀ w',Grow w w'→R (.returned (.bool (ts.all (passM (setAll p x))))) w') :
  Calls Tryz.prog 212 #[pv,xv,tv] w R:=by
 have HP:=jH hp;have HX:=jH hx;have HT:=jH ht;have HR:=jH hR;have HIN:=jH hin;have HTK:=jH htok;have HOK:=jH hok;obtain ⟨q,hq⟩:∃ q,setAll p x=q:=⟨_,rfl⟩;rw [hq] at HR HOK;have HQ:=jH hq;obtain ⟨pa,pc,rfl,_⟩:=hp;obtain ⟨xa,xc,rfl,_⟩:=hx;obtain ⟨⟨ta,tc,rfl,_⟩,_⟩:=ht;clear hR hin htok hok hq
 go_enter func212,ntmps212
 go_wp2_with fail;refine zur p x _ _ _ HP.out HX.out HIN.out hlen _ ?_;intro w1 v1 hg1 hv1;rw [HQ.out] at hv1;have HV1:=jH hv1;obtain ⟨a1,c1,rfl,_⟩:=hv1;have HG1:=jH hg1;clear hg1;go_wp2_with fail;refine zeh q ts _ _ _ HV1.out (HT.out.grow HG1.out) HOK.out HTK.out _ ?_;intro w2 hg2;have HF:=jH (HR.out w2 (HG1.out.trans hg2));clear hg2;go_wp2_with fail;exact HF.out
set_option maxRecDepth 100000
set_option maxHeartbeats 8000000
theorem rValX_any (x:List Ed) (v:Value) (w:World) (hx:EditsAt w v x) (hv:valX x=0) (R:Ending→World→Prop) (hR:∀ w',Grow w w'→R (.returned (.int .i64 0)) w') :
  Calls Tryz.prog 214 #[v] w R:=by
 have HX:=jH hx;have HR:=jH hR;obtain ⟨hl4,hed⟩:=zdm.1 hv;have HED:=jH hed;obtain ⟨a,c,rfl,h1,h2,_⟩:=hx;have hl2:¬ (x.length:Int) > 4:=by omega
 clear hR hv hed
 go_enter func214,ntmps214
 go_wp2_with fail
 go_loopw [3] (fun i wr=>∃ k:Nat,k≤x.length∧i=.int .i64 k∧Grow w wr) (fun i _=>x.length - (intOf i).toNat)
 case atStart=>exact ⟨0,Nat.zero_le _,rfl,Grow.refl _⟩
 case round=>
  obtain ⟨k,hk,rfl,hg⟩:=hrel;have HG:=jH hg;clear hg;by_cases hlt:k<x.length;rotate_left
  ·have HF:=jH (HR.out _ HG.out);go_wp2_with fail;exact HF.out
  obtain ⟨⟨t,op,d,a',b'⟩,he⟩:∃ e,x[k]?=some e:=⟨_,List.getElem?_eq_getElem hlt⟩;obtain ⟨⟨ht0,ht8⟩,hpv,hok⟩:=zde HED.out he;dsimp only at ht0 ht8 hpv hok;have HOK:=jH (show vL op d a' b'=true from hok);have hltk:(k:Int)<(x.length:Int):=by omega
  obtain ⟨gb,o,rfl,hgb,y0,y1,y2,y3,y4⟩:=zci (HX.out.grow HG.out) he;have Y0:=jH y0;have Y1:=jH y1;have Y2:=jH y2;have Y3:=jH y3;have Y4:=jH y4;have ht0z:decide (t<0)=false:=by rw [decide_eq_false_iff_not];omega
  have ht8z:decide (t≥8)=false:=by rw [decide_eq_false_iff_not];omega
  by_cases h0:k=0
  ·subst h0;simp only [Nat.zero_mul,Nat.add_zero] at y0 y1 y2 y3 y4;have Y0:=jH y0;have Y1:=jH y1;have Y2:=jH y2;have Y3:=jH y3;have Y4:=jH y4;clear he hpv hok y0 y1 y2 y3 y4;go_wp2_with fail;refine wp_region_held_drew (S:=fun X=>Grow wr X) (by kernel_rfl) ((Grow.refl wr).drew) (fun hH=>?_)
   refine tkA 0 (.slice (some ⟨gb,o,none⟩) x.length c) rfl ?_ hH ?_
   ·intro w9 hw9;go_simp
   try simp only [nrm]
   refine tkA 1 (.int .i64 ((0:Nat):Int)) rfl ?_ hH ?_
   ·intro w9 hw9;go_simp
   try simp only [nrm]
   refine tkA 2 (.pointer (some ⟨gb,o,none⟩)) rfl ?_ hH ?_
   ·intro w9 hw9;go_simp
   try simp only [nrm]
   refine tkA 3 (.pointer (some ⟨gb,o,none⟩)) rfl ?_ hH ?_
   ·intro w9 hw9;go_simp
   try simp only [nrm]
   refine tkA 4 (.int .i64 t) rfl ?_ hH ?_
   ·intro w9 hw9;have g0:=Grow.cell hw9 Y0.out;go_simp
   try simp only [nrm]
   refine tkA 5 (.bool false) rfl ?_ hH ?_
   ·intro w9 hw9;go_simp
   try simp only [nrm]
   refine tkA 6 (.bool false) rfl ?_ hH ?_
   ·intro w9 hw9;go_simp
   try simp only [nrm]
   refine tkA 7 (.slice (some ⟨gb,o,none⟩) x.length c) rfl ?_ hH ?_
   ·intro w9 hw9;go_simp
   try simp only [nrm]
   refine tkA 8 (.int .i64 ((0:Nat):Int)) rfl ?_ hH ?_
   ·intro w9 hw9;go_simp
   try simp only [nrm]
   refine tkA 9 (.pointer (some ⟨gb,o,none⟩)) rfl ?_ hH ?_
   ·intro w9 hw9;go_simp
   try simp only [nrm]
   refine tkA 10 (.pointer (some ⟨gb,o,none⟩)) rfl ?_ hH ?_
   ·intro w9 hw9;go_simp
   try simp only [nrm]
   refine tkA 11 (.int .i64 t) rfl ?_ hH ?_
   ·intro w9 hw9;have g0:=Grow.cell hw9 Y0.out;go_simp
   try simp only [nrm]
   refine tkA 12 (.bool false) rfl ?_ hH ?_
   ·intro w9 hw9;go_simp
   try simp only [nrm]
   refine tkA 13 (.bool false) rfl ?_ hH ?_
   ·intro w9 hw9;go_simp
   try simp only [nrm]
   refine tkA 14 (.bool false) rfl ?_ hH ?_
   ·intro w9 hw9;go_simp
   try simp only [nrm]
   refine tkA 15 (.int .i64 ((0:Nat):Int)) rfl ?_ hH ?_
   ·intro w9 hw9;go_simp
   try simp only [nrm]
   refine tkA 16 (.bool false) rfl ?_ hH ?_
   ·intro w9 hw9;go_simp
   try simp only [nrm]
   refine tkA 17 (.bool false) rfl ?_ hH ?_
   ·intro w9 hw9;go_simp
   try simp only [nrm]
   refine tkS 18 rfl hH ?_;try simp only [nrm]
   refine tkS 19 rfl hH ?_;try simp only [nrm]
   refine tkS 20 rfl hH ?_;try simp only [nrm]
   refine tkS 21 rfl hH ?_;try simp only [nrm]
   refine tkS 22 rfl hH ?_;try simp only [nrm]
   refine tkS 23 rfl hH ?_;try simp only [nrm]
   refine tkS 24 rfl hH ?_;try simp only [nrm]
   refine tkS 25 rfl hH ?_;try simp only [nrm]
   refine tkS 26 rfl hH ?_;try simp only [nrm]
   refine tkS 27 rfl hH ?_;try simp only [nrm]
   refine tkS 28 rfl hH ?_;try simp only [nrm]
   refine tkS 29 rfl hH ?_;try simp only [nrm]
   refine tkA 30 (.bool false) rfl ?_ hH ?_
   ·intro w9 hw9;go_simp
   try simp only [nrm]
   refine tkA 31 (.bool false) rfl ?_ hH ?_
   ·intro w9 hw9;go_simp
   try simp only [nrm]
   refine tkA 32 (.bool false) rfl ?_ hH ?_
   ·intro w9 hw9;go_simp
   try simp only [nrm]
   refine tkA 33 (.slice (some ⟨gb,o,none⟩) x.length c) rfl ?_ hH ?_
   ·intro w9 hw9;go_simp
   try simp only [nrm]
   refine tkA 34 (.int .i64 ((0:Nat):Int)) rfl ?_ hH ?_
   ·intro w9 hw9;go_simp
   try simp only [nrm]
   refine tkA 35 (.pointer (some ⟨gb,o,none⟩)) rfl ?_ hH ?_
   ·intro w9 hw9;go_simp
   try simp only [nrm]
   refine tkA 36 (.pointer (some ⟨gb,o+1,none⟩)) rfl ?_ hH ?_
   ·intro w9 hw9;go_simp
   try simp only [nrm]
   refine tkA 37 (.agg #[.int .i64 op,.int .i64 d,.int .i64 a',.int .i64 b']) rfl ?_ hH ?_
   ·intro w9 hw9;have g1:=Grow.cell hw9 Y1.out;have g2:=Grow.cell hw9 Y2.out;have g3:=Grow.cell hw9 Y3.out;have g4:=Grow.cell hw9 Y4.out;go_simp
   try simp only [nrm]
   refine tk1 38 rfl fun K hK=>?_;go_simp;refine zdc op d a' b' _ _ ?_;intro w8 hg8;rw [show errB (vL op d a' b')=0 by rw [HOK.out];rfl]
   go_wp2_with fail;refine hK.out _ _ (hH.trans hg8) ?_;clear hK K hH;intro hH;try simp only [nrm]
   clear hg8;refine tkA 39 (.bool false) rfl ?_ hH ?_
   ·intro w9 hw9;go_simp
   try simp only [nrm]
   refine tkA 40 (.bool false) rfl ?_ hH ?_
   ·intro w9 hw9;go_simp
   try simp only [nrm]
   refine wpAnyH_done (by kernel_rfl) ?_ _
   have HG2:=jH (HG.out.trans hH);clear hH;go_wp2_with fail;go_roundw
   case rel=>exact ⟨1,by omega,by go_num,HG2.out⟩
   case measure=>simp [intOf];omega
  ·obtain ⟨j,hj⟩:∃ j,k=j+1:=⟨k - 1,by omega⟩
   obtain ⟨⟨pt,po,pd,pa,pb⟩,hq⟩:∃ e,x[j]?=some e:=⟨_,List.getElem?_eq_getElem (by omega)⟩
   have hpe:prevAt x k=pt:=by unfold prevAt;rw [if_neg h0,hj,Nat.add_sub_cancel,hq]
   rw [hpe] at hpv;obtain ⟨gb2,o2,e2,_,q0,_⟩:=zci (HX.out.grow HG.out) hq;cases e2;have Q0:=jH q0;have hptz:decide (pt≥t)=false:=by rw [decide_eq_false_iff_not];omega
   have hkz:decide ((k:Int) > 0)=true:=by rw [decide_eq_true_eq];omega
   have hkp:(k:Int) > 0:=by omega
   have hkp2:0<k:=by omega
   have hsub:IntKind.i64.wrap ((k:Int) - 1)=(j:Int):=by rw [show (k:Int) - 1=(j:Int) by omega];exact IntWalk.i64_in _ (by omega)
   have hjl:(j:Int)<(x.length:Int):=by omega
   clear he hpv hok y0 y1 y2 y3 y4 hq hpe q0 h0 hj;go_wp2_with fail;refine wp_region_held_drew (S:=fun X=>Grow wr X) (by kernel_rfl) ((Grow.refl wr).drew) (fun hH=>?_)
   refine tkA 0 (.slice (some ⟨gb,o,none⟩) x.length c) rfl ?_ hH ?_
   ·intro w9 hw9;go_simp
   try simp only [nrm]
   refine tkA 1 (.int .i64 (k:Int)) rfl ?_ hH ?_
   ·intro w9 hw9;go_simp
   try simp only [nrm]
   refine tkA 2 (.pointer (some ⟨gb,o+k * 5,none⟩)) rfl ?_ hH ?_
   ·intro w9 hw9;go_simp
   try simp only [nrm]
   refine tkA 3 (.pointer (some ⟨gb,o+k * 5,none⟩)) rfl ?_ hH ?_
   ·intro w9 hw9;go_simp
   try simp only [nrm]
   refine tkA 4 (.int .i64 t) rfl ?_ hH ?_
   ·intro w9 hw9;have g0:=Grow.cell hw9 Y0.out;go_simp
   try simp only [nrm]
   refine tkA 5 (.bool false) rfl ?_ hH ?_
   ·intro w9 hw9;go_simp
   try simp only [nrm]
   refine tkA 6 (.bool false) rfl ?_ hH ?_
   ·intro w9 hw9;go_simp
   try simp only [nrm]
   refine tkA 7 (.slice (some ⟨gb,o,none⟩) x.length c) rfl ?_ hH ?_
   ·intro w9 hw9;go_simp
   try simp only [nrm]
   refine tkA 8 (.int .i64 (k:Int)) rfl ?_ hH ?_
   ·intro w9 hw9;go_simp
   try simp only [nrm]
   refine tkA 9 (.pointer (some ⟨gb,o+k * 5,none⟩)) rfl ?_ hH ?_
   ·intro w9 hw9;go_simp
   try simp only [nrm]
   refine tkA 10 (.pointer (some ⟨gb,o+k * 5,none⟩)) rfl ?_ hH ?_
   ·intro w9 hw9;go_simp
   try simp only [nrm]
   refine tkA 11 (.int .i64 t) rfl ?_ hH ?_
   ·intro w9 hw9;have g0:=Grow.cell hw9 Y0.out;go_simp
   try simp only [nrm]
   refine tkA 12 (.bool false) rfl ?_ hH ?_
   ·intro w9 hw9;go_simp
   try simp only [nrm]
   refine tkA 13 (.bool false) rfl ?_ hH ?_
   ·intro w9 hw9;go_simp
   try simp only [nrm]
   refine tkA 14 (.bool false) rfl ?_ hH ?_
   ·intro w9 hw9;go_simp
   try simp only [nrm]
   refine tkA 15 (.int .i64 (k:Int)) rfl ?_ hH ?_
   ·intro w9 hw9;go_simp
   try simp only [nrm]
   refine tkA 16 (.bool true) rfl ?_ hH ?_
   ·intro w9 hw9;go_simp
   try simp only [nrm]
   refine tkA 17 (.bool true) rfl ?_ hH ?_
   ·intro w9 hw9;go_simp
   try simp only [nrm]
   refine tkA 18 (.slice (some ⟨gb,o,none⟩) x.length c) rfl ?_ hH ?_
   ·intro w9 hw9;go_simp
   try simp only [nrm]
   refine tkA 19 (.int .i64 (k:Int)) rfl ?_ hH ?_
   ·intro w9 hw9;go_simp
   try simp only [nrm]
   refine tkA 20 (.int .i64 (j:Int)) rfl ?_ hH ?_
   ·intro w9 hw9;go_simp
   try simp only [nrm]
   refine tkA 21 (.pointer (some ⟨gb,o+j * 5,none⟩)) rfl ?_ hH ?_
   ·intro w9 hw9;go_simp
   try simp only [nrm]
   refine tkA 22 (.pointer (some ⟨gb,o+j * 5,none⟩)) rfl ?_ hH ?_
   ·intro w9 hw9;go_simp
   try simp only [nrm]
   refine tkA 23 (.int .i64 pt) rfl ?_ hH ?_
   ·intro w9 hw9;have g9:=Grow.cell hw9 Q0.out;go_simp
   try simp only [nrm]
   refine tkA 24 (.slice (some ⟨gb,o,none⟩) x.length c) rfl ?_ hH ?_
   ·intro w9 hw9;go_simp
   try simp only [nrm]
   refine tkA 25 (.int .i64 (k:Int)) rfl ?_ hH ?_
   ·intro w9 hw9;go_simp
   try simp only [nrm]
   refine tkA 26 (.pointer (some ⟨gb,o+k * 5,none⟩)) rfl ?_ hH ?_
   ·intro w9 hw9;go_simp
   try simp only [nrm]
   refine tkA 27 (.pointer (some ⟨gb,o+k * 5,none⟩)) rfl ?_ hH ?_
   ·intro w9 hw9;go_simp
   try simp only [nrm]
   refine tkA 28 (.int .i64 t) rfl ?_ hH ?_
   ·intro w9 hw9;have g0:=Grow.cell hw9 Y0.out;go_simp
   try simp only [nrm]
   refine tkA 29 (.bool false) rfl ?_ hH ?_
   ·intro w9 hw9;go_simp
   try simp only [nrm]
   refine tkA 30 (.bool false) rfl ?_ hH ?_
   ·intro w9 hw9;go_simp
   try simp only [nrm]
   refine tkA 31 (.bool false) rfl ?_ hH ?_
   ·intro w9 hw9;go_simp
   try simp only [nrm]
   refine tkA 32 (.bool false) rfl ?_ hH ?_
   ·intro w9 hw9;go_simp
   try simp only [nrm]
   refine tkA 33 (.slice (some ⟨gb,o,none⟩) x.length c) rfl ?_ hH ?_
   ·intro w9 hw9;go_simp
   try simp only [nrm]
   refine tkA 34 (.int .i64 (k:Int)) rfl ?_ hH ?_
   ·intro w9 hw9;go_simp
   try simp only [nrm]
   refine tkA 35 (.pointer (some ⟨gb,o+k * 5,none⟩)) rfl ?_ hH ?_
   ·intro w9 hw9;go_simp
   try simp only [nrm]
   refine tkA 36 (.pointer (some ⟨gb,o+k * 5+1,none⟩)) rfl ?_ hH ?_
   ·intro w9 hw9;go_simp
   try simp only [nrm]
   refine tkA 37 (.agg #[.int .i64 op,.int .i64 d,.int .i64 a',.int .i64 b']) rfl ?_ hH ?_
   ·intro w9 hw9;have g1:=Grow.cell hw9 Y1.out;have g2:=Grow.cell hw9 Y2.out;have g3:=Grow.cell hw9 Y3.out;have g4:=Grow.cell hw9 Y4.out;go_simp
   try simp only [nrm]
   refine tk1 38 rfl fun K hK=>?_;go_simp;refine zdc op d a' b' _ _ ?_;intro w8 hg8;rw [show errB (vL op d a' b')=0 by rw [HOK.out];rfl]
   go_wp2_with fail;refine hK.out _ _ (hH.trans hg8) ?_;clear hK K hH;intro hH;try simp only [nrm]
   clear hg8;refine tkA 39 (.bool false) rfl ?_ hH ?_
   ·intro w9 hw9;go_simp
   try simp only [nrm]
   refine tkA 40 (.bool false) rfl ?_ hH ?_
   ·intro w9 hw9;go_simp
   try simp only [nrm]
   refine wpAnyH_done (by kernel_rfl) ?_ _
   have HG2:=jH (HG.out.trans hH);clear hH;go_wp2_with fail;go_roundw
   case rel=>exact ⟨k+1,by omega,by go_num,HG2.out⟩
   case measure=>simp [intOf];omega
theorem zqa (p:List Ln) (x:List Ed) (pv v:Value) (w:World) (hp:LinesAt w pv p) (hx:EditsAt w v x) (hin:∀ e∈x,e.at_<(p.length:Int)) (R:Ending→World→Prop) (hR:∀ w',Grow w w'→R (.returned (.int .i64 0)) w') :
  Calls Tryz.prog 215 #[pv,v] w R:=by
 have HX:=jH hx;have HR:=jH hR;have HIN:=jH hin;obtain ⟨pa,pc,rfl,p1,p2,jk⟩:=hp;obtain ⟨a,c,rfl,h1,h2,jk2⟩:=hx;clear hR hin jk jk2
 go_enter func215,ntmps215
 go_wp2_with fail
 go_loopw [5] (fun i wr=>∃ k:Nat,k≤x.length∧i=.int .i64 k∧Grow w wr) (fun i _=>x.length - (intOf i).toNat)
 case atStart=>exact ⟨0,Nat.zero_le _,rfl,Grow.refl _⟩
 case round=>
  obtain ⟨k,hk,rfl,hg⟩:=hrel;have HG:=jH hg;clear hg;by_cases hlt:k<x.length;rotate_left
  ·have HF:=jH (HR.out _ HG.out);go_wp2_with fail;exact HF.out
  obtain ⟨⟨t,op,d,a',b'⟩,he⟩:∃ e,x[k]?=some e:=⟨_,List.getElem?_eq_getElem hlt⟩;have hin:=HIN.out _ (List.mem_of_getElem? he);dsimp only at hin;have hltk:(k:Int)<(x.length:Int):=by omega
  obtain ⟨gb,o,rfl,hgb,y0,_⟩:=zci (HX.out.grow HG.out) he;have hinz:decide (t≥(p.length:Int))=false:=by rw [decide_eq_false_iff_not];omega
  clear he;go_wp2_with fail;go_roundw
  case rel=>exact ⟨k+1,by omega,by go_num,HG.out⟩
  case measure=>simp [intOf];omega
theorem zye (p:List Ln) (x:List Ed) (pv v:Value) (w:World) (hp:LinesAt w pv p) (hx:EditsAt w v x) (h0:valP p=0) (hv:valX x=0) (hin:∀ e∈x,e.at_<(p.length:Int)) (R:Ending→World→Prop) (hR:∀ w',Grow w w'→R (.returned (.int .i64 0)) w') :
  Calls Tryz.prog 175 #[pv,v] w R:=by
 have HP:=jH hp;have HX:=jH hx;have HR:=jH hR;have HIN:=jH hin;have HV:=jH hv;have H0:=jH h0;clear hR hin hp hx hv h0
 go_enter func175,ntmps175
 go_wp2_with fail;refine zbs p _ _ HP.out _ ?_;intro w1 hg1;have HG1:=jH hg1;rw [H0.out];clear hg1;go_wp2_with fail;refine rValX_any x _ _ (HX.out.grow HG1.out) HV.out _ ?_;intro w2 hg2;have HG2:=jH (HG1.out.trans hg2);clear hg2;go_wp2_with fail;refine zqa p x _ _ _ (HP.out.grow HG2.out) (HX.out.grow HG2.out) HIN.out _ ?_;intro w3 hg3;have HF:=jH (HR.out w3 (HG2.out.trans hg3));clear hg3;go_wp2_with fail;exact HF.out
theorem rDo4_any (p:List Ln) (x:List Ed) (pv v:Value) (w:World) (hp:LinesAt w pv p) (hx:EditsAt w v x) (h0:valP p=0) (hv:valX x=0) (hin:∀ e∈x,0≤e.at_∧e.at_<(p.length:Int)) (R:Ending→World→Prop)
  (hR:∀ w' v',Grow w w'→Own 4 encL w.heap.size w' v' (doM p x)→R (.returned (.tuple #[v',.int .i64 0])) w') :
  Calls Tryz.prog 128 #[pv,v] w R:=by
 have HP:=jH hp;have HX:=jH hx;have HR:=jH hR;have HIN:=jH hin;have HV:=jH hv;have H0:=jH h0;clear hR hin hp hx hv h0
 go_enter func128,ntmps128
 go_wp2_with fail;refine zye p x _ _ _ HP.out HX.out H0.out HV.out (fun e he=>(HIN.out e he).2) _ ?_;intro w1 hg1;have HG1:=jH hg1;clear hg1;go_wp2_with fail;refine zjp p x _ _ _ (HP.out.grow HG1.out) (HX.out.grow HG1.out) HIN.out (zba.1 H0.out).1 _ ?_;intro w2 v2 hg2 ho2;have HF:=jH (HR.out w2 v2 (HG1.out.trans hg2) (by
  obtain ⟨T,h⟩:=ho2;rw [zen (zdm.1 HV.out).2] at h;exact ⟨T,zhu h HG1.out.sz⟩))
 clear hg2 ho2;go_wp2_with fail;first | exact HF.out | exact bodyPost_ret (by simp [results,Tryz.results128,go_sem]) rfl HF.out
end Go.Proofs.YtmeejlgnhfkeaaaGreatDoor
