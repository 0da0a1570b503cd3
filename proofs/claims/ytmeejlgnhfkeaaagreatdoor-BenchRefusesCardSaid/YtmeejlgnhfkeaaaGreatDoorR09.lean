/- Parts. -/
import Derived.Test.YtmeejlgnhfkeaaaGreatDoorR07
import Derived.Test.YtmeejlgnhfkeaaaGreatDoorR08
namespace Go.Proofs.YtmeejlgnhfkeaaaGreatDoor
open Go.RowKit Go.Proofs.Tryz
theorem zlh (w:World) (ty g:Nat) (v:Value) (p:List Ln) (hv:LinesAt w v p) (hc:∀ j,j<p.length * 4→(w.cell? ⟨g,j,none⟩).isSome=true) (hf:∀ j,j<p.length * 4→w.frozen? ⟨g,j,none⟩=false) :
  (Builtin.copy_ #[22,22] ty #[.slice (some ⟨g,0,none⟩) p.length p.length,v]).run Tryz.prog w=.ok (goInt p.length) (w.setCells g 0 (p.flatMap encL)):=by
 have hl4:(p.flatMap encL).length=p.length * 4:=zbp zab p;have hst:=run_storeCells_cells (P:=Tryz.prog) g 0 (p.flatMap encL) 0 w (by rw [hl4];simpa using hc) (by rw [hl4];simpa using hf) (by
  intro u hu;obtain ⟨l,_,hl⟩:=List.mem_flatMap.1 hu;exact zaj l u hl)
 have hinfo:=zjy;obtain ⟨a,c,rfl,h1,h2,h3⟩:=hv;cases hq:Tryz.prog.info? 57 with
 | none=>rw [hq] at hinfo;cases hinfo
 | some i=>
  have hi:i.size=4:=by rw [hq] at hinfo;simp at hinfo;exact hinfo.2.1
  cases a with
  | none=>
   have hp:p=[]:=by
    rcases h3 with h | ⟨b,o,e,_⟩
    ·exact h.1
    ·cases e
   subst hp;simp [Builtin.copy_,run_underlying underlying22,Builtin.lenOf,Builtin.firstCells,sizeOf,typeInfo,hq,storeCells,World.setCells]
  | some ad=>
   have hsrc:∀ j u,(p.flatMap encL)[j]?=some u→w.cell? (ad.add j)=some u:=by
    rcases h3 with ⟨h3,_⟩ | ⟨b,o,e,hb,hcc⟩
    ·subst h3;intro j u hj;simp at hj
    ·cases e;intro j u hj;have hjl:j<p.length * 4:=by rw [← hl4];exact (List.getElem?_eq_some_iff.1 hj).1
     have hj4:j / 4<p.length:=by omega
     have hx:p[j / 4]?=some p[j / 4]:=List.getElem?_eq_getElem hj4;have:=flatMap_getElem? zab p (j / 4) _ hx (j % 4) (Nat.mod_lt _ (by omega))
     rw [show j / 4 * 4+j % 4=j by omega,hj] at this
     have h5:=hcc (j / 4) _ hx (j % 4) u this.symm;rw [Addr.add_lit];rw [show o+j / 4 * 4+j % 4=o+j by omega] at h5
     exact h5
   have hl:=run_loadCells_list (P:=Tryz.prog) w ad (p.flatMap encL) hsrc;rw [hl4] at hl;simp [Builtin.copy_,run_underlying underlying22,Builtin.lenOf,Builtin.firstCells,sizeOf,typeInfo,hq,hi,hl,hst]
theorem made_row {W:World} {g:Nat} {p:List Ln} (hc:∀ j,j<p.length * 4→(W.cell? ⟨g,j,none⟩).isSome=true) (hf:∀ j,j<p.length * 4→W.frozen? ⟨g,j,none⟩=false):RowL (W.setCells g 0 (p.flatMap encL)) g 0 p:=by
 have hl4:(p.flatMap encL).length=p.length * 4:=zbp zab p;intro j l hj i u hu;have hi:i<4:=by have:=(List.getElem?_eq_some_iff.1 hu).1;rw [zab] at this;exact this
 have hjl:j<p.length:=(List.getElem?_eq_some_iff.1 hj).1;have hlt:j * 4+i<(p.flatMap encL).length:=by rw [hl4];omega
 have h1:=World.cell?_setCells_in g (p.flatMap encL) 0 W (fun q hq=>by rw [Nat.zero_add];exact hc q (by rw [← hl4];exact hq)) (j * 4+i) hlt
 have h2:=flatMap_getElem? zab p j l hj i hi;rw [List.getElem?_eq_getElem hlt,hu] at h2;refine ⟨?_,?_⟩
 ·rw [show 0+j * 4+i=0+(j * 4+i) by omega,h1];exact h2
 ·rw [World.frozen?_setCells,show 0+j * 4+i=j * 4+i by omega];exact hf _ (by omega)
theorem zfj {B:Nat} {a:World} (g:Nat) (hB:B≤g):∀ (vs:List Value) (o:Nat) (w:World),Below B a w→Below B a (w.setCells g o vs)
 | [],_,_,h=>h
 | _ :: r,o,_,h=>zfj g hB r (o+1) _ (Below.setCell h hB _)
theorem zgl (g:Nat):∀ (vs:List Value) (o:Nat) (w:World),(w.setCells g o vs).heap.size=w.heap.size
 | [],_,_=>rfl
 | _ :: r,_,_=>by rw [World.setCells,zgl g r,World.size_setCell]
theorem zmz (W:World) (a:Addr) (v:Value):W.grownBy (W.setCell a v) (some a.block):=
 ⟨rfl,rfl,rfl,by rw [World.size_setCell];exact Nat.le_refl _,fun k _ hne=>Below.heap_setCell _ _ _ _ (by intro e;exact hne (by rw [e]))⟩
theorem zmu {W:World} {P:Program} {k:TypeId} {R:Value→Option (DataW Ln × List MemPlace)} {b r n:Nat} {D:DataW Ln} {left:Lit→Bool} {cnt:Nat} (h:W.ranges P k R b r n D left cnt) {g i:Nat} (l:Ln) (hb:b≠g) (hr:r≠g):(storeL W g i l).ranges P k R b r n D left cnt:=by
 have st:∀ {W:World} (a:Addr) (v:Value),a.block=g→W.ranges P k R b r n D left cnt→(W.setCell a v).ranges P k R b r n D left cnt:=fun a v ha h=>
  h.kept (zmz _ a v) (by rw [ha];intro e;exact hb (Option.some.inj e)) (by rw [ha];intro e;exact hr (Option.some.inj e))
 exact st _ _ rfl (st _ _ rfl (st _ _ rfl (st _ _ rfl h)))
theorem ztq {w:World} {n:Nat}:∃ W,(Instr.makeSlice 22 (.int .i64 (n:Int)) (.int .i64 (n:Int))).run Tryz.prog w=.ok (.slice (some ⟨w.heap.size,0,none⟩) n n) W∧Grow w W∧W.heap.size=w.heap.size+1 ∧
  (∀ j,j<n * 4→(W.cell? ⟨w.heap.size,j,none⟩).isSome=true)∧(∀ j,j<n * 4→W.frozen? ⟨w.heap.size,j,none⟩=false)∨1000000<n:=by
 by_cases hn:1000000<n
 ·exact ⟨w,.inr hn⟩
 ·obtain ⟨i,hi,hz0,hz1,hz2⟩:=info_parts zjy;have h:=run_makeSlice (P:=Tryz.prog) w 22 57 i (.agg #[.int .i64 0,.int .i64 0,.int .i64 0,.int .i64 0]) underlying22 hi hz0 .i64 .i64 (n:Int) (n:Int) (by omega) (by omega) (by rw [hz1];omega) (by rw [hz2];omega) (by omega)
  refine ⟨_,.inl ⟨by simpa using h,(Grow.refl w).alloc _,World.size_alloc _ _,fun j hj=>?_,fun j _=>World.frozen?_alloc_new _ _ _ _⟩⟩
  rw [World.cell?_alloc_new];simp [madeCells,hz1];omega
set_option maxRecDepth 100000
set_option maxHeartbeats 8000000
theorem RowL.kept {w w':World} {g o:Nat} {xs:List Ln} {row:Option Nat} (h:RowL w g o xs) (hg:w.grownBy w' row) (hb:g<w.heap.size) (hne:some g≠row):RowL w' g o xs:=by
 have e:=hg.block g hb hne;intro j l hj i u hu;obtain ⟨h1,h2⟩:=h j l hj i u hu;refine ⟨?_,?_⟩
 ·unfold World.cell? at h1 ⊢;dsimp only at h1 ⊢;rw [e];exact h1
 ·unfold World.frozen? at h2 ⊢;dsimp only at h2 ⊢;rw [e];exact h2
theorem do_any (p:List Ln) (x:List Ed) (pv xv:Value) (w:World) (hp:LinesAt w pv p) (hx:EditsAt w xv x) (hlen:p.length≤8) (hok:edsOK x=true) (hx4:x.length≤4) (hoff:offB p.length x=false) (R:Ending→World→Prop)
  (hR:∀ w' v,Grow w w'→NewS w.heap.size v→LinesAt w' v (doM p x)→R (.returned v) w') :
  Calls Tryz.prog 91 #[pv,xv] w R:=by
 have HP:=jH hp;have HX:=jH hx;have HR:=jH hR;have HOK:=jH hok;have HOFF:=jH hoff;have HX4:=jH hx4;obtain ⟨pa,pc,rfl,h1,h2,_⟩:=hp;obtain ⟨xa,xc,rfl,g1,g2,_⟩:=hx;obtain ⟨W,hmk⟩:=ztq (w:=w) (n:=p.length);rcases hmk with ⟨hmk,hgW,hszW,hcW,hfW⟩ | hbig;rotate_left
 ·omega
 have HCW:=jH hcW;have HFW:=jH hfW;have HGW:=jH hgW;obtain ⟨W2,hW2⟩:∃ W2,W.setCells w.heap.size 0 (p.flatMap encL)=W2:=⟨_,rfl⟩;have hcp:∀ ty,(Builtin.copy_ #[22,22] ty #[.slice (some ⟨w.heap.size,0,none⟩) p.length p.length,.slice pa p.length pc]).run Tryz.prog W=.ok (.int .i64 (p.length:Int)) W2:=fun ty=>by
  rw [← hW2];exact zlh W ty w.heap.size _ p (HP.out.grow HGW.out) HCW.out HFW.out
 have HG2:=jH (show Grow w W2 from hW2 ▸ zfj w.heap.size (Nat.le_refl _) _ _ _ HGW.out);have HR2:=jH (show RowL W2 w.heap.size 0 p from hW2 ▸ made_row HCW.out HFW.out);have hsz2:W2.heap.size=w.heap.size+1:=by rw [← hW2,zgl];exact hszW
 obtain ⟨B,hB⟩:∃ B,W2.heap.size=B:=⟨_,rfl⟩;have hBw:w.heap.size<B:=by omega
 have HB:=jH hB;clear hB hsz2 hszW;clear hR hok hoff hx4 hcW hfW hgW hW2
 go_enter func91,ntmps91
 go_wp2_with fail;refine read_any x _ _ (HX.out.grow HG2.out) HOK.out HX4.out _ ?_;intro w3 n3 D hg3 hn3 ho3 hm3;have hsz3:=hg3.sz;rw [HB.out] at ho3 hsz3;rw [HB.out];have HM:=jH hm3;have HG3:=jH (HG2.out.trans hg3);have HR3:=jH (HR2.out.grow hg3 (by have:=HB.out;omega))
 have hown:=ho3;clear hm3 hmk hcp;go_wp2_with (at_range;refine wpList_range_own _ rfl _ 198 rfl 3 57 lawI underlying198 lineR B n3 D rfl ho3 ?_;intro w0 hrg0 hg0 hs0)
 go_frame
 have hgr0:Grow w3 w0:=Grow.of_grownBy hg0;have hnb:B<w3.heap.size:=ho3.lt;have HOWN:=jH hown;clear ho3 hown hg3
 go_loopw [6,7] (fun _ _ wr=>∃ (left:Lit→Bool) (cnt:Nat) (q:List Ln),wr.ranges Tryz.prog 3 lineR B w3.heap.size n3 D left cnt∧Doing p q x left∧RowL wr w.heap.size 0 q∧Grow w wr) (fun _ _ wr=>wr.rangeLeft B w3.heap.size)
 case atStart=>exact ⟨_,_,p,hrg0,Doing.start HM.out hlen,HR3.out.grow hgr0 (by omega),HG3.out.trans hgr0⟩
 case round=>
  obtain ⟨left,cnt,q,hrg,hdo,hrow,hgr⟩:=hrel;have HRG:=jH hrg;have HDO:=jH hdo;have HROW:=jH hrow;have HGR:=jH hgr;have hzw:=hrg.lt;clear hrg hdo hrow hgr hrg0 hg0 hgr0;go_wp2_with (at_next;refine wpList_next_ranges _ rfl _ rfl 3 lawI lineR (Value.int .i64) (fun l:Ln=>.agg #[.int .i64 l.op,.int .i64 l.d,.int .i64 l.a,.int .i64 l.b]) (fun key kl h=>by obtain ⟨z,hz,_⟩:=Go.Maps.keyOf_int_inv underlying3 h;exact ⟨z,hz⟩) (fun v y h=>by obtain ⟨l,hl,_⟩:=zxm h;exact ⟨l,hl⟩) B w3.heap.size n3 D left cnt rfl HRG.out ?_ ?_)
  ·intro _ hl0;have hq:=HDO.out.done hl0;have hql:=HDO.out.1;have h:=HROW.out.slc (c:=p.length) (by omega) (by omega) (by omega)
   rw [hql,hq] at h;have HF:=jH (HR.out wr _ HGR.out (fun a n c e=>by cases e;exact Nat.le_refl _) h)
   clear h hq hql;go_wp2_with fail;exact HF.out
  ·intro xk c kl y1 y2 w1 cnt1 hkey hlk hv hat hrg1 hlt hg1 hs1 hen;obtain ⟨x',ex,rfl,hwx⟩:=Go.Maps.keyOf_int_inv underlying3 hkey;cases ex;have hy:(DataW.held c,([]:List MemPlace))=(y1,y2):=Option.some.inj ((zte c).symm.trans hv);cases hy;obtain ⟨e,hfe,hel⟩:=HM.out.entry hwx hat;have hat_:e.at_=xk:=by have:=List.find?_some hfe;simpa [atB] using this
   obtain ⟨k,hk⟩:=List.getElem?_of_mem (List.mem_of_find?_eq_some hfe);obtain ⟨⟨e0,_⟩,_⟩:=zde HOK.out hk;have e1:e.at_<(p.length:Int):=by
    have h:=HOFF.out;unfold offB at h;have:=List.any_eq_false.1 h e (List.mem_of_find?_eq_some hfe);simp at this;omega
   obtain ⟨m,rfl⟩:∃ m:Nat,xk=m:=⟨xk.toNat,by omega⟩
   have hmp:(m:Int)<(p.length:Int):=by omega
   have hmn:m<p.length:=by omega
   have HST:=jH (HDO.out.step hfe hmn);have HROW1:=jH ((HROW.out.kept hg1 (by omega) (by intro e;have:=Option.some.inj e;omega)))
   have HGR1:=jH (show Grow w w1 from Below.grown HGR.out hg1 (by omega) (fun j hj=>by cases hj;omega))
   have HRG1:=jH hrg1;have HLEQ:=jH HRG.out.left_eq;subst hel;obtain ⟨et,o1,d1,a1,b1⟩:=e;dsimp only at hen HST ⊢;have hz1:w.heap.size<w1.heap.size:=by omega
   have hql:=HDO.out.1;have HQL:=jH hql;have HLT:=jH hlt;obtain ⟨l0,hl0⟩:∃ l,q[m]?=some l:=⟨_,List.getElem?_eq_getElem (by omega)⟩
   obtain ⟨lo,ld,la,lb⟩:=l0;obtain ⟨⟨c0,c1,c2,c3⟩,z0,z1,z2,z3⟩:=HROW1.out.at hl0;simp only [Nat.zero_add] at c0 c1 c2 c3 z0 z1 z2 z3;have HEN:=jH hen;clear hkey hlk hv hat hrg1 hg1 hfe hk e0 e1 hat_ hwx hl0 hql hlt hs1;go_wp2_with fail;have hr3:=(zmu HRG1.out (g:=w.heap.size) (i:=m * 4) ⟨o1,d1,a1,b1⟩ (by omega) (by omega)).alloc (.cells #[.int .i64 o1,.int .i64 d1,.int .i64 a1,.int .i64 b1] 57)
   have hrow2:=HROW1.out.set (k:=m) (by rw [HQL.out];omega) ⟨o1,d1,a1,b1⟩
   rw [Nat.zero_add] at hrow2;have hg2:=zcc (i:=m * 4) ⟨o1,d1,a1,b1⟩ HGR1.out (Nat.le_refl w.heap.size);refine ⟨⟨_,_,_,hr3,HST.out,hrow2.grow ((Grow.refl _).alloc _) (by rw [zpx];omega),Grow.alloc hg2 _⟩,?_⟩
   have e1:=hr3.left_eq;unfold storeL at e1;rw [e1,HLEQ.out];exact HLT.out
set_option maxRecDepth 100000
set_option maxHeartbeats 4000000
theorem zqu {x:List Ed} (h:edsOK x=true):∀ e∈x,e.l.ok=true:=fun e he=>by
 obtain ⟨k,hk⟩:=List.getElem?_of_mem he;exact (zde h hk).2.2
theorem zvy (p:List Ln) (x:List Ed) (ts:List Tst) (pv xv tv:Value) (w:World) (hp:LinesAt w pv p) (hx:EditsAt w xv x) (ht:TestsAt w tv ts) (hok:chkX p x ts=0) (R:Ending→World→Prop)
  (hR:∀ w',Grow w w'→R (.returned (.bool (goodM p x ts))) w') :
  Calls Tryz.prog 283 #[pv,xv,tv] w R:=by
 obtain ⟨k1,k2,k3,k4⟩:=zdn.1 hok;obtain ⟨k5,k6⟩:=zdm.1 k2;have hdv:=zmh k1 (zqu k6);have hck:chkT (doM p x) ts=0:=zef.2 ⟨hdv,k3⟩;have HP:=jH hp;have HX:=jH hx;have HT:=jH ht;have HR:=jH hR;have H5:=jH k5;have H6:=jH k6;have H4:=jH k4;have H1:=jH (zba.1 k1).1;have HCK:=jH hck;obtain ⟨g,hg⟩:∃ g,goodM p x ts=g:=⟨_,rfl⟩;rw [hg] at HR;have HGD:=jH hg;obtain ⟨pa,pc,rfl,_⟩:=hp;obtain ⟨xa,xc,rfl,_⟩:=hx;obtain ⟨⟨ta,tc,rfl,_⟩,_⟩:=ht;clear hR hok k1 k2 k3 k4 k5 k6 hdv hck hg
 go_enter func283,ntmps283
 go_wp2_with fail;refine do_any p x _ _ _ HP.out HX.out H1.out H6.out H5.out H4.out _ ?_;intro w1 v1 hg1 _ hv1;have HV1:=jH hv1;obtain ⟨a1,c1,rfl,_⟩:=hv1;have HG1:=jH hg1;clear hg1;go_wp2_with fail;refine Failing_any (doM p x) ts _ _ _ HV1.out (HT.out.grow HG1.out) _ ?_;intro w2 v2 hg2 hv2;rw [HCK.out,zgv] at hv2;rw [HCK.out];have hl:=hv2.slc zal;obtain ⟨a2,c2,rfl,_⟩:=hl;have HF:=jH (HR.out w2 (HG1.out.trans hg2));have hlen:(whereL (fun t=>!passM (doM p x) t) ts).length=0↔g=true:=by
  rw [← HGD.out];exact zii
 clear hg2 hv2;generalize (whereL (fun t=>!passM (doM p x) t) ts).length=n at hlen ⊢;cases g with
 | true=>
  have hn:n=0:=hlen.2 rfl;subst hn;clear hlen;go_wp2_with fail;exact HF.out
 | false=>
  have hn:n≠0:=fun e=>by have:=hlen.1 e;cases this
  have t1:((n:Int) == 0)=false:=by simp;omega
  clear hlen hn;go_wp2_with fail;exact HF.out
theorem IsGood_any (p:List Ln) (x:List Ed) (ts:List Tst) (pv xv tv:Value) (w:World) (hp:LinesAt w pv p) (hx:EditsAt w xv x) (ht:TestsAt w tv ts) (R:Ending→World→Prop)
  (hR:∀ w',Grow w w'→R (.returned (.tuple #[.bool (decide (chkX p x ts=0) && goodM p x ts),.int .i64 (chkX p x ts)])) w') :
  Calls Tryz.prog 268 #[pv,xv,tv] w R:=by
 have HP:=jH hp;have HX:=jH hx;have HT:=jH ht;have HR:=jH hR;obtain ⟨e,he⟩:∃ e,chkX p x ts=e:=⟨_,rfl⟩;rw [he] at HR;have HE:=jH he;obtain ⟨pa,pc,rfl,_⟩:=hp;obtain ⟨xa,xc,rfl,_⟩:=hx;obtain ⟨⟨ta,tc,rfl,_⟩,_⟩:=ht;clear hR he;by_cases h0:e=0
 ·subst h0;rw [decide_eq_true rfl,Bool.true_and] at HR
  go_enter func268,ntmps268
  go_wp2_with fail;refine zdd p x ts _ _ _ _ HP.out HX.out HT.out _ ?_;intro w1 hg1;rw [HE.out];have HG1:=jH hg1;clear hg1;go_wp2_with fail;refine zvy p x ts _ _ _ _ (HP.out.grow HG1.out) (HX.out.grow HG1.out) (HT.out.grow HG1.out) HE.out _ ?_;intro w2 hg2;have HF:=jH (HR.out w2 (HG1.out.trans hg2));clear hg2;generalize goodM p x ts=g at HF ⊢;go_wp2_with fail;exact HF.out
 ·rw [decide_eq_false h0,Bool.false_and] at HR;have t1:(e != 0)=true:=by simpa using h0
  clear h0
  go_enter func268,ntmps268
  go_wp2_with fail;refine zdd p x ts _ _ _ _ HP.out HX.out HT.out _ ?_;intro w1 hg1;rw [HE.out];have HF:=jH (HR.out w1 hg1);clear hg1;go_wp2_with fail;exact HF.out
set_option maxHeartbeats 2000000
set_option maxRecDepth 100000
theorem zfs (p:List Ln) (ts:List Tst) (pv tv:Value) (w:World) (hp:LinesAt w pv p) (ht:TestsAt w tv ts) (R:Ending→World→Prop)
  (hR:∀ w',Grow w w'→R (.returned (.int .i64 (chkT p ts))) w') :
  Calls Tryz.prog 237 #[pv,tv] w R:=by
 have HP:=jH hp;have HT:=jH ht;have hc:chkT p ts=if valP p=0 then valT ts else valP p:=rfl;rw [hc] at hR;have HR:=jH hR;obtain ⟨e,he⟩:∃ e,valP p=e:=⟨_,rfl⟩;rw [he] at HR;have HE:=jH he;obtain ⟨pa,pc,rfl,_⟩:=hp;obtain ⟨⟨ta,tc,rfl,_⟩,_⟩:=ht;clear hR hc he;by_cases h0:e=0
 ·subst h0;rw [if_pos rfl] at HR
  go_enter func237,ntmps237
  go_wp2_with fail;refine zbm p _ _ HP.out _ ?_;intro w1 hg1;rw [HE.out];have HG1:=jH hg1;clear hg1;go_wp2_with fail;refine zbw ts _ _ (HT.out.grow HG1.out) _ ?_;intro w2 hg2;have HF:=jH (HR.out w2 (HG1.out.trans hg2));clear hg2;go_wp2_with fail;exact HF.out
 ·rw [if_neg h0] at HR;have t1:(e != 0)=true:=by simpa using h0
  clear h0
  go_enter func237,ntmps237
  go_wp2_with fail;refine zbm p _ _ HP.out _ ?_;intro w1 hg1;rw [HE.out];have HF:=jH (HR.out w1 hg1);clear hg1;go_wp2_with fail;exact HF.out
def allPass (p:List Ln) (ts:List Tst):Bool:=ts.all fun t=>passM p t
theorem zne (p:List Ln) (ts:List Tst) (pv tv:Value) (w:World) (hp:LinesAt w pv p) (ht:TestsAt w tv ts) (hok:chkT p ts=0) (R:Ending→World→Prop)
  (hR:∀ w',Grow w w'→R (.returned (.bool (!allPass p ts))) w') :
  Calls Tryz.prog 259 #[pv,tv] w R:=by
 have HP:=jH hp;have HT:=jH ht;have HR:=jH hR;have HOK:=jH hok;obtain ⟨g,hg⟩:∃ g,allPass p ts=g:=⟨_,rfl⟩;rw [hg] at HR;have HGD:=jH hg;obtain ⟨pa,pc,rfl,_⟩:=hp;obtain ⟨⟨ta,tc,rfl,_⟩,_⟩:=ht;clear hR hok hg
 go_enter func259,ntmps259
 go_wp2_with fail;refine Failing_any p ts _ _ _ HP.out HT.out _ ?_;intro w2 v2 hg2 hv2;rw [HOK.out,zgv] at hv2;rw [HOK.out];have hl:=hv2.slc zal;obtain ⟨a2,c2,rfl,_⟩:=hl;have HF:=jH (HR.out w2 hg2);have hlen:(whereL (fun t=>!passM p t) ts).length=0↔g=true:=by
  rw [← HGD.out];exact zii
 clear hg2 hv2;generalize (whereL (fun t=>!passM p t) ts).length=n at hlen ⊢;cases g with
 | true=>
  have hn:n=0:=hlen.2 rfl;subst hn;clear hlen;go_wp2_with fail;exact HF.out
 | false=>
  have hn:n≠0:=fun e=>by have:=hlen.1 e;cases this
  have t1:(n:Int) > 0:=by omega
  clear hlen hn;go_wp2_with fail;first | exact HF.out | (have hd:decide ((n:Int) > 0)=true:=decide_eq_true t1;rw [hd];exact HF.out) | (have hd:decide (0<n)=true:=decide_eq_true (by omega);rw [hd];exact HF.out)
theorem zqp (p:List Ln) (ts:List Tst) (pv tv:Value) (w:World) (hp:LinesAt w pv p) (ht:TestsAt w tv ts) (hok:chkT p ts=0) (R:Ending→World→Prop)
  (hR:∀ w',Grow w w'→R (.returned (.int .i64 (if allPass p ts then 8 else 0))) w') :
  Calls Tryz.prog 239 #[pv,tv] w R:=by
 have HP:=jH hp;have HT:=jH ht;have HR:=jH hR;have HOK:=jH hok;obtain ⟨g,hg⟩:∃ g,allPass p ts=g:=⟨_,rfl⟩;rw [hg] at HR;have HGD:=jH hg;obtain ⟨pa,pc,rfl,_⟩:=hp;obtain ⟨⟨ta,tc,rfl,_⟩,_⟩:=ht;clear hR hok hg
 go_enter func239,ntmps239
 go_wp2_with fail;refine zne p ts _ _ _ HP.out HT.out HOK.out _ ?_;intro w1 hg1;rw [HGD.out];have HF:=jH (HR.out w1 hg1);clear hg1;cases g<;>(go_wp2_with fail;exact HF.out)
theorem zrb (p:List Ln) (x:List Ed) (ts:List Tst) (pv xv tv:Value) (w:World) (hp:LinesAt w pv p) (hx:EditsAt w xv x) (ht:TestsAt w tv ts) (R:Ending→World→Prop)
  (hR:∀ w',Grow w w'→R (.returned (.bool (decide (chkX p x ts=0) && goodM p x ts))) w') :
  Calls Tryz.prog 243 #[pv,xv,tv] w R:=by
 have HP:=jH hp;have HX:=jH hx;have HT:=jH ht;have HR:=jH hR;obtain ⟨g,hg⟩:∃ g,(decide (chkX p x ts=0) && goodM p x ts)=g:=⟨_,rfl⟩;rw [hg] at HR;have HGD:=jH hg;obtain ⟨pa,pc,rfl,_⟩:=hp;obtain ⟨xa,xc,rfl,_⟩:=hx;obtain ⟨⟨ta,tc,rfl,_⟩,_⟩:=ht;clear hR hg
 go_enter func243,ntmps243
 go_wp2_with fail;refine IsGood_any p x ts _ _ _ _ HP.out HX.out HT.out _ ?_;intro w1 hg1;rw [HGD.out];have HF:=jH (HR.out w1 hg1);clear hg1;go_wp2_with fail;exact HF.out
set_option maxRecDepth 100000
set_option maxHeartbeats 8000000
theorem zpp:(Tryz.prog.info? 60).map (fun i=>(i.zero,i.size,i.bytes))=some (some (.agg #[.int .i64 0,.int .i64 0,.int .i64 0,.int .i64 0,.int .i64 0]),5,40):=by kernel_rfl
theorem zhj (e:Ed):∀ u∈encE e,u.oneCell'=true:=by
 intro u hu;unfold encE encL at hu;simp only [List.mem_cons,List.not_mem_nil,or_false] at hu;rcases hu with rfl | rfl | rfl | rfl | rfl<;>rfl
theorem zfq (w:World) (t op d a b:Int) (T:TypeId):EditsAt (w.alloc (.cells #[.int .i64 t,.int .i64 op,.int .i64 d,.int .i64 a,.int .i64 b] T)) (.slice (some ⟨w.heap.size,0,none⟩) 1 1) [⟨t,⟨op,d,a,b⟩⟩]:=by
 refine ⟨_,1,rfl,Nat.le_refl _,by omega,.inr ⟨w.heap.size,0,rfl,by simp,?_⟩⟩
 intro j x hj i u hu;cases j with
 | succ j=>simp at hj
 | zero=>
  simp at hj;subst hj;rw [show 0+0 * 5+i=i by omega,World.cell?_alloc_new]
  have hi:i<5:=by have:=(List.getElem?_eq_some_iff.1 hu).1;rw [zbh] at this;exact this
  have:i=0∨i=1∨i=2∨i=3∨i=4:=by omega
  rcases this with rfl | rfl | rfl | rfl | rfl<;>exact hu
def fixB (p:List Ln) (ts:List Tst) (at_:Int) (x:Ln):Bool:=decide (chkX p [⟨at_,x⟩] ts=0) && goodM p [⟨at_,x⟩] ts
def fixE (p:List Ln) (ts:List Tst) (at_:Int) (C:List Ln):List Ed:=(C.filter (fixB p ts at_)).map (Ed.mk at_)
theorem zwp {p:List Ln} {ts:List Tst} {at_:Int} {C:List Ln} {k:Nat} {x:Ln} (h:C[k]?=some x):fixE p ts at_ (C.take (k+1))=fixE p ts at_ (C.take k)++if fixB p ts at_ x then [⟨at_,x⟩] else []:=by
 unfold fixE;rw [List.take_add_one,h,List.filter_append,List.map_append];cases hf:fixB p ts at_ x<;>simp [hf]
theorem znm (p:List Ln) (ts:List Tst) (at_:Int) (C:List Ln):(fixE p ts at_ C).length≤C.length:=by
 unfold fixE;rw [List.length_map];exact List.length_filter_le _ _
theorem zxw (p:List Ln) (ts:List Tst) (at_:Int) (kv:Value) (C:List Ln) (pv tv:Value) (w:World) (hp:LinesAt w pv p) (ht:TestsAt w tv ts) (hC:C.length<100000)
  (hcand:∀ R':Ending→World→Prop,(∀ W' v,Grow w W'→LinesAt W' v C→R' (.returned v) W')→Calls Tryz.prog 275 #[pv,.int .i64 at_,kv] w R') (R:Ending→World→Prop)
  (hR:∀ w' v,Grow w w'→Own 5 encE w.heap.size w' v (fixE p ts at_ C)→R (.returned v) w') :
  Calls Tryz.prog 260 #[pv,tv,.int .i64 at_,kv] w R:=by
 have HP:=jH hp;have HT:=jH ht;have HR:=jH hR;have HC:=jH hcand;obtain ⟨pa,pc,rfl,_⟩:=hp;obtain ⟨⟨ta,tc,rfl,_⟩,_⟩:=ht;clear hR hcand
 go_enter func260,ntmps260
 go_wp2_with fail;refine HC.out _ ?_;intro w1 v1 hg1 hv1;have HV1:=jH hv1;obtain ⟨a1,c1,rfl,q1,q2,_⟩:=hv1;have HG1:=jH hg1;have hz1:=hg1.sz;clear hg1;go_wp2_with fail
 go_loopw [9,11,12,18] (fun out _ _ i wr=>∃ k:Nat,k≤C.length∧i=.int .i64 k∧Grow w1 wr∧wr.ownsRow w1.heap.size 60 5 out (fixE p ts at_ (C.take k)).length ((fixE p ts at_ (C.take k)).flatMap encE)) (fun _ _ _ i _=>C.length - (intOf i).toNat)
 case atStart=>exact ⟨0,Nat.zero_le _,rfl,Grow.refl _,World.ownsRow_nil _ _ _ _⟩
 case round=>
  obtain ⟨k,hk,rfl,hg,how⟩:=hrel;have HG:=jH hg;have HOW:=jH how;have hzw:=hg.sz;clear hg how;by_cases hlt:k<C.length
  ·obtain ⟨⟨op,d,a,b⟩,hx⟩:∃ x,C[k]?=some x:=⟨_,List.getElem?_eq_getElem hlt⟩;obtain ⟨gb,o,rfl,hgb,y0,y1,y2,y3⟩:=zbr (HV1.out.grow HG.out) hx;have hlt2:(k:Int)<(C.length:Int):=by omega
   have HS:=jH (zwp (p:=p) (ts:=ts) (at_:=at_) hx);have HLB:=jH (show (fixE p ts at_ (C.take k)).length<100000000000 by have:=znm p ts at_ (C.take k);rw [List.length_take] at this;omega)
   obtain ⟨f,hf⟩:∃ f,fixB p ts at_ ⟨op,d,a,b⟩=f:=⟨_,rfl⟩;have HF:=jH hf;clear hx hf;go_wp2_with fail;have hb1:=zco wr (.cells #[.int .i64 op,.int .i64 d,.int .i64 a,.int .i64 b] 57) (.cells #[.int .i64 at_,.int .i64 op,.int .i64 d,.int .i64 a,.int .i64 b] 60);have hgb1:=((Grow.refl wr).alloc (.cells #[.int .i64 op,.int .i64 d,.int .i64 a,.int .i64 b] 57)).alloc (.cells #[.int .i64 at_,.int .i64 op,.int .i64 d,.int .i64 a,.int .i64 b] 60);have hsz:((wr.alloc (.cells #[.int .i64 op,.int .i64 d,.int .i64 a,.int .i64 b] 57)).alloc (.cells #[.int .i64 at_,.int .i64 op,.int .i64 d,.int .i64 a,.int .i64 b] 60)).heap.size=wr.heap.size+2:=by simp
   generalize (wr.alloc (.cells #[.int .i64 op,.int .i64 d,.int .i64 a,.int .i64 b] 57)).alloc (.cells #[.int .i64 at_,.int .i64 op,.int .i64 d,.int .i64 a,.int .i64 b] 60)=W at hb1 hgb1 hsz ⊢;have hlit:=zfq W at_ op d a b 60;rw [hsz] at hlit;refine zrb p [⟨at_,⟨op,d,a,b⟩⟩] ts _ _ _ _ (HP.out.grow (HG1.out.trans (HG.out.trans (hgb1.alloc _)))) hlit (HT.out.grow (HG1.out.trans (HG.out.trans (hgb1.alloc _)))) _ ?_;intro w2 hg2;rw [show (decide (chkX p [⟨at_,⟨op,d,a,b⟩⟩] ts=0) && goodM p [⟨at_,⟨op,d,a,b⟩⟩] ts)=f from HF.out];have hb2:=((Grow.refl W).alloc (.cells #[.int .i64 at_,.int .i64 op,.int .i64 d,.int .i64 a,.int .i64 b] 60)).trans hg2 |>.blk hb1;obtain ⟨c0,c1',c2,c3,c4⟩:=box5 hb2;have hz2:=lt_of_block hb2;have HG2:=jH ((hgb1.alloc _).trans hg2);clear hb1 hgb1 hsz hlit hg2 hb2 y0 y1 y2 y3;cases f with
   | false=>
    go_wp2_with fail;go_roundw
    case rel=>exact ⟨k+1,by omega,by go_num,HG.out.trans HG2.out,by rw [HS.out,HF.out,if_neg (by decide),List.append_nil];exact HG2.out.owns HOW.out⟩
    case measure=>simp [intOf];omega
   | true=>
    go_wp2_with (at_builtin;refine zad _ rfl (.tmp 30) (.tmp 32) 58 rfl w1.heap.size 60 underlying58 zpp rfl (by decide) (by decide) encE zbh zhj _ (fixE p ts at_ (C.take k)) rfl ((HG2.out.alloc _).owns HOW.out) _ (⟨at_,⟨op,d,a,b⟩⟩:Ed) 1 rfl (newsG _ _ (by simp) (encE ⟨at_,⟨op,d,a,b⟩⟩) _) HLB.out (by have:=HG.out.sz;have:=HG2.out.sz;simp;omega) ?_;intro out2 w3 hown2 hgr2)
    have HG3:=jH (show Grow w1 w3 from zae HOW.out hgr2 (Nat.le_refl _) (by have:=HG.out.sz;have:=HG2.out.sz;simp;omega) (HG.out.trans (HG2.out.alloc _)))
    have HO2:=jH hown2;clear hown2 hgr2;go_roundw
    case rel=>exact ⟨k+1,by omega,by go_num,HG3.out,by rw [HS.out,HF.out,if_pos rfl];exact HO2.out⟩
    case measure=>simp [intOf];omega
  ·have hkn:k=C.length:=by omega
   have HO2:=HOW.out;rw [hkn,List.take_length] at HO2;have HF:=jH (HR.out _ _ (HG1.out.trans HG.out) ⟨_,zbu HO2 hz1⟩);clear HO2 hkn;go_wp2_with fail;exact HF.out
end Go.Proofs.YtmeejlgnhfkeaaaGreatDoor
