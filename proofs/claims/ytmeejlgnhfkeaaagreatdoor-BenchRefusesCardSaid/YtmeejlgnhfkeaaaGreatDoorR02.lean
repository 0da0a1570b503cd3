/- Parts. -/
import Derived.Test.YtmeejlgnhfkeaaaGreatDoorR01
import Derived.Test.YtmeejlgnhfkeaaaGreatDoorR00
import Derived.Deep.WholeRow
import Derived.Deep.Cut
import Derived.Deep.CutRange
import Derived.Deep.DeepCutAuto
import Derived.Deep.QuietTactic
import Derived.BigQuiet
namespace Go.Proofs.YtmeejlgnhfkeaaaGreatDoor
open Go.RowKit Go.Proofs.Tryz
set_option maxRecDepth 100000
set_option maxHeartbeats 2000000
def ForcedBy (g:Nat) (cb:Array Value) (w:World) (n:Nat) (f:Nat→Option Int):Prop:=
 ∀ (i:Nat) W,i<n→Grow w W→∀ R:Ending→World→Prop,
  (∀ W',Grow W W'→R (.returned (.tuple #[.int .i64 ((f i).getD 0),.bool (f i).isSome])) W')→Calls Tryz.prog g (#[.int .i64 i]++cb) W R
theorem encV_one (v:Nat × St):∀ u∈encV v,u.oneCell'=true:=by
 intro u hu;simp [encV] at hu;rcases hu with rfl | rfl | rfl | rfl | rfl<;>rfl
theorem zvl:(Tryz.prog.info? 327).map (fun i=>(i.zero,i.size,i.bytes))=some (some (.agg #[.int .i64 0,.int .i64 0,.int .i64 0,.int .i64 0,.int .i64 0]),5,40):=by kernel_rfl
structure RunI (w0:World) (bo:Nat) (q:St) (out:Value) (vs:List (Nat × St)) (W:World):Prop where
 bel:Below w0.heap.size w0 W
 b7:W.heap[w0.heap.size]?=some (.cells (arrS ⟨0,0,0,0⟩) 299 (0,0))
 b8:W.heap[w0.heap.size+1]?=some (.cells (arrS q) 299 (0,0))
 b9:W.heap[bo]?=some (.cells opsC.toArray 324 (0,0))
 own:W.ownsRow (bo+1) 327 5 out vs.length (vs.flatMap encV)
 sz:bo+1≤W.heap.size
 lt:w0.heap.size+1<bo
theorem RunI.grow {w0:World} {bo:Nat} {q:St} {out:Value} {vs:List (Nat × St)} {W W':World} (h:RunI w0 bo q out vs W) (g:Grow W W'):RunI w0 bo q out vs W':=
 ⟨Below.of_grow h.bel g (by have:=h.sz;have:=h.lt;omega),g.blk h.b7,g.blk h.b8,g.blk h.b9,g.owns h.own,Nat.le_trans h.sz g.sz,h.lt⟩
theorem RunI.app {w0:World} {bo:Nat} {q:St} {out out':Value} {vs vs':List (Nat × St)} {W Wa W':World} (h:RunI w0 bo q out vs W) (ga:Grow W Wa)
  (hown:W'.ownsRow (bo+1) 327 5 out' vs'.length (vs'.flatMap encV)) (hg:Wa.grownBy W' out.ownBlock):RunI w0 bo q out' vs' W':=by
 have h2:=h.grow ga;have hl:=h2.lt;have hz:=h2.sz;exact ⟨zae h2.own hg (by omega) (by omega) h2.bel,zev h2.own hg (by omega) h2.b7,zev h2.own hg (by omega) h2.b8,zev h2.own hg (by omega) h2.b9,hown,Nat.le_trans hz hg.size,hl⟩
theorem RunI.set {w0:World} {bo:Nat} {q:St} {out:Value} {vs:List (Nat × St)} {W:World} (h:RunI w0 bo q out vs W) (r n:Int) (h0:0≤r) (h3:r≤3) :
  RunI w0 bo (q.set r n) out vs (W.setCell ⟨w0.heap.size+1,r.toNat,none⟩ (.int .i64 n)):=by
 have hl:=h.lt;refine ⟨Below.setCell h.bel (by simp) _,?_,zjv h.b8 r n h0 h3,?_,ownsRow_setCell_below h.own (by simp;omega) _,by rw [World.size_setCell];exact h.sz,hl⟩
 ·rw [Below.heap_setCell _ _ _ _ (by simp)];exact h.b7
 ·rw [Below.heap_setCell _ _ _ _ (by simp;omega)];exact h.b9
theorem zfl {w:World} {b:Nat} {c0 c1 c2 c3:Value} {e:TypeId} (h:w.heap[b]?=some (.cells #[c0,c1,c2,c3] e (0,0))) :
  w.cell? ⟨b,0,none⟩=some c0∧w.cell? ⟨b,1,none⟩=some c1∧w.cell? ⟨b,2,none⟩=some c2∧w.cell? ⟨b,3,none⟩=some c3:=by
 simp [World.cell?,h]
theorem zcd {w:World} {b:Nat} {e:TypeId} (h:w.heap[b]?=some (.cells opsC.toArray e (0,0))) (j:Nat) (u:Value) (hj:opsC[j]?=some u):w.cell? ⟨b,j,none⟩=some u:=by
 simp [World.cell?,h,hj]
theorem run_any (g:Nat) (cb:Array Value) (eg:Enters Tryz.prog g) (f:Nat→Option Int) (p:List Ln) (s:St) (v u:Value) (w:World) (hp:LinesAt w v p) (hs:IntsAt w u s.toL) (hpl:p.length≤8)
  (hok:∀ l∈p,l.ok=true) (hsf:s.fine) (hf:ForcedBy g cb w p.length f) (hfb:∀ i n,f i=some n→-999≤n∧n≤999) (R:Ending→World→Prop)
  (hR:∀ w' x,Grow w w'→Own 5 encV w.heap.size w' x (trc p f 0 s).1→R (.returned (.tuple #[x,.agg (arrS (trc p f 0 s).2)])) w') :
  Calls Tryz.prog 251 #[v,u,.func (.func g) #[] cb] w R:=by
 obtain ⟨a,c,rfl,h1,h2,h3⟩:=hp;obtain ⟨a',c',rfl,h1',h2',h3'⟩:=hs;obtain ⟨b',o',rfl,hb',hc'⟩:=h3'.resolve_left (by simp [St.toL])
 have d0:=zbb hc' 0 s.r0 rfl;have d1:=zbb hc' 1 s.r1 rfl;have d2:=zbb hc' 2 s.r2 rfl;have d3:=zbb hc' 3 s.r3 rfl;rw [Nat.add_zero] at d0;clear hc' h3';have hlen:s.toL.length=4:=rfl;rw [hlen] at *;clear hlen;unfold Enters at eg;have HR:=jH hR;have HF:=jH hf;have HS:=jH hsf;have HO:=jH hok;have HFB:=jH hfb;clear hR hf hsf hok hfb;have hcp:(Builtin.copy_ #[61,61] 3 #[.slice (some ⟨w.heap.size+1,0,none⟩) 4 4,.slice (some ⟨b',o',none⟩) 4 c']).run Tryz.prog
   ((w.alloc (.cells #[.int .i64 0,.int .i64 0,.int .i64 0,.int .i64 0] 299)).alloc (.cells #[.int .i64 0,.int .i64 0,.int .i64 0,.int .i64 0] 299)) =
   .ok (.int .i64 4) ((w.alloc (.cells #[.int .i64 0,.int .i64 0,.int .i64 0,.int .i64 0] 299)).alloc (.cells (arrS s) 299)):=by
  refine (run_copy_row _ _ _ _ _ 3 (w.heap.size+1) 0 4 4 ⟨b',o',none⟩ 4 c' #[.int .i64 0,.int .i64 0,.int .i64 0,.int .i64 0] 299 (encS s) underlying61 (by kernel_rfl) ?_ rfl ?_ (by simp [encS]) ?_).trans ?_
  ·exact zco _ _ _
  ·intro j x hj;have hg:=((Grow.refl w).alloc (.cells #[.int .i64 0,.int .i64 0,.int .i64 0,.int .i64 0] 299)).alloc (.cells #[.int .i64 0,.int .i64 0,.int .i64 0,.int .i64 0] 299);refine hg.cell ?_;rw [Addr.add_lit]
   match j,hj with
   | 0,hj=>simp [encS] at hj;subst hj;exact d0
   | 1,hj=>simp [encS] at hj;subst hj;exact d1
   | 2,hj=>simp [encS] at hj;subst hj;exact d2
   | 3,hj=>simp [encS] at hj;subst hj;exact d3
  ·intro x hx;simp [encS] at hx;rcases hx with rfl | rfl | rfl | rfl<;>rfl
  ·have:=World.setRow_alloc_new (w.alloc (.cells #[.int .i64 0,.int .i64 0,.int .i64 0,.int .i64 0] 299)) #[.int .i64 0,.int .i64 0,.int .i64 0,.int .i64 0] (arrS s) 299;rw [World.size_alloc] at this;exact congrArg _ this
 go_enter func251,ntmps251
 go_wp2_with fail;refine zlb _ _ ?_;intro w1 hg1;have hgw:=(((Grow.refl w).alloc _).alloc _).trans hg1;have hb7:=hg1.blk (zbx _ _ _);have hb8:=hg1.blk (zco _ _ _);have hz:=hg1.sz;simp only [World.size_alloc] at hz;have HB7:=jH hb7;have HB8:=jH hb8;have HGW:=jH hgw;clear hg1 hb7 hb8 hgw hcp d0 d1 d2 d3;unfold opsC;go_wp2_with fail
 go_loopw [10,11] (fun out i wr=>∃ (k:Nat) (q:St) (vs:List (Nat × St)),k≤16∧i=.int .i64 k∧RunI w w1.heap.size q out vs wr∧q.fine∧vs.length≤k∧Upto p f s vs k q) (fun _ i _=>17 - (intOf i).toNat)
 case atStart=>
  refine ⟨0,s,[],by omega,rfl,⟨Below.alloc HGW.out (by omega) _,?_,?_,heap_alloc_new _ _,World.ownsRow_nil _ _ _ _,by simp,by omega⟩,HS.out,by simp,Upto.start _ _ _⟩
  ·rw [Below.heap_alloc _ _ _ (by omega)];exact HB7.out
  ·rw [Below.heap_alloc _ _ _ (by omega)];exact HB8.out
 case round=>
  obtain ⟨k,q,vs,hk,rfl,hI,hqf,hvl,hup⟩:=hrel;clear HB7 HB8;by_cases hlt:k<p.length
  ·replace h3:=h3.resolve_left (by intro h;simp [h] at hlt)
   obtain ⟨b,o,rfl,hb,hc⟩:=h3;obtain ⟨⟨op,d,x,y⟩,hx⟩:∃ l,p[k]?=some l:=⟨_,List.getElem?_eq_getElem hlt⟩;obtain ⟨c0,c1,c2,c3⟩:=zbf hc k op d x y hx;have e0:=cell_later hI.bel c0;have e1:=cell_later hI.bel c1;have e2:=cell_later hI.bel c2;have e3:=cell_later hI.bel c3;obtain ⟨f0,f1,f2,f3⟩:=zhv hI.b8;have hsz:=hI.sz;have n8:w.heap.size+1<wr.heap.size:=by omega
   have n9:w1.heap.size<wr.heap.size:=by omega
   have nb:b<wr.heap.size:=by omega
   have hlok:=HO.out _ (List.mem_of_getElem? hx);have HUP:=jH (hup.step hx);have HX:=jH hx;have HI:=jH hI;have HOK:=jH hlok;have hown:=hI.own;clear hc c0 c1 c2 c3 hx hup hI hlok;have hn1:vs.length<100000000000:=by omega
   go_upto_region 10 with (at_builtin;refine zad _ rfl (.tmp 33) (.tmp 37) 297 rfl (w1.heap.size+1) 327 underlying297 zvl rfl (by decide) (by decide) encV encV_len encV_one _ vs rfl ((hown.alloc _).alloc _) ⟨wr.heap.size+1,0,none⟩ (k,q) 1 rfl (zsn _ _ (encV (k,q)) _) hn1 (by simp;omega) ?_;intro out1 w2 hown1 hgr1)
   have hbox:=zli hown hgr1 (Nat.le_refl _) (zbx wr (.cells #[.int .i64 op,.int .i64 d,.int .i64 x,.int .i64 y] 57) (.cells (encV (k,q)).toArray 327));have hI2:=HI.out.app (((Grow.refl wr).alloc _).alloc _) hown1 hgr1;have hsz2:=hgr1.size;simp only [World.size_alloc] at hsz2;have HBOX:=jH hbox;have HI2:=jH hI2;obtain ⟨g0,g1,g2,g3⟩:=zfl hbox;clear hown hgr1 hown1 HI e0 e1 e2 e3 f0 f1 f2 f3 nb hbox hI2;by_cases hop7:op=7
   ·subst hop7;have hh:=HOK.out;simp [Ln.ok,vL,zbd] at hh;obtain ⟨⟨⟨d1,d8⟩,x0,x3⟩,y0,y3⟩:=hh;have a1:=zcp HI2.out.b8 x x0 x3;have a2:=zcp HI2.out.b8 y y0 y3;have x4:x<4:=by omega
    have y4:y<4:=by omega
    go_wp2_with fail
    go_quiet (fail)
    have hI3:=HI2.out.grow ((Grow.refl w2).drewN nq);have HI3:=jH hI3;have g1':(w2.drewN nq).cell? ⟨wr.heap.size,1,none⟩=some (.int .i64 d):=g1;have hsp:stepS f ⟨7,d,x,y⟩ k q=q:=by simp [stepS,wrB,zdo]
    clear hI3 a1 a2 g0 g1 g2 g3 HBOX;by_cases hxy:q.get x<q.get y
    ·have hnx:nextI ⟨7,d,x,y⟩ k q=k+1+d.toNat:=by simp [nextI,hxy]
     have HUP2:=jH (hnx ▸ hsp ▸ HUP.out);clear hnx hsp HUP;go_wp2_with fail;go_roundw
     case rel=>exact ⟨k+1+d.toNat,q,vs++[(k,q)],by omega,by go_num,HI3.out,hqf,by simp;omega,HUP2.out⟩
     case measure=>simp [intOf];omega
    ·have hnx:nextI ⟨7,d,x,y⟩ k q=k+1:=by simp [nextI,hxy]
     have HUP2:=jH (hnx ▸ hsp ▸ HUP.out);clear hnx hsp HUP;go_wp2_with fail;go_roundw
     case rel=>exact ⟨k+1,q,vs++[(k,q)],by omega,by go_num,HI3.out,hqf,by simp;omega,HUP2.out⟩
     case measure=>simp [intOf];omega
   ·have hb7:(op == 7)=false:=by simpa using hop7
    have hnx:nextI ⟨op,d,x,y⟩ k q=k+1:=by simp [nextI,hop7]
    by_cases hw:wrB op=true
    ·have hdT:wrT op d=d:=by simp [wrT,hw]
     have hlok:=HOK.out;have hst:stepS f ⟨op,d,x,y⟩ k q=q.set d (cut ((f k).getD (opV op x (q.get x) (q.get y)))):=by simp [stepS,hw]
     have HUP2:=jH (hnx ▸ hst ▸ HUP.out);have hop:op=1∨op=2∨op=3∨op=4∨op=5∨op=6:=by
      unfold wrB at hw;have:=zbd.1 hw;omega
     have HOP:=jH hop;have hd03:0≤d∧d≤3:=by
      have hh:=hlok;rcases hop with rfl | rfl | rfl | rfl | rfl | rfl<;>simp [Ln.ok,vL,zbd] at hh<;>omega
     obtain ⟨hd0,hd3⟩:=hd03;clear hnx hst HUP hop hlok
     go_upto_if 69 with (first | (go_at_call 273;refine zmj _ _ _ _ _ _ ?_;intro w3 hg3) | (go_at_fn g;refine HF.out k _ hlt (show Grow w _ from (HI2.out.grow hg3).bel) _ ?_;intro w4 hg4))
     have hI4:=(HI2.out.grow hg3).grow hg4;obtain ⟨g0,g1,g2,g3⟩:=zfl ((hg3.trans hg4).blk HBOX.out);have HI4:=jH hI4;clear hI4 hg3 hg4
     go_cut [13,15,16] from 23 to 104 (fun t n _ wc=>∃ m:Int,t=.int .i64 d∧n=.int .i64 m∧cut m=cut ((f k).getD (opV op x (q.get x) (q.get y)))∧(-1998≤m∧m≤1998)∧RunI w w1.heap.size q out1 (vs++[(k,q)]) wc)
     case rest=>
      obtain ⟨m,rfl,rfl,hcm,⟨hm1,hm2⟩,hIc⟩:=hcut;have hcl:=zcp hIc.b8 d hd0 hd3;have hfr:=zhm hIc.b8 d.toNat;have d4:d<4:=by omega
      have HIC:=jH hIc;have HCM:=jH hcm;clear hIc hcm;have hV:(if -999<(if m<999 then m else 999) then (if m<999 then m else 999) else -999)=cut m:=by
       unfold cut;by_cases q1:m<999
       ·simp only [q1,if_true];by_cases q2 : -999<m
        ·simp only [q2,if_true];omega
        ·simp only [q2,if_false];omega
       ·simp only [q1,if_false];simp;omega
      have hvb : -999≤cut m∧cut m≤999:=zsv m;rw [← hV] at hvb;have HUP3:=HUP2;have HVB:=jH hvb;have HV:=jH hV;clear hV hvb;go_wp2_with fail;go_roundw
      case rel=>exact ⟨k+1,_,vs++[(k,q)],by omega,by go_num,HIC.out.set d _ hd0 hd3,St.set_fine hqf d HVB.out,by simp;omega,by rw [HV.out,HCM.out];exact HUP3.out⟩
      case measure=>simp [intOf];omega
     case first=>
      clear HUP2 HX HBOX;cases hfk:f k with
      | some n=>
       obtain ⟨hn1,hn2⟩:=HFB.out k n hfk;go_wp2_with fail;go_meet
       case rel=>exact ⟨n,rfl,rfl,by rw [hfk];rfl,by omega,HI4.out⟩
      | none=>
       have hlok:=HOK.out;rcases HOP.out with rfl | rfl | rfl | rfl | rfl | rfl
       ·simp [Ln.ok,vL,zbd] at hlok;have xb : -9≤x∧x≤9:=by omega
        have k0:=zcd HI4.out.b9 2 _ rfl;have k1:=zcd HI4.out.b9 3 _ rfl;clear hlok;go_wp2_with fail
        go_quiet ((go_at_call 285;exact Calls.quiet_of_same (op1_any _ _ _ _ _ ⟨rfl,rfl⟩)))
        go_wp2_with fail;go_meet
        case rel=>exact ⟨x,rfl,rfl,by rw [hfk];rfl,by omega,HI4.out.grow ((Grow.refl _).drewN _)⟩
       ·simp [Ln.ok,vL,zbd] at hlok;have k0:=zcd HI4.out.b9 4 _ rfl;have k1:=zcd HI4.out.b9 5 _ rfl;have x0:0≤x:=by omega
        have x4:x<4:=by omega
        have a1:=zcp HI4.out.b8 x (by omega) (by omega)
        obtain ⟨b1,b2⟩:=St.get_fine hqf x;clear hlok;go_wp2_with fail
        go_quiet ((go_at_call 286;exact Calls.quiet_of_same (op2_any _ _ _ _ _ ⟨rfl,rfl⟩)))
        go_wp2_with fail;go_meet
        case rel=>exact ⟨q.get x,rfl,rfl,by rw [hfk];rfl,by omega,HI4.out.grow ((Grow.refl _).drewN _)⟩
       ·simp [Ln.ok,vL,zbd] at hlok;have k0:=zcd HI4.out.b9 6 _ rfl;have k1:=zcd HI4.out.b9 7 _ rfl;have x0:0≤x:=by omega
        have x4:x<4:=by omega
        have a1:=zcp HI4.out.b8 x (by omega) (by omega)
        obtain ⟨b1,b2⟩:=St.get_fine hqf x;have y0:0≤y:=by omega
        have y4:y<4:=by omega
        have a2:=zcp HI4.out.b8 y (by omega) (by omega)
        obtain ⟨b3,b4⟩:=St.get_fine hqf y;clear hlok;go_wp2_with fail
        go_quiet ((go_at_call 287;exact Calls.quiet_of_same (op3_any _ _ _ _ (by omega) (by omega) _ ⟨rfl,rfl⟩)))
        go_wp2_with fail;go_meet
        case rel=>exact ⟨q.get x+q.get y,rfl,rfl,by rw [hfk];rfl,by omega,HI4.out.grow ((Grow.refl _).drewN _)⟩
       ·simp [Ln.ok,vL,zbd] at hlok;have k0:=zcd HI4.out.b9 8 _ rfl;have k1:=zcd HI4.out.b9 9 _ rfl;have x0:0≤x:=by omega
        have x4:x<4:=by omega
        have a1:=zcp HI4.out.b8 x (by omega) (by omega)
        obtain ⟨b1,b2⟩:=St.get_fine hqf x;have y0:0≤y:=by omega
        have y4:y<4:=by omega
        have a2:=zcp HI4.out.b8 y (by omega) (by omega)
        obtain ⟨b3,b4⟩:=St.get_fine hqf y;clear hlok;go_wp2_with fail
        go_quiet ((go_at_call 288;exact Calls.quiet_of_same (op4_any _ _ _ _ (by omega) (by omega) _ ⟨rfl,rfl⟩)))
        go_wp2_with fail;go_meet
        case rel=>exact ⟨q.get x - q.get y,rfl,rfl,by rw [hfk];rfl,by omega,HI4.out.grow ((Grow.refl _).drewN _)⟩
       ·simp [Ln.ok,vL,zbd] at hlok;have k0:=zcd HI4.out.b9 10 _ rfl;have k1:=zcd HI4.out.b9 11 _ rfl;have x0:0≤x:=by omega
        have x4:x<4:=by omega
        have a1:=zcp HI4.out.b8 x (by omega) (by omega)
        obtain ⟨b1,b2⟩:=St.get_fine hqf x;have y0:0≤y:=by omega
        have y4:y<4:=by omega
        have a2:=zcp HI4.out.b8 y (by omega) (by omega)
        obtain ⟨b3,b4⟩:=St.get_fine hqf y;clear hlok;go_wp2_with fail
        go_quiet ((go_at_call 289;exact Calls.quiet_of_same (op5_any _ _ _ _ _ ⟨rfl,rfl⟩)))
        go_wp2_with fail;go_meet
        case rel=>exact ⟨min (q.get x) (q.get y),rfl,rfl,by rw [hfk];rfl,by omega,HI4.out.grow ((Grow.refl _).drewN _)⟩
       ·simp [Ln.ok,vL,zbd] at hlok;have k0:=zcd HI4.out.b9 12 _ rfl;have k1:=zcd HI4.out.b9 13 _ rfl;have x0:0≤x:=by omega
        have x4:x<4:=by omega
        have a1:=zcp HI4.out.b8 x (by omega) (by omega)
        obtain ⟨b1,b2⟩:=St.get_fine hqf x;have y0:0≤y:=by omega
        have y4:y<4:=by omega
        have a2:=zcp HI4.out.b8 y (by omega) (by omega)
        obtain ⟨b3,b4⟩:=St.get_fine hqf y;clear hlok;go_wp2_with fail
        go_quiet ((go_at_call 290;exact Calls.quiet_of_same (op6_any _ _ _ _ _ ⟨rfl,rfl⟩)))
        go_wp2_with fail;go_meet
        case rel=>exact ⟨max (q.get x) (q.get y),rfl,rfl,by rw [hfk];rfl,by omega,HI4.out.grow ((Grow.refl _).drewN _)⟩
    ·replace hw:wrB op=false:=by simpa using hw
     have hst:stepS f ⟨op,d,x,y⟩ k q=q:=by simp [stepS,hw]
     have HUP2:=jH (hnx ▸ hst ▸ HUP.out);clear hnx hst HUP;go_wp2_with (go_at_call 273;refine zmj _ _ _ _ _ _ ?_;intro w3 hg3);go_roundw
     case rel=>exact ⟨k+1,q,vs++[(k,q)],by omega,by go_num,HI2.out.grow hg3,hqf,by simp;omega,HUP2.out⟩
     case measure=>simp [intOf];omega
  ·obtain ⟨rfl,rfl⟩:=hup.done (by omega)
   obtain ⟨f0,f1,f2,f3⟩:=zhv hI.b8;obtain ⟨z0,z1,z2,z3⟩:=zhv hI.b7;have y0:=zhm hI.b7 0;have y1:=zhm hI.b7 1;have y2:=zhm hI.b7 2;have y3:=zhm hI.b7 3;have HI:=jH hI;clear hI hqf hup;generalize hq:(trc p f 0 s).2=q at *;have HQ:=jH hq;clear hq;have hb5:=arr_fill HI.out.b7 q;have hbel5:Below w.heap.size w (fillS wr w.heap.size q):=(Below.setCell (Below.setCell (Below.setCell (Below.setCell HI.out.bel (by simp) _) (by simp) _) (by simp) _) (by simp) _).drew
   have hl:=HI.out.lt;have hown5:(fillS wr w.heap.size q).ownsRow (w1.heap.size+1) 327 5 u10 (trc p f 0 s).1.length ((trc p f 0 s).1.flatMap encV):=
    World.ownsRow.drew (ownsRow_setCell_below (ownsRow_setCell_below (ownsRow_setCell_below (ownsRow_setCell_below HI.out.own (by simp;omega) _) (by simp;omega) _) (by simp;omega) _) (by simp;omega) _)
   unfold fillS at hb5 hbel5 hown5;have HB5:=jH hb5;have HBEL5:=jH hbel5;have HOWN5:=jH hown5;clear hb5 hbel5 hown5;go_wp2_with fail
   go_region
   generalize (((((wr.setCell ⟨w.heap.size,0,none⟩ (.int .i64 q.r0)).setCell ⟨w.heap.size,1,none⟩ (.int .i64 q.r1)).setCell ⟨w.heap.size,2,none⟩ (.int .i64 q.r2)).setCell ⟨w.heap.size,3,none⟩ (.int .i64 q.r3)).drew)=W5 at HB5 HBEL5 HOWN5 ⊢;obtain ⟨j0,j1,j2,j3⟩:=zhv HB5.out;clear f0 f1 f2 f3 z0 z1 z2 z3 y0 y1 y2 y3;go_wp2_with fail;simp [bodyPost,results,Tryz.results251,go_sem,j0,j1,j2,j3];exact HR.out W5 u10 HBEL5.out ⟨_,zbu HOWN5.out (by omega)⟩
set_option maxHeartbeats 1000000
theorem zga:(Tryz.prog.info? 3).map (fun i=>(i.zero,i.size,i.bytes))=some (some (.int .i64 0),1,8):=by kernel_rfl
theorem zjy:(Tryz.prog.info? 57).map (fun i=>(i.zero,i.size,i.bytes))=some (some (.agg #[.int .i64 0,.int .i64 0,.int .i64 0,.int .i64 0]),4,32):=by kernel_rfl
theorem zqw (w:World) (n:Nat):ForcedBy 252 #[] w n noF:=fun _ W _ _ R hR=>free_any _ W R (hR W (Grow.refl _))
theorem run0_any (p:List Ln) (s:List Int) (v u:Value) (w:World) (hp:LinesAt w v p) (hs:IntsAt w u s) (h:chk p s=0) (R:Ending→World→Prop)
  (hR:∀ w' x,Grow w w'→Own 5 encV w.heap.size w' x (visits p s)→R (.returned (.tuple #[x,.agg (arrS (trc p noF 0 (St.ofL s)).2)])) w') :
  Calls Tryz.prog 251 #[v,u,.func (.func 252) #[] #[]] w R:=by
 obtain ⟨h1,h2⟩:=zsy.1 h;obtain ⟨h3,h4⟩:=zba.1 h1;obtain ⟨q,rfl,hq⟩:=St.of_valS h2;refine run_any 252 #[] (enters_of func252 (by kernel_rfl) rfl) noF p q v u w hp hs h3 h4 hq (zqw _ _) (fun _ _ h=>by cases h) R ?_
 exact hR
theorem Run_any (p:List Ln) (s:List Int) (v u:Value) (w:World) (hp:LinesAt w v p) (hs:IntsAt w u s) (R:Ending→World→Prop)
  (hR:∀ w' x,Grow w w'→OwnI w.heap.size w' x (ifOK (chk p s) (runM p s))→R (.returned (.tuple #[x,.int .i64 (chk p s)])) w') :
  Calls Tryz.prog 224 #[v,u] w R:=by
 have HP:=jH hp;have HS:=jH hs;have HR:=jH hR;clear hp hs hR;by_cases h:chk p s=0
 ·have H:=jH h;clear h
  go_enter func224,ntmps224
  go_wp2_with fail;refine zok p s _ _ _ HP.out HS.out _ ?_;intro w1 hg1;rw [H.out];go_wp2_with fail;refine run0_any p s _ _ _ (HP.out.grow hg1) (HS.out.grow hg1) H.out _ ?_;intro w2 x hg2 hown;have hg3:=hg1.trans hg2;have HRR:=HR.out;rw [H.out,zgv] at HRR;have HRR2:=jH HRR;unfold runM at HRR2;clear HRR hg1 hg2 hown HR;generalize (trc p noF 0 (St.ofL s)).2=q at HRR2 ⊢;unfold arrS;go_wp2_with fail;refine HRR2.out _ _ (hg3.alloc _) ⟨299,?_⟩;exact World.ownsRow_lit w2 (arrS q) 4 hg3.sz (by simp [maxLen]) rfl
 ·have HRR:=HR.out;rw [zms h] at HRR;have HRR2:=jH HRR;clear HRR HR;generalize he:chk p s=e at h HRR2;have H:=jH he;clear he;have hb:(e == 0)=false:=by simpa using h
  have hb2:(e != 0)=true:=by simpa using h
  go_enter func224,ntmps224
  go_wp2_with fail;refine zok p s _ _ _ HP.out HS.out _ ?_;intro w1 hg1;rw [H.out];go_wp2_with fail;exact HRR2.out _ _ hg1 (Own.nil _ _ _ _)
set_option maxHeartbeats 2000000
theorem zgy (op d a b:Int) (w:World) (R:Ending→World→Prop) (hR:∀ w',Grow w w'→R (.returned (.bool (!(op == 0) && !(op == 7)))) w') :
  Calls Tryz.prog 270 #[.agg #[.int .i64 op,.int .i64 d,.int .i64 a,.int .i64 b]] w R:=by
 by_cases h:op=0
 ·subst h
  go_enter func270,ntmps270
  go_wp2_with fail;exact (Grow.refl _).alloc _
 ·by_cases h7:op=7
  ·subst h7
   go_enter func270,ntmps270
   go_wp2_with fail;exact (Grow.refl _).alloc _
  ·have t1:(op == 0)=false:=by simpa using h
   have t2:(op != 0)=true:=by simpa using h
   have t3:(op == 7)=false:=by simpa using h7
   have t4:(op != 7)=true:=by simpa using h7
   have HR:=jH hR;clear hR
   go_enter func270,ntmps270
   go_wp2_with fail;have:=HR.out _ ((Grow.refl w).alloc (.cells #[.int .i64 op,.int .i64 d,.int .i64 a,.int .i64 b] 57));rw [t1,t3] at this;exact this
theorem zek {α:Type} {f:α→Bool} {xs:List α} {k:Nat} {x:α} (h:∀ l∈xs.take k,f l=true) (hx:xs[k]?=some x) (hf:f x=true):∀ l∈xs.take (k+1),f l=true:=by
 intro l hl;rw [List.take_add_one,hx] at hl;rcases List.mem_append.1 hl with hl | hl
 ·exact h l hl
 ·simp at hl;subst hl;exact hf
theorem zff {α:Type} {f:α→Bool} {xs:List α} {k:Nat} {x:α} (hx:xs[k]?=some x) (hf:f x=false):xs.all f=false:=by
 cases h:xs.all f with
 | false=>rfl
 | true=>rw [List.all_eq_true.1 h x (List.mem_of_getElem? hx)] at hf;cases hf
theorem zfw {α:Type} {f:α→Bool} {xs:List α} {k:Nat} (h:∀ l∈xs.take k,f l=true) (hk:xs.length≤k):xs.all f=true:=by
 rw [List.take_of_length_le hk] at h;exact List.all_eq_true.2 h
theorem zcj (s:List Int) (v:Value) (w:World) (hs:IntsAt w v s) (R:Ending→World→Prop) (hR:R (.returned (.int .i64 (valS s))) w) :
  Calls Tryz.prog 170 #[v] w R:=by
 obtain ⟨a,c,rfl,h1,h2,h3⟩:=hs;by_cases hl:s.length=4
 ·have hV:valS s=errB (s.all fun n=>inB n (-999) 999):=by simp [valS,hl]
  rw [hV] at hR;clear hV;have hm:s.length≤9223372036854775807:=by omega
  have hb:((s.length:Int) == 4)=true:=by simp [hl]
  have hb2:((s.length:Int) != 4)=false:=by simp [hl]
  have HL:=jH hl;clear hl
  go_enter func170,ntmps170
  go_wp2_with fail
  go_loopw [3] (fun i wr=>∃ k:Nat,k≤s.length∧i=.int .i64 k∧wr=w∧∀ l∈s.take k,inB l (-999) 999=true) (fun i _=>s.length - (intOf i).toNat)
  case atStart=>exact ⟨0,Nat.zero_le _,rfl,rfl,by simp⟩
  case round=>
   obtain ⟨k,hk,rfl,rfl,hall⟩:=hrel;by_cases hlt:k<s.length
   ·replace h3:=h3.resolve_left (by intro h;simp [h.1] at hlt)
    obtain ⟨b,o,rfl,hb',hc⟩:=h3;obtain ⟨x,hx⟩:∃ l,s[k]?=some l:=⟨_,List.getElem?_eq_getElem hlt⟩;have e0:=zbb hc k x hx;have HX:=jH hx;have HA:=jH hall;clear hc hx hall;cases hv:inB x (-999) 999 with
    | true=>
     have HV:=jH hv;clear hv;go_wp2_with fail;refine zam _ _ _ _ _ ?_;rw [HV.out];go_wp2_with fail;go_roundw
     case rel=>exact ⟨k+1,by omega,by go_num,trivial,zek HA.out HX.out HV.out⟩
     case measure=>simp [intOf];omega
    | false=>
     have HV:=jH hv;clear hv;rw [zff (f:=fun n=>inB n (-999) 999) HX.out HV.out] at hR;rw [show errB false=1 from rfl] at hR;have HR:=jH hR;clear hR;go_wp2_with fail;refine zam _ _ _ _ _ ?_;rw [HV.out];go_wp2_with fail;exact HR.out
   ·rw [zfw hall (by omega)] at hR
    rw [show errB true=0 from rfl] at hR;go_wp2_with fail;exact hR
 ·have hV:valS s=1:=by simp [valS,hl]
  rw [hV] at hR;clear hV;have hb:((s.length:Int) == 4)=false:=by simp;omega
  have hb2:((s.length:Int) != 4)=true:=by simp;omega
  go_enter func170,ntmps170
  go_wp2_with fail;exact hR
theorem zmi (p:List Ln) (s:List Int) (v u:Value) (w:World) (hp:LinesAt w v p) (hs:IntsAt w u s) (R:Ending→World→Prop) (hR:∀ w',Grow w w'→R (.returned (.int .i64 (chk p s))) w') :
  Calls Tryz.prog 246 #[v,u] w R:=by
 have HP:=jH hp;have HS:=jH hs;obtain ⟨a,c,rfl,_,_,_⟩:=hp;obtain ⟨a',c',rfl,_,_,_⟩:=hs;by_cases h:valP p=0
 ·rw [show chk p s=valS s by simp [chk,h]] at hR
  have HR:=jH hR;clear hR
  go_enter func246,ntmps246
  go_wp2_with fail;refine zbs p _ _ HP.out _ ?_;intro w1 hg1;rw [h];go_wp2_with fail;refine zcj s _ _ (HS.out.grow hg1) _ ?_;have HF:=jH (HR.out w1 hg1);generalize valS s=e at HF ⊢;go_wp2_with fail;exact HF.out
 ·rw [show chk p s=valP p by simp [chk,h]] at hR
  have HR:=jH hR;clear hR;generalize he:valP p=e at h HR;have HE:=jH he;clear he;have hb:(e == 0)=false:=by simpa using h
  have hb2:(e != 0)=true:=by simpa using h
  go_enter func246,ntmps246
  go_wp2_with fail;refine zbs p _ _ HP.out _ ?_;intro w1 hg1;rw [HE.out];go_wp2_with fail;exact HR.out _ hg1
set_option maxRecDepth 100000
set_option maxHeartbeats 4000000
theorem zfu (n lo hi:Int) (w:World) (R:Ending→World→Prop) (hR:R (.returned (.bool (inB n lo hi))) w) :
  Calls Tryz.prog 171 #[.int .i64 n,.int .i64 lo,.int .i64 hi] w R:=by
 by_cases h:lo≤n
 ·by_cases h2:n≤hi
  ·rw [zbd.2 ⟨h,h2⟩] at hR
   go_enter func171,ntmps171
   go_wp2
   simpa using hR
  ·rw [zbq.2 (by omega)] at hR
   go_enter func171,ntmps171
   go_wp2
   simpa using hR
 ·rw [zbq.2 (by omega)] at hR
  go_enter func171,ntmps171
  go_wp2
  simpa using hR
theorem zio (t:Tst) (w:World) (ht:IntsAt w t.v t.xs) (R:Ending→World→Prop) (hR:∀ w',Grow w w'→R (.returned (.bool t.ok)) w') :
  Calls Tryz.prog 126 #[.agg #[t.v,.int .i64 t.o,.int .i64 t.wt]] w R:=by
 obtain ⟨v,xs,o,wt⟩:=t;have HT:=jH ht;dsimp only at ht ⊢;have hok:Tst.ok ⟨v,xs,o,wt⟩=(decide (valS xs=0) && inB o 0 3 && inB wt (-999) 999):=rfl;rw [hok] at hR;have HR:=jH hR;clear hR hok;obtain ⟨a,c,rfl,_⟩:=ht;obtain ⟨e0,he0⟩:∃ e,valS xs=e:=⟨_,rfl⟩;obtain ⟨b1,h1⟩:∃ b,inB o 0 3=b:=⟨_,rfl⟩;obtain ⟨b2,h2⟩:∃ b,inB wt (-999) 999=b:=⟨_,rfl⟩;rw [he0,h1,h2] at HR;have HE:=jH he0;have H1:=jH h1;have H2:=jH h2;clear he0 h1 h2;have t1:(e0 == 0)=decide (e0=0):=by by_cases h:e0=0<;>simp [h]
 generalize decide (e0=0)=b0 at HR t1;cases b0 with
 | false=>
  go_enter func126,ntmps126
  go_wp2_with fail;have hb:=heap_alloc_new w (.cells #[.slice a xs.length c,.int .i64 o,.int .i64 wt] 63);have hg:=(Grow.refl w).alloc (.cells #[.slice a xs.length c,.int .i64 o,.int .i64 wt] 63);have HF:=jH (HR.out _ hg);refine zcj xs _ _ (HT.out.grow hg) _ ?_;rw [HE.out];go_wp2_with fail;exact HF.out
 | true=>
  cases b1 with
  | false=>
   go_enter func126,ntmps126
   go_wp2_with fail;have hb:=heap_alloc_new w (.cells #[.slice a xs.length c,.int .i64 o,.int .i64 wt] 63);have hg:=(Grow.refl w).alloc (.cells #[.slice a xs.length c,.int .i64 o,.int .i64 wt] 63);have HF:=jH (HR.out _ hg);refine zcj xs _ _ (HT.out.grow hg) _ ?_;rw [HE.out];go_wp2_with fail;refine zfu _ _ _ _ _ ?_;rw [H1.out];go_wp2_with fail;exact HF.out
  | true=>
   go_enter func126,ntmps126
   go_wp2_with fail;have hb:=heap_alloc_new w (.cells #[.slice a xs.length c,.int .i64 o,.int .i64 wt] 63);have hg:=(Grow.refl w).alloc (.cells #[.slice a xs.length c,.int .i64 o,.int .i64 wt] 63);have HF:=jH (HR.out _ hg);refine zcj xs _ _ (HT.out.grow hg) _ ?_;rw [HE.out];go_wp2_with fail;refine zfu _ _ _ _ _ ?_;rw [H1.out];go_wp2_with fail;refine zfu _ _ _ _ _ ?_;rw [H2.out];go_wp2_with fail;exact HF.out
theorem zct (ts:List Tst) (v:Value) (w:World) (hx:TestsAt w v ts) (R:Ending→World→Prop) (hR:∀ w',Grow w w'→R (.returned (.int .i64 (valT ts))) w') :
  Calls Tryz.prog 77 #[v] w R:=by
 have HX:=jH hx;have HR:=jH hR;obtain ⟨⟨a,c,rfl,h1,h2,_⟩,_⟩:=hx;have hm:ts.length≤9223372036854775807:=by omega
 clear hR;by_cases hl:8<ts.length
 ·have hv:valT ts=3:=by unfold valT;rw [if_pos hl]
  rw [hv] at HR;have hl2:(ts.length:Int) > 8:=by omega
  go_enter func77,ntmps77
  go_wp2_with fail;exact HR.out _ (Grow.refl _)
 ·have hv:valT ts=errB (ts.all Tst.ok):=by unfold valT;rw [if_neg hl]
  rw [hv] at HR;clear hv;have hl2:¬ (ts.length:Int) > 8:=by omega
  go_enter func77,ntmps77
  go_wp2_with fail
  go_loopw [3] (fun i wr=>∃ k:Nat,k≤ts.length∧i=.int .i64 k∧Grow w wr∧∀ y∈ts.take k,y.ok=true) (fun i _=>ts.length - (intOf i).toNat)
  case atStart=>exact ⟨0,Nat.zero_le _,rfl,Grow.refl _,by simp⟩
  case round=>
   obtain ⟨k,hk,rfl,hg,hall⟩:=hrel;have HALL:=jH hall;have HG:=jH hg;clear hall hg;by_cases hlt:k<ts.length
   ·obtain ⟨t,ht⟩:∃ x,ts[k]?=some x:=⟨_,List.getElem?_eq_getElem hlt⟩;obtain ⟨b,o,rfl,hb,e0,e1,e2⟩:=zez (HX.out.at_.grow HG.out) ht;have HT:=jH ht;have HI:=jH ((HX.out.ins t (List.mem_of_getElem? ht)).grow HG.out);clear ht;cases hv:t.ok with
    | true=>
     have HV:=jH hv;clear hv;go_wp2_with fail;refine zio t _ HI.out _ ?_;intro w1 hg1;rw [HV.out];have HG2:=jH (HG.out.trans hg1);clear hg1;go_wp2_with fail;go_roundw
     case rel=>exact ⟨k+1,by omega,by go_num,HG2.out,zek HALL.out HT.out HV.out⟩
     case measure=>simp [intOf];omega
    | false=>
     have HF0:=HR.out;rw [zff (f:=Tst.ok) HT.out hv,show errB false=1 from rfl] at HF0;have HV:=jH hv;have HF0':=jH HF0;clear hv HF0;go_wp2_with fail;refine zio t _ HI.out _ ?_;intro w1 hg1;rw [HV.out];have HF:=jH (HF0'.out _ (HG.out.trans hg1));clear hg1;go_wp2_with fail;exact HF.out
   ·have HF0:=HR.out _ HG.out;rw [zfw HALL.out (by omega),show errB true=0 from rfl] at HF0
    have HF:=jH HF0;clear HF0;go_wp2_with fail;exact HF.out
theorem zon (p:List Ln) (ts:List Tst) (v u:Value) (w:World) (hp:LinesAt w v p) (hx:TestsAt w u ts) (R:Ending→World→Prop) (hR:∀ w',Grow w w'→R (.returned (.int .i64 (chkT p ts))) w') :
  Calls Tryz.prog 177 #[v,u] w R:=by
 have HP:=jH hp;have HX:=jH hx;have HR:=jH hR;obtain ⟨a,c,rfl,_⟩:=hp;obtain ⟨⟨a2,c2,rfl,_⟩,_⟩:=hx;clear hR;obtain ⟨e,he⟩:∃ e,valP p=e:=⟨_,rfl⟩;by_cases h0:e=0
 ·have hc:chkT p ts=valT ts:=by unfold chkT;rw [if_pos (he.trans h0)]
  rw [hc] at HR;have HE:=jH he;clear he hc;subst h0
  go_enter func177,ntmps177
  go_wp2_with fail;refine zbs p _ _ HP.out _ ?_;intro w1 hg1;rw [HE.out];have HG:=jH hg1;clear hg1;go_wp2_with fail;refine zct ts _ _ (HX.out.grow HG.out) _ ?_;intro w2 hg2;have HF:=jH (HR.out _ (HG.out.trans hg2));clear hg2;go_wp2_with fail;exact HF.out
 ·have hc:chkT p ts=e:=by unfold chkT;rw [if_neg (by omega),he]
  rw [hc] at HR;have HE:=jH he;have t1:(e == 0)=false:=by simpa using h0
  have t2:(e != 0)=true:=by simpa using h0
  clear he hc
  go_enter func177,ntmps177
  go_wp2_with fail;refine zbs p _ _ HP.out _ ?_;intro w1 hg1;rw [HE.out];have HF:=jH (HR.out _ hg1);clear hg1;go_wp2_with fail;exact HF.out
set_option maxHeartbeats 4000000
theorem zfb (n:Int) (w:World) (R:Ending→World→Prop) (hR:R (.returned (.int .i64 (cut n))) w):Calls Tryz.prog 284 #[.int .i64 n] w R:=by
 by_cases h1:n < -999
 ·rw [show cut n=-999 by unfold cut;omega] at hR
  go_enter func284,ntmps284
  go_wp2_with fail;exact hR
 ·by_cases h2:999<n
  ·rw [show cut n=999 by unfold cut;omega] at hR
   go_enter func284,ntmps284
   go_wp2_with fail;exact hR
  ·rw [show cut n=n by unfold cut;omega] at hR
   go_enter func284,ntmps284
   go_wp2_with fail;exact hR
theorem zkp (s:St) (r:Int) (h0:0≤r) (h3:r≤3):s.toL[r.toNat]?=some (s.get r):=by
 have:r=0∨r=1∨r=2∨r=3:=by omega
 rcases this with rfl | rfl | rfl | rfl<;>rfl
theorem toL_set (s:St) (r n:Int) (h0:0≤r) (h3:r≤3):(s.set r n).toL=s.toL.set r.toNat n:=by
 have:r=0∨r=1∨r=2∨r=3:=by omega
 rcases this with rfl | rfl | rfl | rfl<;>rfl
theorem cut_id {n:Int} (h0 : -999≤n) (h1:n≤999):cut n=n:=by unfold cut;omega
theorem zvn (op d a b:Int) (s:St) (v:Value) (w:World) (hv:vL op d a b=true) (hw:wrB op=true) (hs:IntsAt w v s.toL) (hf:s.fine) (R:Ending→World→Prop)
  (hR:∀ w',Grow w w'→R (.returned (.int .i64 (cut (opV op a (s.get a) (s.get b))))) w') :
  Calls Tryz.prog 271 #[.agg #[.int .i64 op,.int .i64 d,.int .i64 a,.int .i64 b],v] w R:=by
 have HR:=jH hR;clear hR;obtain ⟨ao,c,rfl,h1,h2,h3⟩:=hs;have hlen:s.toL.length=4:=rfl;rw [hlen] at h1 ⊢;obtain ⟨bb,o,rfl,hb,hc⟩:=h3.resolve_left (by intro h;have:=h.1;simp [St.toL] at this)
 clear h3;obtain ⟨w1,w6⟩:=zbd.1 (show inB op 1 6=true from hw);by_cases g1:op=1
 ·subst g1;have ha : -9≤a∧a≤9:=by simp [vL,zdo] at hv;omega
  have e:cut (opV 1 a (s.get a) (s.get b))=a:=by rw [show opV 1 a (s.get a) (s.get b)=a from rfl,cut_id (by omega) (by omega)]
  rw [e] at HR;clear e hc
  go_enter func271,ntmps271
  go_wp2_with fail;exact HR.out _ ((Grow.refl w).alloc _)
 ·obtain ⟨o2,o3⟩:=zym hv;obtain ⟨a0,a3⟩:=o2 (by omega)
  have hbz:0≤b∧b≤3:=by
   by_cases g2:op=2
   ·subst g2;simp [vL] at hv;omega
   ·exact o3 (by omega)
  obtain ⟨b0,b3⟩:=hbz;have ea:=zbb hc a.toNat _ (zkp s a a0 a3);have eb:=zbb hc b.toNat _ (zkp s b b0 b3);obtain ⟨fa0,fa1⟩:=St.get_fine hf a;obtain ⟨fb0,fb1⟩:=St.get_fine hf b;have a4:a<4:=by omega
  have b4:b<4:=by omega
  clear hc o2 o3;generalize s.get a=x at HR ea fa0 fa1;generalize s.get b=y at HR eb fb0 fb1;have hop:op=2∨op=3∨op=4∨op=5∨op=6:=by omega
  rcases hop with rfl | rfl | rfl | rfl | rfl
  ·have e:opV 2 a x y=x:=rfl;rw [e] at HR;have HF:=jH (HR.out _ ((Grow.refl w).alloc (.cells #[.int .i64 2,.int .i64 d,.int .i64 a,.int .i64 b] 57)));clear e HR
   go_enter func271,ntmps271
   go_wp2_with fail;refine zfb _ _ _ ?_;generalize cut x=z at HF ⊢;go_wp2_with fail;exact HF.out
  ·have e:opV 3 a x y=x+y:=rfl;rw [e] at HR;have HF:=jH (HR.out _ ((Grow.refl w).alloc (.cells #[.int .i64 3,.int .i64 d,.int .i64 a,.int .i64 b] 57)));clear e HR
   go_enter func271,ntmps271
   go_wp2_with fail;refine zfb _ _ _ ?_;generalize cut (x+y)=z at HF ⊢;go_wp2_with fail;exact HF.out
  ·have e:opV 4 a x y=x - y:=rfl;rw [e] at HR;have HF:=jH (HR.out _ ((Grow.refl w).alloc (.cells #[.int .i64 4,.int .i64 d,.int .i64 a,.int .i64 b] 57)));clear e HR
   go_enter func271,ntmps271
   go_wp2_with fail;refine zfb _ _ _ ?_;generalize cut (x - y)=z at HF ⊢;go_wp2_with fail;exact HF.out
  ·have HF:=jH (HR.out _ ((Grow.refl w).alloc (.cells #[.int .i64 5,.int .i64 d,.int .i64 a,.int .i64 b] 57)));clear HR;by_cases hxy:y<x
   ·have e:opV 5 a x y=y:=by show min x y=y;omega
    rw [e] at HF;clear e
    go_enter func271,ntmps271
    go_wp2_with fail;refine zfb _ _ _ ?_;generalize cut y=z at HF ⊢;go_wp2_with fail;exact HF.out
   ·have e:opV 5 a x y=x:=by show min x y=x;omega
    rw [e] at HF;clear e
    go_enter func271,ntmps271
    go_wp2_with fail;refine zfb _ _ _ ?_;generalize cut x=z at HF ⊢;go_wp2_with fail;exact HF.out
  ·have HF:=jH (HR.out _ ((Grow.refl w).alloc (.cells #[.int .i64 6,.int .i64 d,.int .i64 a,.int .i64 b] 57)));clear HR;by_cases hxy:x<y
   ·have e:opV 6 a x y=y:=by show max x y=y;omega
    rw [e] at HF;clear e
    go_enter func271,ntmps271
    go_wp2_with fail;refine zfb _ _ _ ?_;generalize cut y=z at HF ⊢;go_wp2_with fail;exact HF.out
   ·have e:opV 6 a x y=x:=by show max x y=x;omega
    rw [e] at HF;clear e
    go_enter func271,ntmps271
    go_wp2_with fail;refine zfb _ _ _ ?_;generalize cut x=z at HF ⊢;go_wp2_with fail;exact HF.out
abbrev SV:=Option Addr × Nat × Nat
def sv (x:SV):Value:=.slice x.1 x.2.1 x.2.2
def encP (p:Nat × SV):List Value:=[.int .i64 p.1,sv p.2]
theorem zru (p:Nat × SV):(encP p).length=2:=rfl
theorem encP_one (p:Nat × SV):∀ u∈encP p,u.oneCell'=true:=by
 intro u hu;simp [encP] at hu;rcases hu with rfl | rfl<;>rfl
theorem zvx {w:World} {base base':Nat} {e e':TypeId} {k k':Nat} {v v':Value} {n n':Nat} {xs xs':List Value} (h:w.ownsRow base e k v n xs) (h':w.ownsRow base' e' k' v' n' xs') (he:e≠e'):v.ownBlock=none∨v.ownBlock≠v'.ownBlock:=by
 rcases h.2 with ⟨rfl,_⟩ | ⟨g,cap,cur,rfl,_,hg,_⟩
 ·exact .inl rfl
 ·rcases h'.2 with ⟨rfl,_⟩ | ⟨g',cap',cur',rfl,_,hg',_⟩
  ·exact .inr (by simp [Value.ownBlock])
  ·refine .inr fun e1=>?_;have e2:g=g':=by simpa [Value.ownBlock] using e1
   subst e2;rw [hg] at hg';simp at hg';exact he hg'.2
structure TrI (w w3:World) (g cap:Nat) (st:St) (outv:Value) (ps:List (Nat × SV)) (vs:List (Nat × St)) (W:World):Prop where
 bel:Below w.heap.size w W
 sz:w3.heap.size≤W.heap.size
 now:W.ownsRow w.heap.size 3 1 (.slice (some ⟨g,0,none⟩) 4 cap) 4 (st.toL.flatMap encI)
 out:W.ownsRow w3.heap.size 317 2 outv ps.length (ps.flatMap encP)
 len:ps.length=vs.length
 each:∀ (j:Nat) (p:Nat × SV) (v:Nat × St),ps[j]?=some p→vs[j]?=some v→p.1=v.1∧W.ownsRow w3.heap.size 3 1 (sv p.2) 4 (v.2.toL.flatMap encI)
theorem TrI.grow {w w3:World} {g cap:Nat} {st:St} {outv:Value} {ps:List (Nat × SV)} {vs:List (Nat × St)} {W W':World} (h:TrI w w3 g cap st outv ps vs W) (k:Grow W W'):TrI w w3 g cap st outv ps vs W':=
 ⟨Below.of_grow h.bel k h.bel.size,Nat.le_trans h.sz k.sz,k.owns h.now,k.owns h.out,h.len,fun j p v hp hv=>⟨(h.each j p v hp hv).1,k.owns (h.each j p v hp hv).2⟩⟩
theorem zoh (xs:List Int) (i:Nat) (n:Int):(xs.flatMap encI).set i (.int .i64 n)=(xs.set i n).flatMap encI:=by
 have:∀ l:List Int,l.flatMap encI=l.map (Value.int .i64):=by
  intro l;induction l with
  | nil=>rfl
  | cons x xs ih=>rw [List.flatMap_cons,ih];rfl
 rw [this,this,List.map_set]
theorem TrI.set {w w3:World} {g cap:Nat} {st:St} {outv:Value} {ps:List (Nat × SV)} {vs:List (Nat × St)} {W:World} (h:TrI w w3 g cap st outv ps vs W) (hg:g<w3.heap.size) (hw:w.heap.size≤g) (r n:Int) (h0:0≤r) (h3:r≤3) :
  TrI w w3 g cap (st.set r n) outv ps vs (W.setCell ⟨g,r.toNat,none⟩ (.int .i64 n)):=by
 refine ⟨Below.setCell h.bel hw _,by rw [World.size_setCell];exact h.sz,?_,ownsRow_setCell_below h.out (by simpa using hg) _,h.len,fun j p v hp hv=>⟨(h.each j p v hp hv).1,ownsRow_setCell_below (h.each j p v hp hv).2 (by simpa using hg) _⟩⟩
 rw [toL_set st r n h0 h3,← zoh];exact zeg h.now _ _
theorem TrI.app {w w3:World} {g cap:Nat} {st:St} {outv outv':Value} {bv:SV} {ps:List (Nat × SV)} {vs:List (Nat × St)} {W Wa W':World} {i:Nat} (h:TrI w w3 g cap st outv ps vs W) (ga:Grow W Wa)
  (hbv:Wa.ownsRow w3.heap.size 3 1 (sv bv) 4 (st.toL.flatMap encI)) (hww:w.heap.size≤w3.heap.size)
  (hown:W'.ownsRow w3.heap.size 317 2 outv' (ps++[(i,bv)]).length ((ps++[(i,bv)]).flatMap encP)) (hgr:Wa.grownBy W' outv.ownBlock) :
  TrI w w3 g cap st outv' (ps++[(i,bv)]) (vs++[(i,st)]) W':=by
 have h2:=h.grow ga;have hz:=h2.sz;have key:∀ {base:Nat} {v:Value} {l:List Value},Wa.ownsRow base 3 1 v 4 l→W'.ownsRow base 3 1 v 4 l:=fun hr=>hr.kept hgr (zvx hr h2.out (by decide))
 refine ⟨zae h2.out hgr hww (by omega) h2.bel,Nat.le_trans hz hgr.size,key h2.now,hown,by simp [h.len],?_⟩
 intro j p v hp hv;by_cases hj:j<ps.length
 ·rw [List.getElem?_append_left hj] at hp;rw [List.getElem?_append_left (by rw [← h.len];exact hj)] at hv
  exact ⟨(h2.each j p v hp hv).1,key (h2.each j p v hp hv).2⟩
 ·have hje:j=ps.length:=by
   have:=(List.getElem?_eq_some_iff.1 hp).1;simp at this;omega
  subst hje;rw [List.getElem?_append_right (Nat.le_refl _)] at hp;rw [h.len,List.getElem?_append_right (Nat.le_refl _)] at hv;simp at hp hv;subst hp hv;exact ⟨rfl,key hbv⟩
set_option maxRecDepth 100000
set_option maxHeartbeats 8000000
theorem zzv:(Tryz.prog.info? 317).map (fun i=>(i.zero,i.size,i.bytes))=some (some (.agg #[.int .i64 0,.slice none 0 0]),2,32):=by kernel_rfl
def StepsAt (w:World) (base:Nat) (x:Value) (vs:List (Nat × St)):Prop:=
 ∃ ps:List (Nat × SV),w.ownsRow base 317 2 x ps.length (ps.flatMap encP)∧ps.length=vs.length∧∀ (j:Nat) (p:Nat × SV) (v:Nat × St),ps[j]?=some p→vs[j]?=some v→p.1=v.1∧w.ownsRow base 3 1 (sv p.2) 4 (v.2.toL.flatMap encI)
theorem zzo {w:World} {base:Nat} {e:TypeId} {k:Nat} {v:Value} {n:Nat} {xs:List Value} (h:w.ownsRow base e k v n xs) (hn:0<n):∃ g cap,v=.slice (some ⟨g,0,none⟩) n cap∧base≤g∧g<w.heap.size:=by
 rcases h.2 with ⟨_,h0⟩ | ⟨g,cap,cur,rfl,hg,hh,_⟩
 ·omega
 ·exact ⟨g,cap,rfl,hg,lt_of_block hh⟩
theorem cut_frc {lines values:List Int} (hl:lines.length=values.length) (hb:∀ n∈values,-999≤n∧n≤999) (i:Nat) (x:Int):cut ((frc lines values i).getD x)=(frc lines values i).getD (cut x):=by
 cases h:frc lines values i with
 | none=>rfl
 | some n=>obtain ⟨h0,h1⟩:=hb n (zri _ (by omega) h);exact cut_id h0 h1
theorem zux (p:List Ln) (s:St) (lines values:List Int) (v u lv vv:Value) (w:World) (hp:LinesAt w v p) (hs:IntsAt w u s.toL) (hlv:IntsAt w lv lines) (hvv:IntsAt w vv values) (hln:lines.length=values.length) (hpl:p.length≤8)
  (hok:∀ l∈p,l.ok=true) (hsf:s.fine) (hfb:∀ n∈values,-999≤n∧n≤999) (R:Ending→World→Prop)
  (hR:∀ w' x y,Grow w w'→StepsAt w' w.heap.size x (trc p (frc lines values) 0 s).1→OwnI w.heap.size w' y (trc p (frc lines values) 0 s).2.toL→R (.returned (.tuple #[x,y])) w') :
  Calls Tryz.prog 247 #[v,u,lv,vv] w R:=by
 have HP:=jH hp;have HS:=jH hs;have HR:=jH hR;have HLV:=jH hlv;have HVV:=jH hvv;have HOK:=jH hok;have HSF:=jH hsf;have HFB:=jH hfb;have HLN:=jH hln;obtain ⟨a0,c0,rfl,p1,p2,p3⟩:=hp;obtain ⟨a1,c1,rfl,_,_,_⟩:=hs;obtain ⟨a2,c2,rfl,l1,l2,l3⟩:=hlv;obtain ⟨a3,c3,rfl,v1,v2,v3⟩:=hvv;have hlen:s.toL.length=4:=rfl;rw [hlen] at *;clear hR hok hsf hfb hlen hln
 go_enter func247,ntmps247
 go_wp2_with (at_builtin;refine zay _ rfl (.tmp 16) (.tmp 17) 61 rfl w.heap.size 3 underlying61 zga rfl (by decide) (by decide) encI zal zcx _ [] rfl (zah w 1 _ _ _ (Nat.le_refl _)) _ s.toL rfl (HS.out.grow ((Grow.refl w).alloc _)) (by simp [St.toL]) (by simp) ?_;intro nv w1 hown1 hgr1)
 obtain ⟨g,cap,hv,hgl,hcap,ho⟩:∃ g cap,nv=.slice (some ⟨g,0,none⟩) 4 cap∧(w.heap.size≤g∧g<w1.heap.size)∧4≤cap∧w1.ownsRow w.heap.size 3 1 (.slice (some ⟨g,0,none⟩) 4 cap) 4 (s.toL.flatMap encI):=by
  have h1:w1.ownsRow w.heap.size 3 1 nv 4 (s.toL.flatMap encI):=hown1;rcases h1.2 with ⟨_,h0⟩ | ⟨g,cap,cur,rfl,hg,hh,hn,_⟩
  ·cases h0
  ·exact ⟨g,cap,rfl,⟨hg,lt_of_block hh⟩,hn,h1⟩
 subst hv;have hg1:Grow w w1:=zae (zah w 1 3 encI _ (Nat.le_refl _)) hgr1 (Nat.le_refl _) (by simp) ((Grow.refl w).alloc _)
 have hI0:TrI w w1 g cap s (.slice none 0 0) [] [] w1:=⟨hg1,Nat.le_refl _,ho,World.ownsRow_nil _ _ _ _,rfl,fun j p v hp=>by simp at hp⟩
 have HI0:=jH hI0;obtain ⟨gl,gu⟩:=hgl;have hww:=hg1.sz;obtain ⟨f,hf⟩:∃ f,frc lines values=f:=⟨_,rfl⟩;have HF:=jH hf;rw [hf] at HR;clear hown1 hgr1 ho hg1 hI0 hf
 go_loopw [10,12] (fun out i wr=>∃ (k:Nat) (q:St) (vs:List (Nat × St)) (ps:List (Nat × SV)),i=.int .i64 k∧k≤20∧TrI w w1 g cap q out ps vs wr∧q.fine∧Upto p f s vs k q∧vs.length≤k) (fun _ i _=>20 - (intOf i).toNat)
 case atStart=>exact ⟨0,s,[],[],rfl,by omega,HI0.out,HSF.out,Upto.start _ _ _,by simp⟩
 case round=>
  obtain ⟨k,q,vs,ps,rfl,hk20,hI,hq,hup,hvl⟩:=hrel;by_cases hlt:k<p.length
  ·replace p3:=p3.resolve_left (by intro h;simp [h.1] at hlt)
   obtain ⟨b,o,rfl,hb,hc⟩:=p3;obtain ⟨⟨op,d,a,br⟩,hl⟩:∃ l,p[k]?=some l:=⟨_,List.getElem?_eq_getElem hlt⟩;have hvl9:=HOK.out _ (List.mem_of_getElem? hl);obtain ⟨o0,o7,od,_⟩:=ok_rd hvl9;obtain ⟨oa,ob⟩:=zym (op:=op) (d:=d) (a:=a) (b:=br) hvl9;obtain ⟨c0',c1',c2',c3'⟩:=zbf hc k _ _ _ _ hl;have hgw:Grow w wr:=hI.bel;have e0:=hgw.cell c0';have e1:=hgw.cell c1';have e2:=hgw.cell c2';have e3:=hgw.cell c3';have hsz:=hI.sz;have hpsl:ps.length≤20:=by rw [hI.len];omega
   have nb:b<wr.heap.size:=by omega
   have hnow:IntsAt wr (.slice (some ⟨g,0,none⟩) 4 cap) q.toL:=zaa zal (xs:=q.toL) hI.now;have HNOW:=jH hnow;have HC:=jH hc;have HI:=jH hI;have HL:=jH hl;have HUP:=jH hup;have HQ:=jH hq;have HOUT:=jH hI.out;clear hc c0' c1' c2' c3' hgw hnow hI hl hup hq l3 v3
   go_upto_region 6 with (first | (at_builtin;refine zay _ rfl (.tmp 25) (.tmp 26) 61 rfl w1.heap.size 3 underlying61 zga rfl (by decide) (by decide) encI zal zcx _ [] rfl (zah wr 1 _ _ _ hsz) _ q.toL rfl (HNOW.out.grow ((Grow.refl wr).alloc _)) (by simp [St.toL]) (by simp;omega) ?_;intro nv2 w2 hown2 hgr2;have hown3:w2.ownsRow w1.heap.size 3 1 nv2 4 (q.toL.flatMap encI):=hown2;obtain ⟨g2,cap2,hv2,hgb2,hgl2⟩:=zzo hown3 (by omega);subst hv2;have hg2:Grow wr w2:=zae (zah wr 1 3 encI wr.heap.size (Nat.le_refl _)) hgr2 (Nat.le_refl _) (by simp) ((Grow.refl wr).alloc _);have HG2:=jH hg2;have HOWN3:=jH hown3;clear hown2 hgr2 hown3 hg2) | (at_builtin;refine zad _ rfl (.tmp 23) (.tmp 29) 293 rfl w1.heap.size 317 underlying293 zzv rfl (by decide) (by decide) encP zru encP_one _ ps rfl ((HG2.out.owns HOUT.out).alloc _) ⟨w2.heap.size,0,none⟩ (k,(some ⟨g2,0,none⟩,4,cap2)) 1 rfl (zbj _ (encP (k,(some ⟨g2,0,none⟩,4,cap2))) _) (by omega) (by simp;have:=HG2.out.sz;omega) ?_;intro out4 w4 hown4 hgr4))
   have hI4:=HI.out.app (i:=k) (bv:=(some ⟨g2,0,none⟩,4,cap2)) (HG2.out.alloc _) (HOWN3.out.alloc _) hww hown4 hgr4;have hup4:=HUP.out.step HL.out;have hgw4:Grow w w4:=hI4.bel;have hsz4:=hI4.sz;have HI4:=jH hI4;have HUP4:=jH hup4;obtain ⟨c0',c1',c2',c3'⟩:=zbf HC.out k _ _ _ _ HL.out;have e0:=hgw4.cell c0';have e1:=hgw4.cell c1';have e2:=hgw4.cell c2';have e3:=hgw4.cell c3';have nb4:b<w4.heap.size:=by omega
   have hnow4:IntsAt w4 (.slice (some ⟨g,0,none⟩) 4 cap) q.toL:=zaa zal (xs:=q.toL) hI4.now;obtain ⟨_,_,hne,_,_,hnd⟩:=hnow4;cases hne;obtain ⟨_,_,hne2,_,hnc⟩:=hnd.resolve_left (by intro h;have:=h.1;simp [St.toL] at this)
   cases hne2;have HNC:=jH hnc;clear hnd hnc hgw4 hI4 hup4 hown4 hgr4 c0' c1' c2' c3'
   go_upto_region 8 with (fail)
   have hgl4:g<w4.heap.size:=by omega
   have hn16:(nextI ⟨op,d,a,br⟩ k q:Nat)≤20:=by
    unfold nextI
    split
    ·next h7=>
     have:d≤8:=by
      have h:vL op d a br=true:=hvl9;rw [show op=7 from h7.1] at h;simp [vL,zdo] at h;omega
     dsimp only;omega
    ·omega
   go_cut [52] from 37 to 52 (fun m wc=>m=.bool (decide (op=7∧q.get a<q.get br))∧Grow (w4.alloc (.cells #[.int .i64 op,.int .i64 d,.int .i64 a,.int .i64 br] 57)) wc)
   case first=>
    by_cases h7:op=7
    ·obtain ⟨a0,a3⟩:=oa (by omega)
     obtain ⟨b0,b3⟩:=ob (by omega)
     have hd:1≤d∧d≤8:=by
      have h:vL op d a br=true:=hvl9;rw [h7] at h;simp [vL,zdo] at h;omega
     subst h7;have ea:=zbb HNC.out a.toNat _ (zkp q a a0 a3);have eb:=zbb HNC.out br.toNat _ (zkp q br b0 b3);rw [Nat.zero_add] at ea eb;have a4:a<4:=by omega
     have b4:br<4:=by omega
     by_cases hxy:q.get a<q.get br
     ·have hn:decide ((7:Int)=7∧q.get a<q.get br)=true:=decide_eq_true ⟨rfl,hxy⟩;have HN:=jH hn;clear hn;generalize hxx:q.get a=x at ea hxy;generalize hyy:q.get br=y at eb hxy;have HXX:=jH hxx;have HYY:=jH hyy;clear hxx hyy;have t1:decide (x<y)=true:=decide_eq_true hxy;go_wp2_with (go_quiet (fail));all_goals go_meet
      all_goals exact ⟨by rw [← HN.out],(Grow.refl _).drewN _⟩
     ·have hn:decide ((7:Int)=7∧q.get a<q.get br)=false:=decide_eq_false (fun h=>hxy h.2);have HN:=jH hn;clear hn;generalize hxx:q.get a=x at ea hxy;generalize hyy:q.get br=y at eb hxy;have HXX:=jH hxx;have HYY:=jH hyy;clear hxx hyy;have t1:decide (x<y)=false:=decide_eq_false hxy;go_wp2_with (go_quiet (fail));all_goals go_meet
      all_goals exact ⟨by rw [← HN.out],(Grow.refl _).drewN _⟩
    ·have hn:decide (op=7∧q.get a<q.get br)=false:=decide_eq_false (fun h=>h7 h.1);have t1:(op == 7)=false:=by simpa using h7
     go_wp2_with (go_quiet (fail));all_goals go_meet
     all_goals exact ⟨by rw [hn],(Grow.refl _).drewN _⟩
   case rest=>
    obtain ⟨rfl,hgc⟩:=hcut;have hbx:=hgc.blk (heap_alloc_new w4 (.cells #[.int .i64 op,.int .i64 d,.int .i64 a,.int .i64 br] 57));obtain ⟨b0',b1',b2',b3'⟩:=zfl hbx;have hzb:=lt_of_block hbx;have HGC:=jH (((Grow.refl w4).alloc _).trans hgc);have HBX:=jH hbx;clear hgc hbx e0 e1 e2 e3;cases hw:wrB op with
    | true=>
     have hop:=zbd.1 (show inB op 1 6=true from hw);rw [show decide (op=7∧q.get a<q.get br)=false from decide_eq_false (fun h=>by omega)]
     have hwr:=zph hvl9;rw [hw] at hwr;have HWR:=jH hwr;have HW:=jH hw;have hdd:=od hw;obtain ⟨d0,d3⟩:=hdd;clear hwr hw od oa ob;go_wp2_with fail;refine zgy op d a br _ _ ?_;intro w5 hg5;rw [HWR.out];have hbx5:=hg5.blk HBX.out;clear b0' b1' b2' b3';obtain ⟨b0',b1',b2',b3'⟩:=zfl hbx5;have hzb5:=lt_of_block hbx5;have HGC5:=jH (HGC.out.trans hg5);have HBX5:=jH hbx5;clear hg5 hbx5;go_wp2_with fail;have hnw5:IntsAt w5 (.slice (some ⟨g,0,none⟩) 4 cap) q.toL:=zaa zal (xs:=q.toL) (HI4.out.grow HGC5.out).now;refine zvn op d a br q _ _ hvl9 HW.out hnw5 HQ.out _ ?_;intro w6 hg6;have hbx6:=hg6.blk HBX5.out;clear b0' b1' b2' b3' hnw5;obtain ⟨b0',b1',b2',b3'⟩:=zfl hbx6;have hzb6:=lt_of_block hbx6;have hI6:=HI4.out.grow (HGC5.out.trans hg6);have hlv6:=HLV.out.grow hI6.bel;have hvv6:=HVV.out.grow hI6.bel;have HGC6:=jH (HGC5.out.trans hg6);have HLV6:=jH hlv6;have HVV6:=jH hvv6;have HI6:=jH hI6;clear hg6 hbx6 hI6 hlv6 hvv6;obtain ⟨v0,hv0⟩:∃ v0,cut (opV op a (q.get a) (q.get br))=v0:=⟨_,rfl⟩;rw [hv0];have HV0:=jH hv0;clear hv0;go_wp2_with fail
     go_loop [14,15] (fun n kk=>∃ j:Nat,j≤lines.length∧kk=.int .i64 j∧n=.int .i64 ((frcN lines values k j).getD v0)) (fun _ kk=>lines.length - (intOf kk).toNat)
     case atStart=>exact ⟨0,Nat.zero_le _,rfl,rfl⟩
     case round=>
      obtain ⟨j,hj,rfl,rfl⟩:=hrel;by_cases hjl:j<lines.length
      ·have hjv:j<values.length:=by rw [← HLN.out];exact hjl
       obtain ⟨_,_,hne,_,_,hld⟩:=HLV6.out;cases hne;obtain ⟨lb,lo,rfl,_,hlc⟩:=hld.resolve_left (by intro h;have:=h.1;rw [this] at hjl;simp at hjl)
       obtain ⟨_,_,hne,_,_,hvd⟩:=HVV6.out;cases hne;obtain ⟨vb,vo,rfl,_,hvc⟩:=hvd.resolve_left (by intro h;have:=h.1;rw [this] at hjv;simp at hjv)
       obtain ⟨x,hx⟩:∃ x,lines[j]?=some x:=⟨_,List.getElem?_eq_getElem hjl⟩;obtain ⟨y,hy⟩:∃ y,values[j]?=some y:=⟨_,List.getElem?_eq_getElem hjv⟩;have ex:=zbb hlc j x hx;have ey:=zbb hvc j y hy;have dx:lines.getD j 0=x:=by rw [List.getD_eq_getElem?_getD,hx];rfl
       have dy:values.getD j 0=y:=by rw [List.getD_eq_getElem?_getD,hy];rfl
       clear hlc hvc hx hy hld hvd;by_cases hxk:x=(k:Int)
       ·have fr:frcN lines values k (j+1)=some y:=by unfold frcN;rw [dx,dy,if_pos hxk]
        have FR:=jH fr;subst hxk;clear fr dx dy;go_wp2_with fail
        go_round
        case rel=>exact ⟨j+1,by omega,by go_num,by rw [FR.out];rfl⟩
        case measure=>simp [intOf];omega
       ·have fr:frcN lines values k (j+1)=frcN lines values k j:=by rw [frcN,dx,dy,if_neg hxk]
        have FR:=jH fr;have t1:(x == (k:Int))=false:=by simpa using hxk
        clear fr dx dy;go_wp2_with fail
        go_round
        case rel=>exact ⟨j+1,by omega,by go_num,by rw [FR.out]⟩
        case measure=>simp [intOf];omega
      ·have hje:j=lines.length:=by omega
       subst hje;obtain ⟨n,hn⟩:∃ n,(frcN lines values k lines.length).getD v0=n:=⟨_,rfl⟩;rw [hn];have HN:=jH hn;have hnow6:IntsAt w6 (.slice (some ⟨g,0,none⟩) 4 cap) q.toL:=zaa zal (xs:=q.toL) HI6.out.now;obtain ⟨_,_,hne,_,_,hnd⟩:=hnow6;cases hne;obtain ⟨_,_,hne2,_,hnc⟩:=hnd.resolve_left (by intro h;have:=h.1;simp [St.toL] at this)
       cases hne2;have ed:=zbb hnc d.toNat _ (zkp q d d0 d3);rw [Nat.zero_add] at ed;have zd:w6.frozen? ⟨g,d.toNat,none⟩=false:=zbn HI6.out.now d.toNat;have d4:d<4:=by omega
       clear hn hnc hnd;generalize hqd:q.get d=qd at ed;have HQD:=jH hqd;clear hqd;go_wp2_with fail;go_roundw
       case rel=>
        have hu:=HUP4.out;have e1:nextI ⟨op,d,a,br⟩ k q=k+1:=by unfold nextI;rw [if_neg (fun h=>by have:=h.1;simp at this;omega)]
        have e2:stepS f ⟨op,d,a,br⟩ k q=q.set d n:=by
         unfold stepS;rw [if_pos HW.out,← HN.out,← HV0.out];have:=cut_frc HLN.out HFB.out k (opV op a (q.get a) (q.get br));rw [HF.out] at this;dsimp only;rw [this,← HF.out];rfl
        rw [e1,e2] at hu;refine ⟨k+1,q.set d n,_,_,by go_num,by omega,HI6.out.set gu gl d n d0 d3,?_,hu,by simp;omega⟩
        rw [← e2];exact zuw _ _ _ HQ.out
       case measure=>simp [intOf];omega
    | false=>
     have hwr:=zph hvl9;rw [hw] at hwr;have HWR:=jH hwr;have HW:=jH hw;clear hwr hw od oa ob;by_cases hsk:op=7∧q.get a<q.get br
     ·rw [show decide (op=7∧q.get a<q.get br)=true from decide_eq_true hsk];have hd:1≤d∧d≤8:=by
       have h:vL op d a br=true:=hvl9;rw [hsk.1] at h;simp [vL,zdo] at h;omega
      obtain ⟨d0,d3⟩:=hd;have HSK:=jH hsk;clear hsk;go_wp2_with fail;refine zgy op d a br _ _ ?_;intro w5 hg5;rw [HWR.out];have HGC5:=jH (HGC.out.trans hg5);clear hg5;go_wp2_with fail;go_roundw
      case rel=>
       have hu:=HUP4.out;have e1:nextI ⟨op,d,a,br⟩ k q=k+1+d.toNat:=by unfold nextI;rw [if_pos HSK.out]
       have e2:stepS f ⟨op,d,a,br⟩ k q=q:=by unfold stepS;rw [if_neg (by rw [HW.out];simp)]
       rw [e1] at hn16;rw [e1,e2] at hu;exact ⟨k+1+d.toNat,q,_,_,by simp;omega,hn16,HI4.out.grow HGC5.out,HQ.out,hu,by simp;omega⟩
      case measure=>simp [intOf];omega
     ·rw [show decide (op=7∧q.get a<q.get br)=false from decide_eq_false hsk];have HSK:=jH hsk;clear hsk;go_wp2_with fail;refine zgy op d a br _ _ ?_;intro w5 hg5;rw [HWR.out];have HGC5:=jH (HGC.out.trans hg5);clear hg5;go_wp2_with fail;go_roundw
      case rel=>
       have hu:=HUP4.out;have e1:nextI ⟨op,d,a,br⟩ k q=k+1:=by unfold nextI;rw [if_neg HSK.out]
       have e2:stepS f ⟨op,d,a,br⟩ k q=q:=by unfold stepS;rw [if_neg (by rw [HW.out];simp)]
       rw [e1,e2] at hu;exact ⟨k+1,q,_,_,by go_num,by omega,HI4.out.grow HGC5.out,HQ.out,hu,by simp;omega⟩
      case measure=>simp [intOf];omega
  ·obtain ⟨e1,e2⟩:=hup.done (by omega)
   obtain ⟨a9,n9,c9,hout⟩:∃ a n c,u10=.slice a n c:=by
    rcases hI.out.2 with ⟨rfl,_⟩ | ⟨g',cap',cur,rfl,_⟩
    ·exact ⟨_,_,_,rfl⟩
    ·exact ⟨_,_,_,rfl⟩
   subst hout;have hfin:=HR.out wr (.slice a9 n9 c9) (.slice (some ⟨g,0,none⟩) 4 cap) hI.bel ⟨ps,zbu hI.out hww,by rw [← e1];exact hI.len,fun j p v hp hv=>by rw [← e1] at hv;exact ⟨(hI.each j p v hp hv).1,zbu (hI.each j p v hp hv).2 hww⟩⟩ ⟨_,by rw [← e2];exact hI.now⟩
   have HFIN:=jH hfin;clear hI hup hfin e1 e2;go_wp2_with fail;exact HFIN.out
set_option maxHeartbeats 1000000
def StepsR (w:World) (x:Value) (vs:List (Nat × St)):Prop:=
 ∃ ps:List (Nat × SV),SlcAt 2 encP w x ps∧ps.length=vs.length∧∀ (j:Nat) (p:Nat × SV) (v:Nat × St),ps[j]?=some p→vs[j]?=some v→p.1=v.1∧IntsAt w (sv p.2) v.2.toL
theorem StepsAt.read {w:World} {base:Nat} {x:Value} {vs:List (Nat × St)} (h:StepsAt w base x vs):StepsR w x vs:=by
 obtain ⟨ps,h1,h2,h3⟩:=h;exact ⟨ps,zaa zru h1,h2,fun j p v hp hv=>⟨(h3 j p v hp hv).1,zaa zal (xs:=v.2.toL) (h3 j p v hp hv).2⟩⟩
theorem StepsR.grow {w w':World} {x:Value} {vs:List (Nat × St)} (h:StepsR w x vs) (g:Grow w w'):StepsR w' x vs:=
 let ⟨ps,h1,h2,h3⟩:=h
 ⟨ps,h1.grow g,h2,fun j p v hp hv=>⟨(h3 j p v hp hv).1,(h3 j p v hp hv).2.grow g⟩⟩
theorem StepsR.at {w:World} {x:Value} {vs:List (Nat × St)} (h:StepsR w x vs):∃ a c,x=.slice a vs.length c∧vs.length≤9223372036854775807∧∀ (j:Nat) (v:Nat × St),vs[j]?=some v →
  ∃ b o a' c',a=some ⟨b,o,none⟩∧w.cell? ⟨b,o+j * 2,none⟩=some (.int .i64 v.1)∧w.cell? ⟨b,o+j * 2+1,none⟩=some (.slice a' 4 c')∧IntsAt w (.slice a' 4 c') v.2.toL:=by
 obtain ⟨ps,⟨a,c,rfl,h1,h2,h3⟩,hl,h4⟩:=h;rw [← hl];refine ⟨a,c,rfl,by omega,fun j v hv=>?_⟩
 have hj:j<ps.length:=by rw [hl];exact (List.getElem?_eq_some_iff.1 hv).1
 obtain ⟨p,hp⟩:∃ p,ps[j]?=some p:=⟨_,List.getElem?_eq_getElem hj⟩;obtain ⟨e1,e2⟩:=h4 j p v hp hv;obtain ⟨b,o,rfl,_,hc⟩:=h3.resolve_left (by intro h;rw [h.1] at hj;simp at hj)
 have k0:=hc j p hp 0 _ rfl;have k1:=hc j p hp 1 _ rfl;obtain ⟨a',c',e3,_,_,_⟩:=id e2;rw [e3] at k1 e2;rw [e1] at k0;exact ⟨b,o,a',c',rfl,k0,k1,e2⟩
theorem zqb (p:List Ln) (s:List Int) (v u:Value) (w:World) (hp:LinesAt w v p) (hs:IntsAt w u s) (h:chk p s=0) (R:Ending→World→Prop)
  (hR:∀ w' x y,Grow w w'→StepsR w' x (visits p s)→IntsAt w' y (runM p s)→R (.returned (.tuple #[x,y])) w') :
  Calls Tryz.prog 247 #[v,u,.slice none 0 0,.slice none 0 0] w R:=by
 obtain ⟨h1,h2⟩:=zsy.1 h;obtain ⟨h3,h4⟩:=zba.1 h1;obtain ⟨q,rfl,hq⟩:=St.of_valS h2;refine zux p q [] [] v u _ _ w hp hs (SlcAt.nil _ _ _) (SlcAt.nil _ _ _) rfl h3 h4 hq (by simp) R ?_
 intro w' x y hg hst ho;exact hR w' x y hg hst.read (ho.slc zal)
theorem rRun_any (p:List Ln) (s:List Int) (v u:Value) (w:World) (hp:LinesAt w v p) (hs:IntsAt w u s) (R:Ending→World→Prop)
  (hR:∀ w' x,Grow w w'→IntsAt w' x (ifOK (chk p s) (runM p s))→R (.returned (.tuple #[x,.int .i64 (chk p s)])) w') :
  Calls Tryz.prog 216 #[v,u] w R:=by
 have HP:=jH hp;have HS:=jH hs;have HR:=jH hR;clear hp hs hR;by_cases h:chk p s=0
 ·have H:=jH h;clear h
  go_enter func216,ntmps216
  go_wp2_with fail;refine zmi p s _ _ _ HP.out HS.out _ ?_;intro w1 hg1;rw [H.out];go_wp2_with fail;refine zqb p s _ _ _ (HP.out.grow hg1) (HS.out.grow hg1) H.out _ ?_;intro w2 x y hg2 _ hy;have HRR:=HR.out w2 y (hg1.trans hg2);rw [H.out,zgv] at HRR;have HF:=jH (HRR hy);clear HRR hg1 hg2 hy HR;go_wp2_with fail;exact HF.out
 ·have HRR:=HR.out;rw [zms h] at HRR;have HRR2:=jH HRR;clear HRR HR;generalize he:chk p s=e at h HRR2;have H:=jH he;clear he;have hb:(e == 0)=false:=by simpa using h
  have hb2:(e != 0)=true:=by simpa using h
  go_enter func216,ntmps216
  go_wp2_with fail;refine zmi p s _ _ _ HP.out HS.out _ ?_;intro w1 hg1;rw [H.out];go_wp2_with fail;exact HRR2.out _ _ hg1 (SlcAt.nil _ _ _)
set_option maxHeartbeats 1000000
theorem zdh (p:List Ln) (ts:List Tst) (v u:Value) (w:World) (hp:LinesAt w v p) (hx:TestsAt w u ts) (R:Ending→World→Prop) (hR:∀ w',Grow w w'→R (.returned (.int .i64 (chkT p ts))) w') :
  Calls Tryz.prog 208 #[v,u] w R:=by
 have HP:=jH hp;have HX:=jH hx;have HR:=jH hR;obtain ⟨a,c,rfl,_⟩:=hp;obtain ⟨⟨a2,c2,rfl,_⟩,_⟩:=hx;clear hR;obtain ⟨e,he⟩:∃ e,valP p=e:=⟨_,rfl⟩;by_cases h0:e=0
 ·have hc:chkT p ts=valT ts:=by unfold chkT;rw [if_pos (he.trans h0)]
  rw [hc] at HR;have HE:=jH he;clear he hc;subst h0
  go_enter func208,ntmps208
  go_wp2_with fail;refine zbs p _ _ HP.out _ ?_;intro w1 hg1;rw [HE.out];have HG:=jH hg1;clear hg1;go_wp2_with fail;refine zct ts _ _ (HX.out.grow HG.out) _ ?_;intro w2 hg2;have HF:=jH (HR.out _ (HG.out.trans hg2));clear hg2;go_wp2_with fail;exact HF.out
 ·have hc:chkT p ts=e:=by unfold chkT;rw [if_neg (by omega),he]
  rw [hc] at HR;have HE:=jH he;have t1:(e == 0)=false:=by simpa using h0
  have t2:(e != 0)=true:=by simpa using h0
  clear he hc
  go_enter func208,ntmps208
  go_wp2_with fail;refine zbs p _ _ HP.out _ ?_;intro w1 hg1;rw [HE.out];have HF:=jH (HR.out _ hg1);clear hg1;go_wp2_with fail;exact HF.out
end Go.Proofs.YtmeejlgnhfkeaaaGreatDoor
