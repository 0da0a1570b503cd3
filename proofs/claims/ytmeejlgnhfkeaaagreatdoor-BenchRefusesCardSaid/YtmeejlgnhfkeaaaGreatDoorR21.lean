/- Parts. -/
import Derived.Test.YtmeejlgnhfkeaaaGreatDoorR17
import Derived.Test.YtmeejlgnhfkeaaaGreatDoorR19
import Derived.Test.YtmeejlgnhfkeaaaGreatDoorR20
import Derived.Test.YtmeejlgnhfkeaaaGreatDoorR11
import Derived.Test.YtmeejlgnhfkeaaaGreatDoorR16
import Derived.Test.YtmeejlgnhfkeaaaGreatDoorR18
import Derived.Test.YtmeejlgnhfkeaaaGreatDoorR10
import Derived.Test.YtmeejlgnhfkeaaaGreatDoorR09
import Derived.Test.YtmeejlgnhfkeaaaGreatDoorR00
import Derived.Test.YtmeejlgnhfkeaaaGreatDoorR02
import Derived.Test.YtmeejlgnhfkeaaaGreatDoorR45
namespace Go.Proofs.YtmeejlgnhfkeaaaGreatDoor
open Go.RowKit Go.Proofs.Tryz
set_option maxRecDepth 100000
set_option maxHeartbeats 16000000
theorem zhy (w:World) (xs:List Ed) (T:TypeId) (hl:xs.length≤1000):EditsAt (w.alloc (.cells (xs.flatMap encE).toArray T)) (.slice (some ⟨w.heap.size,0,none⟩) xs.length xs.length) xs:=by
 refine ⟨_,xs.length,rfl,Nat.le_refl _,by omega,.inr ⟨w.heap.size,0,rfl,by rw [World.size_alloc];omega,?_⟩⟩
 intro j x hj i u hu;have hi:i<5:=by have:=(List.getElem?_eq_some_iff.1 hu).1;rw [zbh] at this;exact this
 rw [Nat.zero_add,World.cell?_alloc_new];have:=flatMap_getElem? zbh xs j x hj i hi;simpa [this] using hu
def toLst (t:Lo Ed):Lst:=⟨t.a,t.n,t.c,t.x⟩
theorem lists_of {w:World} {v:Value} {L:List (Lo Ed)} (h:SlcAt 1 encLo w v L) (hi:∀ t∈L,EditsAt w t.v t.x):ListsAt w v (L.map toLst):=by
 refine ⟨?_,fun t ht=>by obtain ⟨u,hu,rfl⟩:=List.mem_map.1 ht;exact hi u hu⟩
 obtain ⟨a,c,rfl,h1,h2,h3⟩:=h;refine ⟨a,c,by rw [List.length_map],by rw [List.length_map];exact h1,h2,?_⟩
 rcases h3 with ⟨rfl,h3⟩ | ⟨b,o,rfl,hb,h3⟩
 ·exact .inl ⟨rfl,h3⟩
 ·refine .inr ⟨b,o,rfl,hb,fun j x hx i u hu=>?_⟩;rw [List.getElem?_map] at hx;cases hj:L[j]? with
  | none=>rw [hj] at hx;cases hx
  | some t=>rw [hj] at hx;cases hx;exact h3 j t hj i u hu
theorem kept_blk {w w':World} {base n k:Nat} {T T':TypeId} {v:Value} {ys:List Value} {b:Nat} {cs:Array Value} {fz:Nat × Nat} (ho:w.ownsRow base T k v n ys) (hg:w.grownBy w' v.ownBlock) (hb:w.heap[b]?=some (.cells cs T' fz)) (hne:T'≠T):w'.heap[b]?=some (.cells cs T' fz):=by
 have hn:some b≠v.ownBlock:=by
  intro he;rcases ho.2 with ⟨hv,_⟩ | ⟨g,cap,cur,hv,_,hh,_⟩
  ·subst hv;simp [Value.ownBlock] at he
  ·subst hv;have hbg:b=g:=by simpa [Value.ownBlock] using he
   subst hbg;rw [hb] at hh;injection hh with hh;injection hh with _ h2 _;exact hne h2
 rw [hg.block b (lt_of_block hb) hn];exact hb
theorem zvu (p:List Ln) (ts:List Tst) (pv tv:Value) (w:World) (hp:LinesAt w pv p) (ht:TestsAt w tv ts) (hval:valP p=0) (R:Ending→World→Prop)
  (hR0:pairsL p ts (mutM p p.length)=[]→∀ w',Grow w w'→R (.returned (.tuple #[.slice none 0 0,.bool false])) w')
  (hR1:∀ w' v (j:Nat) x,Grow w w'→(pairsL p ts (mutM p p.length))[j]?=some x→FirstMin ((pairsL p ts (mutM p p.length)).map (sizeE p)) j (sizeE p x)→EditsAt w' v x→NewS w.heap.size v→R (.returned (.tuple #[v,.bool true])) w') :
  Calls Tryz.prog 207 #[pv,tv] w R:=by
 have HP:=jH hp;have HT:=jH ht;have hlen:=zlx p p.length;have hp8:=(zba.1 hval).1;have HV:=jH hval;obtain ⟨M,hM⟩:∃ M,mutM p p.length=M:=⟨_,rfl⟩;rw [hM] at hR0 hR1 hlen;have HM:=jH hM;have hM8:M.length≤160:=by omega
 have hPl:=zmf p ts M 160 hM8;obtain ⟨PL,hPL⟩:∃ L,pairsL p ts M=L:=⟨_,rfl⟩;rw [hPL] at hR0 hR1 hPl;have hPl2:PL.length≤25600:=by
  have:=Nat.mul_le_mul_right 160 hM8;omega
 have HPL:=jH hPL;have HR0:=jH hR0;have HR1:=jH hR1;obtain ⟨pa,pc,rfl,jk1⟩:=hp;obtain ⟨⟨ta,tc,rfl,jk2⟩,jk3⟩:=ht;clear hR0 hR1 hval hM hPL hPl hlen jk1 jk2 jk3
 go_enter func207,ntmps207
 go_wp2_with fail;refine zpm p _ _ HP.out HV.out _ ?_;intro w2 v2 hg2 hv2;rw [HM.out] at hv2;have HX2:=jH hv2.edits;obtain ⟨a2,c2,rfl,r1,r2,jk4⟩:=hv2.edits;have HG0:=jH hg2;clear hg2 jk4 hv2;go_wp2_with fail
 go_loopw [6,17] (fun out i wr=>∃ (k:Nat) (L:List (Lo Ed)),k≤M.length∧i=.int .i64 k∧Grow w2 wr∧LoOwn w2.heap.size 58 5 encE wr out L∧L.map Lo.x++pairsL p ts (M.drop k)=PL∧∀ t∈L,NewS w.heap.size t.v) (fun _ i _=>M.length - (intOf i).toNat)
 case atStart=>exact ⟨0,[],Nat.zero_le _,rfl,Grow.refl _,LoOwn.nil _ _ _ _ _,HPL.out,by simp⟩
 case round=>
  obtain ⟨k,L,hk,rfl,hg,how,hLx,hNL⟩:=hrel;have HNL:=jH hNL;clear hNL;have HGX:=jH hg;have HG:=jH (HG0.out.trans hg);have HOW:=jH how;have HLX:=jH hLx;have hzw:=hg.sz;clear hg how hLx;by_cases hlt:k<M.length
  ·obtain ⟨⟨t,op,d,a,b⟩,hx⟩:∃ x,M[k]?=some x:=⟨_,List.getElem?_eq_getElem hlt⟩;obtain ⟨gb,o,rfl,hb,e0,e1,e2,e3,e4⟩:=zci (HX2.out.grow HGX.out) hx;have hlt2:(k:Int)<(M.length:Int):=by omega
   have HDR:=jH (zqk (p:=p) (ts:=ts) hx);have hbx:=heap_alloc_new wr (.cells #[.int .i64 t,.int .i64 op,.int .i64 d,.int .i64 a,.int .i64 b] 60);have hgx:=(Grow.refl wr).alloc (.cells #[.int .i64 t,.int .i64 op,.int .i64 d,.int .i64 a,.int .i64 b] 60);have HBX:=jH hbx;have HGB:=jH hgx;clear hx hbx hgx;obtain ⟨m,hm⟩:∃ m,M.length - (k+1)=m:=⟨_,rfl⟩;have HMM:=jH (show M.length=k+1+m by omega)
   have hPQ:L.map Lo.x++(pairX p ts (⟨t,⟨op,d,a,b⟩⟩:Ed) (M.drop (k+1))++pairsL p ts (M.drop (k+1)))=PL:=by rw [← HDR.out];exact HLX.out
   have HPQ:=jH hPQ;have HGO:=jH (HOW.out.grow HGB.out);clear hPQ;by_cases hcc:c2=k+1
   ·have hm0:m=0:=by omega
    have HNX:=jH (show L.map Lo.x++pairsL p ts (M.drop (k+1))=PL by
     have:=HPQ.out;rw [List.drop_eq_nil_of_le (show M.length≤k+1 by omega)] at this ⊢
     exact this)
    go_wp2_with fail;try rw [hm0]
    generalize wr.alloc (.cells #[.int .i64 t,.int .i64 op,.int .i64 d,.int .i64 a,.int .i64 b] 60)=W at HGB HGO ⊢
    go_loopw [6,27] (fun out i wr2=>i=.int .i64 0∧wr2=W∧out=u6) (fun _ _ _=>0)
    case atStart=>exact ⟨rfl,rfl,rfl⟩
    case round=>
     obtain ⟨rfl,rfl,rfl⟩:=hrel;go_wp2_with fail;go_roundw
     case rel=>exact ⟨k+1,L,by omega,by go_num,HGX.out.trans HGB.out,HGO.out,HNX.out,HNL.out⟩
     case measure=>simp [intOf];omega
   ·skip
    go_wp2_with fail
    skip
    have hsW:(wr.alloc (.cells #[.int .i64 t,.int .i64 op,.int .i64 d,.int .i64 a,.int .i64 b] 60)).heap.size=wr.heap.size+1:=by simp
    have HGW:=jH (HGX.out.trans HGB.out);generalize wr.alloc (.cells #[.int .i64 t,.int .i64 op,.int .i64 d,.int .i64 a,.int .i64 b] 60)=W at HBX HGB HGO HGW hsW ⊢;obtain ⟨bx,hbx⟩:∃ z,wr.heap.size=z:=⟨_,rfl⟩;rw [hbx] at HBX ⊢;obtain ⟨wo,hwo⟩:∃ z:World,z=wr:=⟨_,rfl⟩;clear hwo
    go_loopw [6,27] (fun out i wr2=>∃ (j:Nat) (L2:List (Lo Ed)),j≤m∧i=.int .i64 j∧Grow w2 wr2∧wr2.heap[bx]?=some (.cells #[.int .i64 t,.int .i64 op,.int .i64 d,.int .i64 a,.int .i64 b] 60 (0,0))∧LoOwn w2.heap.size 58 5 encE wr2 out L2∧L2.map Lo.x++(pairX p ts (⟨t,⟨op,d,a,b⟩⟩:Ed) ((M.drop (k+1)).drop j)++pairsL p ts (M.drop (k+1)))=PL∧∀ t∈L2,NewS w.heap.size t.v) (fun _ i _=>m - (intOf i).toNat)
    case atStart=>exact ⟨0,L,Nat.zero_le _,rfl,HGW.out,HBX.out,HGO.out,HPQ.out,HNL.out⟩
    case round=>
     obtain ⟨j,L2,hj,rfl,hg2,hb2,how2,hLx2,hNL2⟩:=hrel;have HNL2:=jH hNL2;clear hNL2;have HG2:=jH hg2;have HB2:=jH hb2;have HO2:=jH how2;have HL2:=jH hLx2;have hzw2:=hg2.sz;have hL2:L2.length≤25600:=by
      have:=congrArg List.length hLx2;rw [List.length_append,List.length_map] at this;omega
     clear hg2 hb2 how2 hLx2;by_cases hjm:j<m
     ·have hjm2:(j:Int)<(m:Int):=by omega
      obtain ⟨⟨t2,op2,d2,a2,b2⟩,hy⟩:∃ y,M[k+1+j]?=some y:=⟨_,List.getElem?_eq_getElem (by have:=HMM.out;omega)⟩
      obtain ⟨gb',o',e',hgb',f0,f1,f2,f3,f4⟩:=zci (HX2.out.grow HG2.out) hy;cases e';rw [show o+(k+1+j) * 5=o+(k+1) * 5+j * 5 by omega] at f0 f1 f2 f3 f4
      have HPD:=jH (zvo (p:=p) (ts:=ts) (x:=(⟨t,⟨op,d,a,b⟩⟩:Ed)) (ys:=M.drop (k+1)) (j:=j) (y:=(⟨t2,⟨op2,d2,a2,b2⟩⟩:Ed)) (by rw [List.getElem?_drop];exact hy))
      obtain ⟨c0,c1,c2',c3,c4⟩:=box5 HB2.out;have hzb:=lt_of_block HB2.out;obtain ⟨f,hf⟩:∃ f,dblB p ts (⟨t,⟨op,d,a,b⟩⟩:Ed) (⟨t2,⟨op2,d2,a2,b2⟩⟩:Ed)=f:=⟨_,rfl⟩;rw [hf] at HPD;have hgy:=(Grow.refl wr).alloc (.cells #[.int .i64 t2,.int .i64 op2,.int .i64 d2,.int .i64 a2,.int .i64 b2] 60);have hgxy:=hgy.alloc (.cells #[.int .i64 t,.int .i64 op,.int .i64 d,.int .i64 a,.int .i64 b,.int .i64 t2,.int .i64 op2,.int .i64 d2,.int .i64 a2,.int .i64 b2] 60);have HGXY:=jH hgxy;have HLE:=jH (show L2.length<100000000000 by omega)
      clear hy hgy hgxy;by_cases htt:t<t2
      ·have hlit:=zhy (wr.alloc (.cells #[.int .i64 t2,.int .i64 op2,.int .i64 d2,.int .i64 a2,.int .i64 b2] 60)) [(⟨t,⟨op,d,a,b⟩⟩:Ed),(⟨t2,⟨op2,d2,a2,b2⟩⟩:Ed)] 60 (by simp)
       rw [World.size_alloc] at hlit;have HLIT:=jH (show EditsAt ((wr.alloc (.cells #[.int .i64 t2,.int .i64 op2,.int .i64 d2,.int .i64 a2,.int .i64 b2] 60)).alloc (.cells #[.int .i64 t,.int .i64 op,.int .i64 d,.int .i64 a,.int .i64 b,.int .i64 t2,.int .i64 op2,.int .i64 d2,.int .i64 a2,.int .i64 b2] 60)) (.slice (some ⟨wr.heap.size+1,0,none⟩) 2 2) [(⟨t,⟨op,d,a,b⟩⟩:Ed),(⟨t2,⟨op2,d2,a2,b2⟩⟩:Ed)] from hlit);have hgf:(decide (chkX p [(⟨t,⟨op,d,a,b⟩⟩:Ed),(⟨t2,⟨op2,d2,a2,b2⟩⟩:Ed)] ts=0) && goodM p [(⟨t,⟨op,d,a,b⟩⟩:Ed),(⟨t2,⟨op2,d2,a2,b2⟩⟩:Ed)] ts)=f:=by
        rw [← hf];unfold dblB;rw [decide_eq_true htt];rfl
       have HGF:=jH hgf;clear hlit hgf hf;go_wp2_with fail;refine zrb p [(⟨t,⟨op,d,a,b⟩⟩:Ed),(⟨t2,⟨op2,d2,a2,b2⟩⟩:Ed)] ts _ _ _ _ (HP.out.grow (HG0.out.trans (HG2.out.trans HGXY.out))) HLIT.out (HT.out.grow (HG0.out.trans (HG2.out.trans HGXY.out))) _ ?_;intro w5 hg5;rw [HGF.out];have HG5:=jH (HG2.out.trans (HGXY.out.trans hg5));have HB5:=jH ((HGXY.out.trans hg5).blk HB2.out);have HO5:=jH (HO2.out.grow (HGXY.out.trans hg5));have HLIT5:=jH (HLIT.out.grow hg5);have hz5:=(HGXY.out.trans hg5).sz;have hs5:wr.heap.size+2≤w5.heap.size:=by have:=hg5.sz;simp at this;omega
       clear hg5 c0 c1 c2' c3 c4 f0 f1 f2 f3 f4;cases f with
       | false=>
        have HPN:=jH (show L2.map Lo.x++(pairX p ts (⟨t,⟨op,d,a,b⟩⟩:Ed) ((M.drop (k+1)).drop (j+1))++pairsL p ts (M.drop (k+1)))=PL by
         have:=HL2.out;rw [HPD.out] at this;exact this)
        go_wp2_with fail;go_roundw
        case rel=>exact ⟨j+1,L2,by omega,by go_num,HG5.out,HB5.out,HO5.out,HPN.out,HNL2.out⟩
        case measure=>simp [intOf];omega
       | true=>
        have HPN:=jH (show (L2++[(⟨some ⟨wr.heap.size+1,0,none⟩,2,2,[(⟨t,⟨op,d,a,b⟩⟩:Ed),(⟨t2,⟨op2,d2,a2,b2⟩⟩:Ed)]⟩:Lo Ed)]).map Lo.x++(pairX p ts (⟨t,⟨op,d,a,b⟩⟩:Ed) ((M.drop (k+1)).drop (j+1))++pairsL p ts (M.drop (k+1)))=PL by
         have:=HL2.out;rw [HPD.out] at this;simpa using this)
        go_wp2_with (at_builtin;refine zdj _ rfl (.tmp 45) (.tmp 47) 44 rfl w2.heap.size 58 underlying44 zrv rfl (by decide) (by decide) encLo zaz zce _ L2 rfl (((Grow.refl w5).alloc _).owns HO5.out.row) _ (⟨some ⟨wr.heap.size+1,0,none⟩,2,2,[(⟨t,⟨op,d,a,b⟩⟩:Ed),(⟨t2,⟨op2,d2,a2,b2⟩⟩:Ed)]⟩:Lo Ed) 1 rfl (newsG _ _ (by simp) (encLo (⟨some ⟨wr.heap.size+1,0,none⟩,2,2,[(⟨t,⟨op,d,a,b⟩⟩:Ed),(⟨t2,⟨op2,d2,a2,b2⟩⟩:Ed)]⟩:Lo Ed)) _) HLE.out (by simp;omega) ?_;intro out2 w6 hown6 hgr6 hat6)
        have HG6:=jH (show Grow w2 w6 from zae HO5.out.row hgr6 (Nat.le_refl _) (by simp;omega) (HG5.out.alloc _))
        have HB6:=jH (kept_blk (((Grow.refl w5).alloc _).owns HO5.out.row) hgr6 (((Grow.refl w5).alloc _).blk HB5.out) (by decide))
        have HO6:=jH ((HO5.out.grow ((Grow.refl w5).alloc _)).app (t:=⟨some ⟨wr.heap.size+1,0,none⟩,2,2,[(⟨t,⟨op,d,a,b⟩⟩:Ed),(⟨t2,⟨op2,d2,a2,b2⟩⟩:Ed)]⟩) hgr6 hown6 hat6 (HLIT5.out.grow ((Grow.refl w5).alloc _)) fun b o s hb=>by
         cases hb;refine ⟨fun he=>?_,by simp;omega⟩
         have:=HO2.out.lt he;omega)
        clear hown6 hgr6 hat6;go_roundw
        case rel=>exact ⟨j+1,_,by omega,by go_num,HG6.out,HB6.out,HO6.out,HPN.out,fun t ht=>by
         rcases List.mem_append.1 ht with ht | ht
         ·exact HNL2.out t ht
         ·simp at ht;subst ht;exact fun a n c e=>by cases e;have h1:=HG0.out.sz;have h2:=HG2.out.sz;dsimp only;omega⟩
        case measure=>simp [intOf];omega
      ·have hff:f=false:=by rw [← hf];unfold dblB;rw [decide_eq_false htt];rfl
       subst hff;have HPN:=jH (show L2.map Lo.x++(pairX p ts (⟨t,⟨op,d,a,b⟩⟩:Ed) ((M.drop (k+1)).drop (j+1))++pairsL p ts (M.drop (k+1)))=PL by
        have:=HL2.out;rw [HPD.out] at this;exact this)
       clear hf;go_wp2_with fail;go_roundw
       case rel=>exact ⟨j+1,L2,by omega,by go_num,HG2.out.trans HGXY.out,HGXY.out.blk HB2.out,HO2.out.grow HGXY.out,HPN.out,HNL2.out⟩
       case measure=>simp [intOf];omega
     ·have hjm2:j=m:=by omega
      have HNX:=jH (show L2.map Lo.x++pairsL p ts (M.drop (k+1))=PL by
       have:=HL2.out;rw [List.drop_drop,List.drop_eq_nil_of_le (show M.length≤k+1+j by have:=HMM.out;omega)] at this
       exact this)
      clear hjm2;go_wp2_with fail;go_roundw
      case rel=>exact ⟨k+1,L2,by omega,by go_num,HG2.out,HO2.out,HNX.out,HNL2.out⟩
      case measure=>simp [intOf];omega
  ·have hkn:k=M.length:=by omega
   have hLM:=HLX.out;rw [hkn,List.drop_eq_nil_of_le (Nat.le_refl _)] at hLM;have HLM:=jH (show L.map Lo.x=PL by simpa [pairsL] using hLM)
   have HLS:=jH (lists_of HOW.out.at_ HOW.out.ins);obtain ⟨oa,oc,rfl,jk5⟩:=HOW.out.at_;have hlt3:¬ (k:Int)<(M.length:Int):=by omega
   clear hLM hkn jk5;go_wp2_with fail;refine ziu p (L.map toLst) _ _ _ (HP.out.grow HG.out) HLS.out _ ?_ ?_
   ·intro h0 w5 hg5;have hE0:PL=[]:=by
     rw [← HLM.out];have:=List.map_eq_nil_iff.1 h0;rw [this];rfl
    have HF:=jH (HR0.out hE0 w5 (HG.out.trans hg5));clear hg5 h0 hE0;go_wp2_with fail;exact HF.out
   ·intro w5 j u hg5 hu hfm;have hmap:((L.map toLst).map fun t=>sizeE p t.x)=PL.map (sizeE p):=by
     rw [← HLM.out,List.map_map,List.map_map];rfl
    have hEu:PL[j]?=some u.x:=by
     rw [← HLM.out,List.getElem?_map];rw [List.getElem?_map] at hu;cases hj:L[j]? with
     | none=>rw [hj] at hu;cases hu
     | some t=>rw [hj] at hu;cases hu;rfl
    rw [hmap] at hfm;have hI:=HLS.out.ins u (List.mem_of_getElem? hu);have hNu:NewS w.heap.size u.v:=by
     obtain ⟨t,ht,rfl⟩:=List.mem_map.1 (List.mem_of_getElem? hu);exact HNL.out t ht
    have HF:=jH (HR1.out w5 u.v j u.x (HG.out.trans hg5) hEu hfm (hI.grow hg5) hNu);obtain ⟨ua,un,uc,ux⟩:=u;dsimp only [Lst.v] at HF ⊢;clear hg5 hu hfm hmap hI hEu hNu;go_wp2_with fail;exact HF.out
set_option maxRecDepth 100000
set_option maxHeartbeats 16000000
def RepP (p:List Ln) (ts:List Tst) (x:List Ed) (n:Int) (ok:Bool):Prop:=
 (sgtE p ts 0≠0∧x=[]∧n=0∧ok=false) ∨
 (sgtE p ts 0=0∧((∃ k:Nat,k<3∧n=k∧ok=true∧(∀ k':Nat,k'<k→SnglP p ts k' ⟨0,⟨0,0,0,0⟩⟩ false)∧∃ e,x=[e]∧SnglP p ts k e true) ∨
  ((∀ k':Nat,k'<3→SnglP p ts k' ⟨0,⟨0,0,0,0⟩⟩ false)∧DblP p ts x ok∧n=if ok then 3 else 0)))
theorem RepP.uniq {p:List Ln} {ts:List Tst} {x x':List Ed} {n n':Int} {ok ok':Bool} (h:RepP p ts x n ok) (h':RepP p ts x' n' ok'):x=x'∧n=n'∧ok=ok':=by
 rcases h with ⟨h,rfl,rfl,rfl⟩ | ⟨h,h1⟩<;>rcases h' with ⟨g,rfl,rfl,rfl⟩ | ⟨g,g1⟩
 ·exact ⟨rfl,rfl,rfl⟩
 ·exact absurd g h
 ·exact absurd h g
 ·rcases h1 with ⟨k,hk,rfl,rfl,hn,e,rfl,hs⟩ | ⟨hn,hd,rfl⟩<;>rcases g1 with ⟨k',hk',rfl,rfl,hn',e',rfl,hs'⟩ | ⟨hn',hd',rfl⟩
  ·have hkk:k=k':=by
    by_cases h1:k<k'
    ·have:=(hn' k h1).uniq hs;cases this.2
    ·by_cases h2:k'<k
     ·have:=(hn k' h2).uniq hs';cases this.2
     ·omega
   subst hkk;obtain ⟨rfl,_⟩:=hs.uniq hs';exact ⟨rfl,rfl,rfl⟩
  ·have:=(hn' k hk).uniq hs;cases this.2
  ·have:=(hn k' hk').uniq hs';cases this.2
  ·obtain ⟨rfl,rfl⟩:=hd.uniq hd';exact ⟨rfl,rfl,rfl⟩
theorem zje {p:List Ln} {ts:List Tst} {k:Nat} (hk:k<3):sgtE p ts k=sgtE p ts 0:=by
 unfold sgtE;rw [zbd.2 ⟨by omega,by omega⟩,show inB 0 0 2=true from rfl]
theorem num0_any (w:World) (R:Ending→World→Prop) (hR:∀ w',Grow w w'→R (.returned (.int .i64 0)) w'):Calls Tryz.prog 366 #[.agg #[]] w R:=by
 have HR:=jH hR;clear hR
 go_enter func366,ntmps366
 go_wp2_with fail;exact HR.out _ ((Grow.refl w).alloc _)
theorem num1_any (w:World) (R:Ending→World→Prop) (hR:∀ w',Grow w w'→R (.returned (.int .i64 1)) w'):Calls Tryz.prog 367 #[.agg #[]] w R:=by
 have HR:=jH hR;clear hR
 go_enter func367,ntmps367
 go_wp2_with fail;exact HR.out _ ((Grow.refl w).alloc _)
theorem num2_any (w:World) (R:Ending→World→Prop) (hR:∀ w',Grow w w'→R (.returned (.int .i64 2)) w'):Calls Tryz.prog 368 #[.agg #[]] w R:=by
 have HR:=jH hR;clear hR
 go_enter func368,ntmps368
 go_wp2_with fail;exact HR.out _ ((Grow.refl w).alloc _)
theorem Repair_any (p:List Ln) (ts:List Tst) (pv tv:Value) (w:World) (hp:LinesAt w pv p) (ht:TestsAt w tv ts) (R:Ending→World→Prop)
  (hR:∀ w' v x n ok,Grow w w'→EditsAt w' v x→NewS w.heap.size v→RepP p ts x n ok→R (.returned (.tuple #[v,.int .i64 n,.bool ok,.int .i64 (sgtE p ts 0)])) w') :
  Calls Tryz.prog 169 #[pv,tv] w R:=by
 have HP:=jH hp;have HT:=jH ht;have HR:=jH hR;obtain ⟨e,he⟩:∃ e,sgtE p ts 0=e:=⟨_,rfl⟩;have hok:=fun h:e=0=>znd.1 (he.trans h);rw [he] at HR;have HE:=jH he;obtain ⟨pa,pc,rfl,jk1⟩:=hp;obtain ⟨⟨ta,tc,rfl,jk2⟩,jk3⟩:=ht;clear hR he jk1 jk2 jk3;by_cases z1:e=0;rotate_left
 ·have HS:=jH (show RepP p ts [] 0 false from .inl ⟨by rw [HE.out];exact z1,rfl,rfl,rfl⟩)
  have t1:(e != 0)=true:=by simpa using z1
  clear hok z1
  go_enter func169,ntmps169
  go_wp2_with fail;refine zlw p ts 0 _ _ _ HP.out HT.out _ ?_;intro w1 hg1;rw [HE.out];have HF:=jH (HR.out w1 (.slice none 0 0) [] 0 false hg1 (SlcAt.nil _ _ _) (NewS.nil _ _ _) HS.out);clear hg1;go_wp2_with fail;exact bodyPost_ret (by simp [results,Tryz.results169,go_sem]) rfl HF.out
 obtain ⟨⟨hv,hvt⟩,_,_⟩:=hok z1;subst z1;have hp8:=(zba.1 hv).1;have HV:=jH hv;have HVT:=jH hvt;have HCL:=jH (fun (k:Nat) (h:k<3)=>zub hv (kind:=k) (by omega) (by omega))
 clear hok hv hvt
 go_enter func169,ntmps169
 go_wp2_with fail;refine zlw p ts 0 _ _ _ HP.out HT.out _ ?_;intro w1 hg1;rw [HE.out];have HG1:=jH hg1;clear hg1;go_wp2_with fail;refine zpq _ _ ?_;have HBS:=jH (heap_alloc_new w1 (.cells #[.iface 285 (.agg #[]),.iface 286 (.agg #[]),.iface 287 (.agg #[])] 261));have HG2:=jH (HG1.out.alloc (.cells #[.iface 285 (.agg #[]),.iface 286 (.agg #[]),.iface 287 (.agg #[])] 261));obtain ⟨bs,hbs⟩:∃ z,w1.heap.size=z:=⟨_,rfl⟩;rw [hbs] at HBS ⊢;generalize w1.alloc (.cells #[.iface 285 (.agg #[]),.iface 286 (.agg #[]),.iface 287 (.agg #[])] 261)=W2 at HBS HG2 ⊢;clear hbs;go_wp2_with fail
 go_loopw [23] (fun i wr=>∃ k:Nat,k≤3∧i=.int .i64 k∧Grow W2 wr∧∀ k':Nat,k'<k→SnglP p ts k' ⟨0,⟨0,0,0,0⟩⟩ false) (fun i _=>3 - (intOf i).toNat)
 case atStart=>exact ⟨0,Nat.zero_le _,rfl,Grow.refl _,fun k' h=>by omega⟩
 case round=>
  obtain ⟨k,hk,rfl,hg,hno⟩:=hrel;have HG:=jH (HG2.out.trans hg);have HGX:=jH hg;have HNO:=jH hno;obtain ⟨c0,c1,c2⟩:=box3 (hg.blk HBS.out);have hzb:=lt_of_block (hg.blk HBS.out);clear hg hno;have hk4:k=0∨k=1∨k=2∨k=3:=by omega
  rcases hk4 with rfl | rfl | rfl | rfl
  ·skip
   go_wp2_with fail;refine zic p ts (.iface 285 (.agg #[])) (candAt p 0) _ _ _ (HP.out.grow HG.out) (HT.out.grow HG.out) hp8 (HCL.out 0 (by decide)) (fun n W hn hW R' hR'=>cand0_at p _ n W HV.out hn hW R' hR') _ ?_ ?_
   ·intro hE w3 hg3;have hs:SnglP p ts ((0:Nat):Int) ⟨0,⟨0,0,0,0⟩⟩ false:=.inl ⟨rfl,rfl,.inr hE⟩;have HNO2:=jH (show ∀ k':Nat,k'<0+1→SnglP p ts k' ⟨0,⟨0,0,0,0⟩⟩ false from fun k' h=>by
     by_cases h2:k'<0
     ·exact HNO.out k' h2
     ·have:k'=0:=by omega
      subst this;exact hs)
    have HG3:=jH (HGX.out.trans hg3);clear hg3 hE hs;go_wp2_with fail;go_roundw
    case rel=>exact ⟨1,by omega,by go_num,HG3.out,HNO2.out⟩
    case measure=>simp [intOf]
   ·intro w3 v3 j ed hg3 hj hfm hv3 hn3;have hs:SnglP p ts ((0:Nat):Int) ed true:=.inr ⟨rfl,(zje (by decide)).trans HE.out,j,hj,hfm⟩
    have HFx:=jH (fun w4 (hg4:Grow w3 w4)=>HR.out w4 v3 [ed] ((0:Nat):Int) true (HG.out.trans (hg3.trans hg4)) (hv3.grow hg4) (hn3.mono HG.out.sz) (.inr ⟨HE.out,.inl ⟨0,by decide,rfl,rfl,HNO.out,ed,rfl,hs⟩⟩))
    clear hg3 hj hfm hv3 hn3 hs;have hm : ∀ w : World, (method 498 285 (.agg #[]) "tinker/seek.number").run Tryz.prog w = .ok (366, .agg #[]) w := fun _ => by kernel_rfl
    go_wp2_with fail;refine num0_any _ _ ?_;intro w4 hg4;have HF4:=jH (HFx.out w4 hg4);go_wp2_with fail;exact bodyPost_ret (by simp [results,Tryz.results169,go_sem]) rfl HF4.out
  ·skip
   go_wp2_with fail;refine zic p ts (.iface 286 (.agg #[])) (candAt p 1) _ _ _ (HP.out.grow HG.out) (HT.out.grow HG.out) hp8 (HCL.out 1 (by decide)) (fun n W hn hW R' hR'=>cand1_at p _ n W HV.out hn hW R' hR') _ ?_ ?_
   ·intro hE w3 hg3;have hs:SnglP p ts ((1:Nat):Int) ⟨0,⟨0,0,0,0⟩⟩ false:=.inl ⟨rfl,rfl,.inr hE⟩;have HNO2:=jH (show ∀ k':Nat,k'<1+1→SnglP p ts k' ⟨0,⟨0,0,0,0⟩⟩ false from fun k' h=>by
     by_cases h2:k'<1
     ·exact HNO.out k' h2
     ·have:k'=1:=by omega
      subst this;exact hs)
    have HG3:=jH (HGX.out.trans hg3);clear hg3 hE hs;go_wp2_with fail;go_roundw
    case rel=>exact ⟨2,by omega,by go_num,HG3.out,HNO2.out⟩
    case measure=>simp [intOf]
   ·intro w3 v3 j ed hg3 hj hfm hv3 hn3;have hs:SnglP p ts ((1:Nat):Int) ed true:=.inr ⟨rfl,(zje (by decide)).trans HE.out,j,hj,hfm⟩
    have HFx:=jH (fun w4 (hg4:Grow w3 w4)=>HR.out w4 v3 [ed] ((1:Nat):Int) true (HG.out.trans (hg3.trans hg4)) (hv3.grow hg4) (hn3.mono HG.out.sz) (.inr ⟨HE.out,.inl ⟨1,by decide,rfl,rfl,HNO.out,ed,rfl,hs⟩⟩))
    clear hg3 hj hfm hv3 hn3 hs;have hm : ∀ w : World, (method 498 286 (.agg #[]) "tinker/seek.number").run Tryz.prog w = .ok (367, .agg #[]) w := fun _ => by kernel_rfl
    go_wp2_with fail;refine num1_any _ _ ?_;intro w4 hg4;have HF4:=jH (HFx.out w4 hg4);go_wp2_with fail;exact bodyPost_ret (by simp [results,Tryz.results169,go_sem]) rfl HF4.out
  ·skip
   go_wp2_with fail;refine zic p ts (.iface 287 (.agg #[])) (candAt p 2) _ _ _ (HP.out.grow HG.out) (HT.out.grow HG.out) hp8 (HCL.out 2 (by decide)) (fun n W hn hW R' hR'=>cand2_at p _ n W HV.out hn hW R' hR') _ ?_ ?_
   ·intro hE w3 hg3;have hs:SnglP p ts ((2:Nat):Int) ⟨0,⟨0,0,0,0⟩⟩ false:=.inl ⟨rfl,rfl,.inr hE⟩;have HNO2:=jH (show ∀ k':Nat,k'<2+1→SnglP p ts k' ⟨0,⟨0,0,0,0⟩⟩ false from fun k' h=>by
     by_cases h2:k'<2
     ·exact HNO.out k' h2
     ·have:k'=2:=by omega
      subst this;exact hs)
    have HG3:=jH (HGX.out.trans hg3);clear hg3 hE hs;go_wp2_with fail;go_roundw
    case rel=>exact ⟨3,by omega,by go_num,HG3.out,HNO2.out⟩
    case measure=>simp [intOf]
   ·intro w3 v3 j ed hg3 hj hfm hv3 hn3;have hs:SnglP p ts ((2:Nat):Int) ed true:=.inr ⟨rfl,(zje (by decide)).trans HE.out,j,hj,hfm⟩
    have HFx:=jH (fun w4 (hg4:Grow w3 w4)=>HR.out w4 v3 [ed] ((2:Nat):Int) true (HG.out.trans (hg3.trans hg4)) (hv3.grow hg4) (hn3.mono HG.out.sz) (.inr ⟨HE.out,.inl ⟨2,by decide,rfl,rfl,HNO.out,ed,rfl,hs⟩⟩))
    clear hg3 hj hfm hv3 hn3 hs;have hm : ∀ w : World, (method 498 287 (.agg #[]) "tinker/seek.number").run Tryz.prog w = .ok (368, .agg #[]) w := fun _ => by kernel_rfl
    go_wp2_with fail;refine num2_any _ _ ?_;intro w4 hg4;have HF4:=jH (HFx.out w4 hg4);go_wp2_with fail;exact bodyPost_ret (by simp [results,Tryz.results169,go_sem]) rfl HF4.out
  ·skip
   go_wp2_with fail;refine zvu p ts _ _ _ (HP.out.grow HG.out) (HT.out.grow HG.out) HV.out _ ?_ ?_
   ·intro h0 w2 hg2;have HF:=jH (HR.out w2 (.slice none 0 0) [] 0 false (HG.out.trans hg2) (SlcAt.nil _ _ _) (NewS.nil _ _ _) (.inr ⟨HE.out,.inr ⟨HNO.out,.inl ⟨rfl,rfl,.inr h0⟩,rfl⟩⟩));clear hg2 h0;go_wp2_with fail;exact bodyPost_ret (by simp [results,Tryz.results169,go_sem]) rfl HF.out
   ·intro w2 v j x hg2 hj hfm hv2 hn2;have HF:=jH (HR.out w2 v x 3 true (HG.out.trans hg2) hv2 (hn2.mono HG.out.sz) (.inr ⟨HE.out,.inr ⟨HNO.out,.inr ⟨rfl,HE.out,j,hj,hfm⟩,rfl⟩⟩));clear hg2 hj hfm hv2 hn2;go_wp2_with fail;exact bodyPost_ret (by simp [results,Tryz.results169,go_sem]) rfl HF.out
theorem zzt {p:List Ln} {ts:List Tst} {C:Nat→List Ln} {k n:Nat} {x:Ln} (hn:n<k) (hx:x∈C n) (hf:fixB p ts n x=true):(⟨(n:Int),x⟩:Ed)∈everyN p ts C k:=by
 unfold everyN fixE;exact List.mem_flatMap.2 ⟨n,List.mem_range.2 hn,List.mem_map.2 ⟨x,List.mem_filter.2 ⟨hx,hf⟩,rfl⟩⟩
theorem zvi {p:List Ln} {ts:List Tst} {C:Nat→List Ln} {k:Nat} {e:Ed} (h:e∈everyN p ts C k):chkX p [e] ts=0∧goodM p [e] ts=true:=by
 unfold everyN fixE at h;obtain ⟨n,hn,he⟩:=List.mem_flatMap.1 h;obtain ⟨x,hx,rfl⟩:=List.mem_map.1 he;obtain ⟨_,h2⟩:=List.mem_filter.1 hx;unfold fixB at h2;rw [Bool.and_eq_true,decide_eq_true_eq] at h2;exact h2
theorem zwx (p:List Ln) (ts:List Tst):goodM p [] ts=allPass p ts:=by
 unfold goodM allPass;have:doM p []=p:=by
  unfold doM
  apply List.ext_getElem
  ·simp
  ·intro i h1 h2;simp
 rw [this]
theorem zse {p:List Ln} {ts:List Tst} {x:List Ed} {n:Int} (h:RepP p ts x n true):chkX p x ts=0∧goodM p x ts=true∧(∀ t∈partsN x,t.length<x.length→goodM p t ts=false)∧0≤n∧n≤3∧(x.length=1∨(n=3∧x.length=2)):=by
 rcases h with ⟨_,_,_,h⟩ | ⟨hs,h⟩
 ·cases h
 ·obtain ⟨⟨hv,hvt⟩,_,hap⟩:=znd.1 hs;have h0:goodM p [] ts=false:=by rw [zwx];exact hap
  rcases h with ⟨k,hk,rfl,_,_,e,rfl,hsn⟩ | ⟨hno,hd,rfl⟩
  ·rcases hsn with ⟨h,_⟩ | ⟨_,_,j,hj,_⟩
   ·cases h
   ·obtain ⟨g1,g2⟩:=zvi (List.mem_of_getElem? hj);refine ⟨g1,g2,fun t ht hl=>?_,by omega,by omega,.inl rfl⟩
    rw [zzg] at ht;simp at ht;rcases ht with rfl | rfl
    ·exact h0
    ·simp at hl
  ·rcases hd with ⟨h,_⟩ | ⟨_,_,j,hj,_⟩
   ·cases h
   ·obtain ⟨a,b,ha,hb,rfl,hd⟩:=zmc (List.mem_of_getElem? hj);unfold dblB at hd;rw [Bool.and_eq_true,Bool.and_eq_true,decide_eq_true_eq,decide_eq_true_eq] at hd;have hone:∀ e∈mutM p p.length,goodM p [e] ts=false:=by
     intro e he;obtain ⟨q,y,hq,rfl,hy⟩:=zrx.1 he;cases hg:goodM p [⟨(q:Int),y⟩] ts with
     | false=>rfl
     | true=>
      have hc:=znv (ts:=ts) (at_:=(q:Int)) hv hvt (by omega) (by omega) (zqx hy)
      have hm:(⟨(q:Int),y⟩:Ed)∈everyN p ts (candAt p ((0:Nat):Int)) p.length:=zzt hq (show y∈candL p (lineAt p q) 0 from hy) (by unfold fixB;rw [hc,hg];rfl)
      rcases hno 0 (by decide) with ⟨_,_,h5 | h5⟩ | ⟨h5,_⟩
      ·exact absurd hs h5
      ·rw [h5] at hm;cases hm
      ·cases h5
    refine ⟨hd.2.1,hd.2.2,fun t ht hl=>?_,by decide,by decide,.inr ⟨rfl,rfl⟩⟩
    rw [zzr] at ht;simp at ht;rcases ht with rfl | rfl | rfl | rfl
    ·exact h0
    ·exact hone a ha
    ·exact hone b hb
    ·simp at hl
set_option maxHeartbeats 2000000
theorem Do_any (p:List Ln) (x:List Ed) (pv xv:Value) (w:World) (hp:LinesAt w pv p) (hx:EditsAt w xv x) (R:Ending→World→Prop)
  (hR:∀ w' v,Grow w w'→NewS w.heap.size v→LinesAt w' v (if chkX p x []=0 then doM p x else [])→R (.returned (.tuple #[v,.int .i64 (chkX p x [])])) w') :
  Calls Tryz.prog 60 #[pv,xv] w R:=by
 have HP:=jH hp;have HX:=jH hx;have HR:=jH hR;obtain ⟨e,he⟩:∃ e,chkX p x []=e:=⟨_,rfl⟩;have hok:=fun h:e=0=>zdn.1 (he.trans h);rw [he] at HR;have HE:=jH he;obtain ⟨pa,pc,rfl,p1,p2,jk1⟩:=hp;obtain ⟨xa,xc,rfl,x1,x2,jk2⟩:=hx;clear hR he jk1 jk2;by_cases h0:e=0;rotate_left
 ·rw [if_neg h0] at HR;have t1:(e != 0)=true:=by simpa using h0
  clear hok h0
  go_enter func60,ntmps60
  go_wp2_with fail;refine zdd p x [] _ _ _ _ HP.out HX.out (TestsAt.nil _) _ ?_;intro w1 hg1;rw [HE.out];have HF:=jH (HR.out w1 (.slice none 0 0) hg1 (NewS.nil _ _ _) (SlcAt.nil _ _ _));clear hg1;go_wp2_with fail;exact HF.out
 obtain ⟨hv,hvx,_,hoff⟩:=hok h0;subst h0;rw [if_pos rfl] at HR;have hp8:=(zba.1 hv).1;have hx4:=(zdm.1 hvx).1;have HOK:=jH (zdm.1 hvx).2;have HOFF:=jH hoff;clear hok hv hvx hoff
 go_enter func60,ntmps60
 go_wp2_with fail;refine zdd p x [] _ _ _ _ HP.out HX.out (TestsAt.nil _) _ ?_;intro w1 hg1;rw [HE.out];have HG1:=jH hg1;clear hg1;go_wp2_with fail;refine do_any p x _ _ _ (HP.out.grow HG1.out) (HX.out.grow HG1.out) hp8 HOK.out hx4 HOFF.out _ ?_;intro w2 v2 hg2 hn2 hv2;have HF:=jH (HR.out w2 v2 (HG1.out.trans hg2) (hn2.mono HG1.out.sz) hv2);clear hg2 hn2 hv2;go_wp2_with fail;exact HF.out
set_option maxRecDepth 100000
set_option maxHeartbeats 16000000
theorem zjw (op d a b:Int) (w:World) (hok:vL op d a b=true) (R:Ending→World→Prop)
  (hR:∀ w' v,Grow w w'→Own 4 encL w.heap.size w' v (tmpl ⟨op,d,a,b⟩)→R (.returned v) w') :
  Calls Tryz.prog 213 #[.agg #[.int .i64 op,.int .i64 d,.int .i64 a,.int .i64 b]] w R:=by
 rw [zkh (show (⟨op,d,a,b⟩:Ln).ok=true from hok)] at hR;have HR:=jH hR;have HOK:=jH hok;obtain ⟨F,hF⟩:∃ F,(fun x=>rnearB ⟨op,d,a,b⟩ x)=F:=⟨_,rfl⟩;rw [hF] at HR;have HFF:=jH hF;obtain ⟨N,hN⟩:∃ N,allR.length=N:=⟨_,rfl⟩;have HN:=jH hN;have hNb:N≤1000:=by rw [← hN];decide +kernel
 clear hR hok hF hN
 go_enter func213,ntmps213
 go_wp2_with fail;have hb:=heap_alloc_new w (.cells #[.int .i64 op,.int .i64 d,.int .i64 a,.int .i64 b] 57);have hg:=(Grow.refl w).alloc (.cells #[.int .i64 op,.int .i64 d,.int .i64 a,.int .i64 b] 57);generalize w.alloc (.cells #[.int .i64 op,.int .i64 d,.int .i64 a,.int .i64 b] 57)=W at hb hg ⊢;refine zjf _ _ ?_;intro w1 x1 hg1 hx1;have HX1:=jH hx1;obtain ⟨aA,cA,rfl,q1,q2,_⟩:=hx1;have HB:=jH (hg1.blk hb);have HG1:=jH (hg.trans hg1);have hz1:=(hg.trans hg1).sz;rw [HN.out] at q1 ⊢;clear hg1 hb hg;go_wp2_with fail
 go_loopw [4,5] (fun out i wr=>∃ k:Nat,k≤N∧i=.int .i64 k∧Grow w1 wr∧wr.ownsRow w1.heap.size 57 4 out ((allR.take k).filter F).length (((allR.take k).filter F).flatMap encL)) (fun _ i _=>N - (intOf i).toNat)
 case atStart=>exact ⟨0,Nat.zero_le _,rfl,Grow.refl _,World.ownsRow_nil _ _ _ _⟩
 case round=>
  obtain ⟨k,hk,rfl,hg,how⟩:=hrel;have HG:=jH hg;have HOW:=jH how;have hzw:=hg.sz;clear hg how;by_cases hlt:k<N
  ·obtain ⟨⟨op2,d2,a2,b2⟩,hx⟩:∃ x,allR[k]?=some x:=⟨_,List.getElem?_eq_getElem (by rw [HN.out];exact hlt)⟩
   have hx1':=HX1.out.grow HG.out;rw [HN.out] at hx1';obtain ⟨gA,oA,rfl,hgA,f0,f1,f2,f3⟩:=zbr hx1' hx;obtain ⟨e0,e1,e2,e3⟩:=box4 (HG.out.blk HB.out);have hzb:=lt_of_block (HG.out.blk HB.out);have hlt2:(k:Int)<(N:Int):=by omega
   have HS:=jH (zap (F:=F) hx);have HLB:=jH (show ((allR.take k).filter F).length<100000000000 by have:=zcy F allR k;have:=HN.out;omega)
   have HOK2:=jH (zey.1 (List.mem_of_getElem? hx));obtain ⟨c,hc⟩:∃ c,rnearB ⟨op,d,a,b⟩ ⟨op2,d2,a2,b2⟩=c:=⟨_,rfl⟩;have HF:=jH (show F ⟨op2,d2,a2,b2⟩=c by rw [← HFF.out];exact hc)
   have HCB:=jH hc;clear hx hx1' hc;go_wp2_with fail
   go_region_held3 (fun X=>X.cell? ⟨w.heap.size,0,none⟩=some (.int .i64 op)∧X.cell? ⟨w.heap.size,1,none⟩=some (.int .i64 d)∧X.cell? ⟨w.heap.size,2,none⟩=some (.int .i64 a)∧X.cell? ⟨w.heap.size,3,none⟩=some (.int .i64 b)∧X.cell? ⟨gA,oA+k * 4,none⟩=some (.int .i64 op2)∧X.cell? ⟨gA,oA+k * 4+1,none⟩=some (.int .i64 d2)∧X.cell? ⟨gA,oA+k * 4+2,none⟩=some (.int .i64 a2)∧X.cell? ⟨gA,oA+k * 4+3,none⟩=some (.int .i64 b2)∧Grow wr X)
    (first | exact ⟨e0,e1,e2,e3,f0,f1,f2,f3,(Grow.refl wr).drew⟩ | exact ⟨e0,e1,e2,e3,f0,f1,f2,f3,Grow.refl wr⟩ | exact keep8 hg8 (by assumption))
    (first | (go_at_call 245;refine zod op d a b op2 d2 a2 b2 _ HOK.out HOK2.out _ ?_;intro w8 hg8;rw [HCB.out]))
   rename_i hS
   obtain ⟨_,_,_,_,y0,y1,y2,y3,hgr⟩:=hS;have HG8:=jH hgr;have hgA8:gA<w8.heap.size:=Nat.lt_of_lt_of_le hgA hgr.sz;clear hgr hg8 e0 e1 e2 e3 f0 f1 f2 f3;cases c with
   | false=>
    go_wp2_with fail;go_roundw
    case rel=>exact ⟨k+1,by omega,by go_num,HG.out.trans HG8.out,by rw [HS.out,HF.out,if_neg (by decide),List.append_nil];exact HG8.out.owns HOW.out⟩
    case measure=>simp [intOf];omega
   | true=>
    go_wp2_with (at_builtin;refine zad _ rfl (.tmp 19) (.tmp 24) 22 rfl w1.heap.size 57 underlying22 zar rfl (by decide) (by decide) encL zab zaj _ ((allR.take k).filter F) rfl ((HG8.out.alloc _).owns HOW.out) _ (⟨op2,d2,a2,b2⟩:Ln) 1 rfl (zan _ _ (by simp) (encL ⟨op2,d2,a2,b2⟩) _) HLB.out (by have:=HG.out.sz;have:=HG8.out.sz;simp;omega) ?_;intro out2 w3 hown2 hgr2)
    have HG3:=jH (show Grow w1 w3 from zae HOW.out hgr2 (Nat.le_refl _) (by have:=HG.out.sz;have:=HG8.out.sz;simp;omega) (HG.out.trans (HG8.out.alloc _)))
    have HO2:=jH hown2;clear hown2 hgr2;go_roundw
    case rel=>exact ⟨k+1,by omega,by go_num,HG3.out,by rw [HS.out,HF.out,if_pos rfl];exact HO2.out⟩
    case measure=>simp [intOf];omega
  ·have hkn:k=allR.length:=by rw [HN.out];omega
   have HO2:=HOW.out;rw [hkn,List.take_length] at HO2;have HF:=jH (HR.out _ _ (HG1.out.trans HG.out) ⟨_,zbu HO2 hz1⟩);clear HO2 hkn;go_wp2_with fail;exact HF.out
set_option maxRecDepth 100000
set_option maxHeartbeats 32000000
theorem info_sll:(Tryz.prog.info? 22).map (fun i=>(i.zero,i.size,i.bytes))=some (some (.slice none 0 0),1,24):=by kernel_rfl
def EdN (b:Nat) (w:World) (v:Value) (e:List Ed):Prop:=EditsAt w v e∧NewS b v
theorem EdN.grow {b:Nat} {w w':World} {v:Value} {e:List Ed} (h:EdN b w v e) (g:Grow w w'):EdN b w' v e:=⟨SlcAt.grow h.1 g,h.2⟩
def DI (p:List Ln) (w4:World) (PL:List (List Ed)) (wr:World) (ov lv:Value) (rest:List (List Ed)):Prop:=
 ∃ (G:List (List Ed)) (e:List Ed) (m:Int),lv=.int .i64 m∧Grow w4 wr∧EdN w4.heap.size wr ov e∧BestG (sizeE p) [] G e m∧G++rest=PL
theorem zov (p:List Ln) (ts:List Tst) (pv tv:Value) (w:World) (hp:LinesAt w pv p) (ht:TestsAt w tv ts) (hval:valP p=0) (htv:valT ts=0) (R:Ending→World→Prop)
  (hR:∀ w' v e m,Grow w w'→EdN w.heap.size w' v e→BestG (sizeE p) [] (pairsL p ts (mutM p p.length)) e m→R (.returned (.tuple #[v,.bool (decide (0≤m))])) w') :
  Calls Tryz.prog 174 #[pv,tv] w R:=by
 have HP:=jH hp;have HT:=jH ht;have HV:=jH hval;have HVT:=jH htv;have hp8:=(zba.1 hval).1;have HALL:=jH (zba.1 hval).2;obtain ⟨PL,hPL⟩:∃ L,pairsL p ts (mutM p p.length)=L:=⟨_,rfl⟩;rw [hPL] at hR;have HPL:=jH hPL;have HR:=jH hR;obtain ⟨pa,pc,rfl,r1,r2,jk1⟩:=hp;obtain ⟨⟨ta,tc,rfl,jk2⟩,jk3⟩:=ht;clear hR hval htv hPL jk1 jk2 jk3
 go_enter func174,ntmps174
 go_wp2_with fail
 go_loopw [6,7] (fun out i wr=>∃ (k:Nat) (L:List (Lo Ln)),k≤p.length∧i=.int .i64 k∧Grow w wr∧LoOwn w.heap.size 22 4 encL wr out L∧L.map Lo.x=(List.range k).map fun n:Nat=>tmpl (lineAt p n)) (fun _ i _=>p.length - (intOf i).toNat)
 case atStart=>exact ⟨0,[],Nat.zero_le _,rfl,Grow.refl _,LoOwn.nil _ _ _ _ _,rfl⟩
 case round=>
  obtain ⟨k,L,hk,rfl,hg,how,hLx⟩:=hrel;have HG:=jH hg;have HOW:=jH how;have HLX:=jH hLx;have hzw:=hg.sz;have hLk:L.length=k:=by have:=congrArg List.length hLx;simpa using this
  clear hg how hLx;by_cases hlt:k<p.length
  ·obtain ⟨⟨op,d,a,b⟩,hx⟩:∃ x,p[k]?=some x:=⟨_,List.getElem?_eq_getElem hlt⟩;obtain ⟨gp,o,rfl,hgp,y0,y1,y2,y3⟩:=zbr (HP.out.grow HG.out) hx;have hlt2:(k:Int)<(p.length:Int):=by omega
   have hla:lineAt p (k:Int)=⟨op,d,a,b⟩:=by unfold lineAt;rw [show ((k:Int)).toNat=k by omega,hx];rfl
   have HOKL:=jH (show vL op d a b=true from HALL.out _ (List.mem_of_getElem? hx));obtain ⟨Q,hQ⟩:∃ L,tmpl ⟨op,d,a,b⟩=L:=⟨_,rfl⟩;have HQ:=jH hQ;have HLN:=jH (show (List.range (k+1)).map (fun n:Nat=>tmpl (lineAt p n))=(List.range k).map (fun n:Nat=>tmpl (lineAt p n))++[Q] by rw [List.range_succ,List.map_append,List.map_cons,hla,hQ];rfl)
   have HLE:=jH (show L.length<100000000000 by omega)
   clear hx hla hQ hLk;go_wp2_with fail;refine zjw op d a b _ HOKL.out _ ?_;intro w1 v1 hg1 hv1;rw [HQ.out] at hv1;have HX1:=jH (hv1.slc zab);obtain ⟨a1,c1,rfl,q1,q2,jk5⟩:=hv1.slc zab;have HB1:=jH (HOW.out.new hv1);have HG1:=jH (HG.out.trans hg1);have HO1:=jH (HOW.out.grow hg1);have hz1:=(HG.out.trans hg1).sz;clear hg1 hv1 y0 y1 y2 y3 HOW jk5;go_wp2_with (at_builtin;refine zdj _ rfl (.tmp 23) (.tmp 29) 41 rfl w.heap.size 22 underlying41 info_sll rfl (by decide) (by decide) encLo zaz zce _ L rfl (((Grow.refl w1).alloc _).owns HO1.out.row) _ (⟨a1,Q.length,c1,Q⟩:Lo Ln) 1 rfl (newsG _ _ (by simp) (encLo (⟨a1,Q.length,c1,Q⟩:Lo Ln)) _) HLE.out (by simp;omega) ?_;intro out2 w5 hown5 hgr5 hat5)
   have HG5:=jH (show Grow w w5 from zae HO1.out.row hgr5 (Nat.le_refl _) (by simp;omega) (HG1.out.alloc _))
   have HO5:=jH ((HO1.out.grow ((Grow.refl w1).alloc _)).app (t:=⟨a1,Q.length,c1,Q⟩) hgr5 hown5 hat5 (HX1.out.grow ((Grow.refl w1).alloc _)) fun b o s hb=>⟨(HB1.out b o s hb).1,Nat.lt_of_lt_of_le (HB1.out b o s hb).2 ((Grow.refl w1).alloc _).sz⟩);clear hown5 hgr5 hat5;go_roundw
   case rel=>exact ⟨k+1,L++[⟨a1,Q.length,c1,Q⟩],by omega,by go_num,HG5.out,HO5.out,by rw [HLN.out,List.map_append,HLX.out];rfl⟩
   case measure=>simp [intOf];omega
  ·have hkn:k=p.length:=by omega
   subst hkn;have HN:=jH HOW.out.at_;have HIN:=jH (fun (n:Nat) (t:Lo Ln) (h:L[n]?=some t)=>show t.x=tmpl (lineAt p n)∧LinesAt wr t.v t.x from by
    refine ⟨?_,HOW.out.ins t (List.mem_of_getElem? h)⟩;have h1:=congrArg (fun l=>l[n]?) HLX.out;simp only [List.getElem?_map,h] at h1;have hn:n<p.length:=by have:=(List.getElem?_eq_some_iff.1 h).1;omega
    rw [List.getElem?_range hn] at h1;exact Option.some.inj h1)
   obtain ⟨na,nc,rfl,n1,n2,jk6⟩:=HOW.out.at_;have hlt3:¬ (p.length:Int)<(p.length:Int):=by omega
   clear jk6 hk hlt HOW HLX;go_wp2_with fail;obtain ⟨w4,rfl⟩:∃ z:World,z=wr:=⟨_,rfl⟩
   go_loopw [8,9,10] (fun ov lv i wr=>∃ i':Nat,i'≤p.length∧i=.int .i64 i'∧DI p w4 PL wr ov lv (pairsL p ts (tailM p i' (p.length - i')))) (fun _ _ i _=>p.length - (intOf i).toNat)
   case atStart=>exact ⟨0,Nat.zero_le _,rfl,[],[],-1,rfl,Grow.refl _,⟨SlcAt.nil _ _ _,fun b m c e=>by cases e⟩,BestG.start _ _,by rw [Nat.sub_zero,zyc];exact HPL.out⟩
   case round=>
    obtain ⟨i,hi,rfl,G,e,m,rfl,hg,he,hbe,hrest⟩:=hrel;have HG0:=jH hg;have HE:=jH he;have HBE:=jH hbe;have HRS:=jH hrest;clear hg he hbe hrest;by_cases hlti:i<p.length
    ·have hlti2:(i:Int)<(p.length:Int):=by omega
     obtain ⟨⟨op,d,a,b⟩,hl⟩:∃ l,p[i]?=some l:=⟨_,List.getElem?_eq_getElem hlti⟩;have hla:lineAt p (i:Int)=⟨op,d,a,b⟩:=by unfold lineAt;rw [show ((i:Int)).toNat=i by omega,hl];rfl
     obtain ⟨t,ht⟩:∃ t,L[i]?=some t:=⟨_,List.getElem?_eq_getElem (by omega)⟩
     obtain ⟨htx,hti⟩:=HIN.out i t ht;obtain ⟨gN,oN,rfl,hgN,n0⟩:=lo_at HN.out ht;obtain ⟨gp,o,rfl,hgp,_,_,_,_⟩:=zbr HP.out hl;have hti2:=hti;obtain ⟨ta1,tn,tc1,X⟩:=t;obtain ⟨_,_,e',x1,x2,jk7⟩:=hti2;dsimp only at e' htx n0 hti;cases e';have HTX:=jH htx;have HL:=jH hl;have HLA:=jH hla;have HXA:=jH hti;have hta:=zrd hlti;obtain ⟨TT,hTT⟩:∃ z,tailM p (i+1) (p.length - (i+1))=z:=⟨_,rfl⟩;rw [hTT] at hta;have HTT:=jH hTT;have HN0:=jH n0;have HRS2:=jH (show G++pairsL p ts ((nearX p i).drop 0++TT)=PL by rw [List.drop_zero,← hta];exact HRS.out)
     clear hta hTT htx hl hla hti ht jk7 n0 HRS;go_wp2_with fail;obtain ⟨wo,hwo⟩:∃ z:World,z=wr:=⟨_,rfl⟩;clear hwo
     go_loopw [8,9,11] (fun ov lv q wr=>∃ a':Nat,a'≤X.length∧q=.int .i64 a'∧DI p w4 PL wr ov lv (pairsL p ts ((nearX p i).drop a'++TT))) (fun _ _ q _=>X.length - (intOf q).toNat)
     case atStart=>exact ⟨0,Nat.zero_le _,rfl,G,e,m,rfl,HG0.out,HE.out,HBE.out,HRS2.out⟩
     case round=>
      obtain ⟨a',ha',rfl,G,e,m,rfl,hg,he,hbe,hrest⟩:=hrel;clear HG0 HE HBE HRS2;have HG0:=jH hg;have HE:=jH he;have HBE:=jH hbe;have HRS:=jH hrest;have hgNr:gN<wr.heap.size:=Nat.lt_of_lt_of_le hgN hg.sz;have nn:=hg.cell HN0.out;clear hg he hbe hrest;by_cases hax:a'<X.length
      ·have hax2:(a':Int)<(X.length:Int):=by omega
       obtain ⟨⟨op1,d1,a1,b1⟩,hx⟩:∃ x,X[a']?=some x:=⟨_,List.getElem?_eq_getElem hax⟩;have HXT:=jH (show (tmpl (lineAt p i))[a']?=some (⟨op1,d1,a1,b1⟩:Ln) by rw [← HTX.out];exact hx)
       have HXOK:=jH (zqx (List.mem_of_getElem? HXT.out));have hrc:=restC (ts:=ts) (T:=TT) HXT.out;obtain ⟨RC,hRC⟩:∃ z,pairsL p ts ((nearX p i).drop (a'+1)++TT)=z:=⟨_,rfl⟩;rw [hRC] at hrc;have HRC:=jH hRC;have HRS2:=jH (show G++(pairX p ts ⟨i,⟨op1,d1,a1,b1⟩⟩ (tailM p (i+1) (p.length - (i+1)))++RC)=PL by rw [HTT.out,← hrc];exact HRS.out)
       obtain ⟨s1,hs1⟩:∃ s,fieldsN ⟨op,d,a,b⟩ ⟨op1,d1,a1,b1⟩=s:=⟨_,rfl⟩;have hs1b:=zdu ⟨op,d,a,b⟩ ⟨op1,d1,a1,b1⟩;rw [hs1] at hs1b;have HS1:=jH hs1;obtain ⟨g1,o1,e1',hg1,e0,e1,e2,e3⟩:=zbr (HP.out.grow (HG.out.trans HG0.out)) HL.out;cases e1';obtain ⟨gA,oA,rfl,hgA,f0,f1,f2,f3⟩:=zbr (HXA.out.grow HG0.out) hx;have HXX:=jH hx;clear hx hrc hRC hs1 HRS;go_wp2_with fail
       go_region_held3 (fun Z=>Z.cell? ⟨gp,o+i * 4,none⟩=some (.int .i64 op)∧Z.cell? ⟨gp,o+i * 4+1,none⟩=some (.int .i64 d)∧Z.cell? ⟨gp,o+i * 4+2,none⟩=some (.int .i64 a)∧Z.cell? ⟨gp,o+i * 4+3,none⟩=some (.int .i64 b)∧Z.cell? ⟨gN,oN+i,none⟩=some (.slice (some ⟨gA,oA,none⟩) X.length tc1)∧Z.cell? ⟨gA,oA+a' * 4,none⟩=some (.int .i64 op1)∧Z.cell? ⟨gA,oA+a' * 4+1,none⟩=some (.int .i64 d1)∧Z.cell? ⟨gA,oA+a' * 4+2,none⟩=some (.int .i64 a1)∧Z.cell? ⟨gA,oA+a' * 4+3,none⟩=some (.int .i64 b1)∧Grow wr Z)
        (first | exact ⟨e0,e1,e2,e3,nn,f0,f1,f2,f3,(Grow.refl wr).drew⟩ | exact ⟨e0,e1,e2,e3,nn,f0,f1,f2,f3,Grow.refl wr⟩ | exact keep9 hg8 (by assumption))
        (first | (go_at_call 211;refine zag op d a b op1 d1 a1 b1 _ _ ?_;intro w8 hg8;rw [HS1.out]))
       rename_i hS
       have hgr:Grow wr w8:=hS.2.2.2.2.2.2.2.2.2;have HG8:=jH (HG0.out.trans hgr);have HE8:=jH (HE.out.grow hgr);clear hS hgr hg8 e0 e1 e2 e3 nn f0 f1 f2 f3 HG0 HE;go_wp2_with fail;obtain ⟨wo,hwo⟩:∃ z:World,z=w8:=⟨_,rfl⟩
       go_loopw [8,9,13] (fun ov lv q wr=>∃ k:Nat,i+1≤k∧k≤p.length∧q=.int .i64 k∧DI p w4 PL wr ov lv (pairX p ts ⟨i,⟨op1,d1,a1,b1⟩⟩ (tailM p k (p.length - k))++RC)) (fun _ _ q _=>p.length - (intOf q).toNat)
       case atStart=>exact ⟨i+1,Nat.le_refl _,by omega,by go_num,G,e,m,rfl,HG8.out,HE8.out,HBE.out,HRS2.out⟩
       case round=>
        obtain ⟨k,hk1,hk2,rfl,G,e,m,rfl,hg,he,hbe,hrest⟩:=hrel;clear HG8 HE8 HBE HRS2 hwo;have HG0:=jH hg;have HE:=jH he;have HBE:=jH hbe;have HRS:=jH hrest;clear hg he hbe hrest;by_cases hkp:k<p.length
        ·have hkp2:(k:Int)<(p.length:Int):=by omega
         obtain ⟨⟨op2,d2,a2,b2⟩,hl2⟩:∃ l,p[k]?=some l:=⟨_,List.getElem?_eq_getElem hkp⟩;have hla2:lineAt p (k:Int)=⟨op2,d2,a2,b2⟩:=by unfold lineAt;rw [show ((k:Int)).toNat=k by omega,hl2];rfl
         obtain ⟨t2,ht2⟩:∃ t,L[k]?=some t:=⟨_,List.getElem?_eq_getElem (by omega)⟩
         obtain ⟨hty,hti⟩:=HIN.out k t2 ht2;obtain ⟨_,_,e1',_,n2⟩:=lo_at HN.out ht2;cases e1';have hti2:=hti;obtain ⟨ta2,tn2,tc2,Y⟩:=t2;obtain ⟨_,_,e',y1,y2,jk7⟩:=hti2;dsimp only at e' hty n2 hti;cases e';have HTY:=jH hty;have HL2:=jH hl2;have HLA2:=jH hla2;have HYA:=jH hti;have hta:=zrd hkp;obtain ⟨TK,hTK⟩:∃ z,tailM p (k+1) (p.length - (k+1))=z:=⟨_,rfl⟩;rw [hTK] at hta;have HTK:=jH hTK;have HN2:=jH n2;have HRS2:=jH (show G++(pairX p ts ⟨i,⟨op1,d1,a1,b1⟩⟩ ((nearX p k).drop 0++TK)++RC)=PL by rw [List.drop_zero,← hta];exact HRS.out)
         clear hta hTK hty hl2 hla2 hti ht2 jk7 n2 HRS;go_wp2_with fail;obtain ⟨wo,hwo⟩:∃ z:World,z=wr:=⟨_,rfl⟩;clear hwo
         go_loopw [8,9,14] (fun ov lv q wr=>∃ b':Nat,b'≤Y.length∧q=.int .i64 b'∧DI p w4 PL wr ov lv (pairX p ts ⟨i,⟨op1,d1,a1,b1⟩⟩ ((nearX p k).drop b'++TK)++RC)) (fun _ _ q _=>Y.length - (intOf q).toNat)
         case atStart=>exact ⟨0,Nat.zero_le _,rfl,G,e,m,rfl,HG0.out,HE.out,HBE.out,HRS2.out⟩
         case round=>
          obtain ⟨b',hb',rfl,G,e,m,rfl,hg,he,hbe,hrest⟩:=hrel;clear HG0 HE HBE HRS2;have HG0:=jH hg;have HE:=jH he;have HBE:=jH hbe;have HRS:=jH hrest;have hgNr:gN<wr.heap.size:=Nat.lt_of_lt_of_le hgN hg.sz;have nn:=hg.cell HN2.out;clear hg he hbe hrest;by_cases hby:b'<Y.length
          ·have hby2:(b':Int)<(Y.length:Int):=by omega
           obtain ⟨⟨op3,d3,a3,b3⟩,hy⟩:∃ x,Y[b']?=some x:=⟨_,List.getElem?_eq_getElem hby⟩;have HYT:=jH (show (tmpl (lineAt p k))[b']?=some (⟨op3,d3,a3,b3⟩:Ln) by rw [← HTY.out];exact hy)
           have HYOK:=jH (zqx (List.mem_of_getElem? HYT.out));have hre:=restE (ts:=ts) (x:=⟨(i:Int),⟨op1,d1,a1,b1⟩⟩) (T:=TK) HYT.out;obtain ⟨f,hf⟩:∃ f,dblB p ts ⟨(i:Int),⟨op1,d1,a1,b1⟩⟩ ⟨(k:Int),⟨op3,d3,a3,b3⟩⟩=f:=⟨_,rfl⟩;rw [hf] at hre;have hrs:=HRS.out;rw [hre,List.append_assoc,← List.append_assoc] at hrs;have HRS2:=jH hrs;have hgp3:=dblB_eq (p:=p) (ts:=ts) (a:=i) (b:=k) (x:=⟨op1,d1,a1,b1⟩) (y:=⟨op3,d3,a3,b3⟩) HV.out HVT.out (by omega) (by omega) (by omega) HXOK.out HYOK.out
           rw [hf] at hgp3;have HF:=jH (show ts.all (passM (setAll p [⟨(i:Int),⟨op1,d1,a1,b1⟩⟩,⟨(k:Int),⟨op3,d3,a3,b3⟩⟩]))=f from hgp3.symm);have HSV:=jH (dblP_ok (p:=p) (a:=i) (b:=k) (x:=⟨op1,d1,a1,b1⟩) (y:=⟨op3,d3,a3,b3⟩) HV.out (by omega) (by omega) (by omega) HXOK.out HYOK.out)
           obtain ⟨s2,hs2⟩:∃ s,fieldsN ⟨op2,d2,a2,b2⟩ ⟨op3,d3,a3,b3⟩=s:=⟨_,rfl⟩;have hs2b:=zdu ⟨op2,d2,a2,b2⟩ ⟨op3,d3,a3,b3⟩;rw [hs2] at hs2b;have HS2:=jH hs2;have hsz:=zzz (p:=p) (a:=i) (b:=k) (x:=⟨op1,d1,a1,b1⟩) (y:=⟨op3,d3,a3,b3⟩) HV.out (by omega) (by omega) (by omega) HXOK.out HYOK.out
           rw [HLA.out,HLA2.out,HS1.out,hs2] at hsz;have HSZ:=jH hsz;have HM:=jH HBE.out.size;obtain ⟨_,_,e1',hgk,e0,e1,e2,e3⟩:=zbr (HP.out.grow (HG.out.trans HG0.out)) HL2.out;cases e1';obtain ⟨gB,oB,rfl,hgB,f0,f1,f2,f3⟩:=zbr (HYA.out.grow HG0.out) hy;have hw:IntKind.i64.wrap (s1+s2)=s1+s2:=IntWalk.i64_in _ (by omega)
           clear hy hre hs2 hsz hf hgp3 hrs HRS;go_wp2_with fail
           go_region_held3 (fun Z=>Z.cell? ⟨gp,o+k * 4,none⟩=some (.int .i64 op2)∧Z.cell? ⟨gp,o+k * 4+1,none⟩=some (.int .i64 d2)∧Z.cell? ⟨gp,o+k * 4+2,none⟩=some (.int .i64 a2)∧Z.cell? ⟨gp,o+k * 4+3,none⟩=some (.int .i64 b2)∧Z.cell? ⟨gN,oN+k,none⟩=some (.slice (some ⟨gB,oB,none⟩) Y.length tc2)∧Z.cell? ⟨gB,oB+b' * 4,none⟩=some (.int .i64 op3)∧Z.cell? ⟨gB,oB+b' * 4+1,none⟩=some (.int .i64 d3)∧Z.cell? ⟨gB,oB+b' * 4+2,none⟩=some (.int .i64 a3)∧Z.cell? ⟨gB,oB+b' * 4+3,none⟩=some (.int .i64 b3)∧Grow wr Z)
            (first | exact ⟨e0,e1,e2,e3,nn,f0,f1,f2,f3,(Grow.refl wr).drew⟩ | exact ⟨e0,e1,e2,e3,nn,f0,f1,f2,f3,Grow.refl wr⟩ | exact keep9 hg8 (by assumption))
            (first | (go_at_call 211;refine zag op2 d2 a2 b2 op3 d3 a3 b3 _ _ ?_;intro w8 hg8;rw [HS2.out]))
           rename_i hS
           have hgr:Grow wr w8:=hS.2.2.2.2.2.2.2.2.2;obtain ⟨_,_,_,_,nk,v0,v1,v2,v3,_⟩:=hS;have HG8:=jH (HG0.out.trans hgr);have HE8:=jH (HE.out.grow hgr);obtain ⟨_,_,e1',hgA8,z0,z1,z2,z3⟩:=zbr (HXA.out.grow HG8.out) HXX.out;cases e1';have nI:=HG8.out.cell HN0.out;have hgN8:gN<w8.heap.size:=Nat.lt_of_lt_of_le hgN HG8.out.sz;have hgB8:gB<w8.heap.size:=Nat.lt_of_lt_of_le hgB hgr.sz;have hms:=HM.out;clear hgr hg8 e0 e1 e2 e3 nn f0 f1 f2 f3 HG0 HE;by_cases hm0:m<0
           ·have t1:¬ m≥0:=by omega
            go_wp2_with fail
            go_region
            have hlit:EdN w4.heap.size ((w8.alloc (.cells #[.int .i64 (i:Int),.int .i64 op1,.int .i64 d1,.int .i64 a1,.int .i64 b1,.int .i64 (k:Int),.int .i64 op3,.int .i64 d3,.int .i64 a3,.int .i64 b3] 60)).drew) (.slice (some ⟨w8.heap.size,0,none⟩) 2 2) [⟨(i:Int),⟨op1,d1,a1,b1⟩⟩,⟨(k:Int),⟨op3,d3,a3,b3⟩⟩]:=⟨(zhy w8 [⟨(i:Int),⟨op1,d1,a1,b1⟩⟩,⟨(k:Int),⟨op3,d3,a3,b3⟩⟩] 60 (by simp)).grow ((Grow.refl _).drew),fun b m c e=>by cases e;exact HG8.out.sz⟩
            have hgl:Grow w8 ((w8.alloc (.cells #[.int .i64 (i:Int),.int .i64 op1,.int .i64 d1,.int .i64 a1,.int .i64 b1,.int .i64 (k:Int),.int .i64 op3,.int .i64 d3,.int .i64 a3,.int .i64 b3] 60)).drew):=((Grow.refl w8).alloc _).drew;generalize (w8.alloc (.cells #[.int .i64 (i:Int),.int .i64 op1,.int .i64 d1,.int .i64 a1,.int .i64 b1,.int .i64 (k:Int),.int .i64 op3,.int .i64 d3,.int .i64 a3,.int .i64 b3] 60)).drew=W9 at hlit hgl ⊢;have HLIT:=jH hlit;have HG9:=jH (HG8.out.trans hgl);have HE9:=jH (HE8.out.grow hgl);clear hlit hgl nk v0 v1 v2 v3 z0 z1 z2 z3 nI;go_wp2_with fail;refine zgf p [⟨(i:Int),⟨op1,d1,a1,b1⟩⟩,⟨(k:Int),⟨op3,d3,a3,b3⟩⟩] ts _ _ _ _ (HP.out.grow (HG.out.trans HG9.out)) HLIT.out.1 (HT.out.grow (HG.out.trans HG9.out)) (by intro e he;simp at he;rcases he with rfl | rfl<;>(dsimp only;omega)) hp8 HVT.out HSV.out _ ?_
            intro w10 hg10;rw [HF.out];have HG10:=jH (HG9.out.trans hg10);have HE10:=jH (HE9.out.grow hg10);have HL10:=jH (HLIT.out.grow hg10);clear hg10;cases f with
            | false=>
             have HRS3:=jH (show G++(pairX p ts ⟨i,⟨op1,d1,a1,b1⟩⟩ ((nearX p k).drop (b'+1)++TK)++RC)=PL by have:=HRS2.out;simpa using this)
             go_wp2_with fail;go_roundw
             case rel=>exact ⟨b'+1,by omega,by go_num,G,e,m,rfl,HG10.out,HE10.out,HBE.out,HRS3.out⟩
             case measure=>simp [intOf];omega
            | true=>
             have hbt:=HBE.out.take (x:=[⟨(i:Int),⟨op1,d1,a1,b1⟩⟩,⟨(k:Int),⟨op3,d3,a3,b3⟩⟩]) (by rw [HSZ.out];omega) (zfn p)
             rw [HSZ.out] at hbt;have HBT:=jH hbt;clear hbt;go_wp2_with fail;go_roundw
             case rel=>exact ⟨b'+1,by omega,by go_num,_,_,s1+s2,rfl,HG10.out,HL10.out,HBT.out,HRS2.out⟩
             case measure=>simp [intOf];omega
           ·have t1:m≥0:=by omega
            by_cases hsm:s1+s2<m
            ·have t2:¬ s1+s2≥m:=by omega
             go_wp2_with fail
             go_region
             have hlit:EdN w4.heap.size ((w8.alloc (.cells #[.int .i64 (i:Int),.int .i64 op1,.int .i64 d1,.int .i64 a1,.int .i64 b1,.int .i64 (k:Int),.int .i64 op3,.int .i64 d3,.int .i64 a3,.int .i64 b3] 60)).drew) (.slice (some ⟨w8.heap.size,0,none⟩) 2 2) [⟨(i:Int),⟨op1,d1,a1,b1⟩⟩,⟨(k:Int),⟨op3,d3,a3,b3⟩⟩]:=⟨(zhy w8 [⟨(i:Int),⟨op1,d1,a1,b1⟩⟩,⟨(k:Int),⟨op3,d3,a3,b3⟩⟩] 60 (by simp)).grow ((Grow.refl _).drew),fun b m c e=>by cases e;exact HG8.out.sz⟩
             have hgl:Grow w8 ((w8.alloc (.cells #[.int .i64 (i:Int),.int .i64 op1,.int .i64 d1,.int .i64 a1,.int .i64 b1,.int .i64 (k:Int),.int .i64 op3,.int .i64 d3,.int .i64 a3,.int .i64 b3] 60)).drew):=((Grow.refl w8).alloc _).drew;generalize (w8.alloc (.cells #[.int .i64 (i:Int),.int .i64 op1,.int .i64 d1,.int .i64 a1,.int .i64 b1,.int .i64 (k:Int),.int .i64 op3,.int .i64 d3,.int .i64 a3,.int .i64 b3] 60)).drew=W9 at hlit hgl ⊢;have HLIT:=jH hlit;have HG9:=jH (HG8.out.trans hgl);have HE9:=jH (HE8.out.grow hgl);clear hlit hgl nk v0 v1 v2 v3 z0 z1 z2 z3 nI;go_wp2_with fail;refine zgf p [⟨(i:Int),⟨op1,d1,a1,b1⟩⟩,⟨(k:Int),⟨op3,d3,a3,b3⟩⟩] ts _ _ _ _ (HP.out.grow (HG.out.trans HG9.out)) HLIT.out.1 (HT.out.grow (HG.out.trans HG9.out)) (by intro e he;simp at he;rcases he with rfl | rfl<;>(dsimp only;omega)) hp8 HVT.out HSV.out _ ?_
             intro w10 hg10;rw [HF.out];have HG10:=jH (HG9.out.trans hg10);have HE10:=jH (HE9.out.grow hg10);have HL10:=jH (HLIT.out.grow hg10);clear hg10;cases f with
             | false=>
              have HRS3:=jH (show G++(pairX p ts ⟨i,⟨op1,d1,a1,b1⟩⟩ ((nearX p k).drop (b'+1)++TK)++RC)=PL by have:=HRS2.out;simpa using this)
              go_wp2_with fail;go_roundw
              case rel=>exact ⟨b'+1,by omega,by go_num,G,e,m,rfl,HG10.out,HE10.out,HBE.out,HRS3.out⟩
              case measure=>simp [intOf];omega
             | true=>
              have hbt:=HBE.out.take (x:=[⟨(i:Int),⟨op1,d1,a1,b1⟩⟩,⟨(k:Int),⟨op3,d3,a3,b3⟩⟩]) (by rw [HSZ.out];omega) (zfn p)
              rw [HSZ.out] at hbt;have HBT:=jH hbt;clear hbt;go_wp2_with fail;go_roundw
              case rel=>exact ⟨b'+1,by omega,by go_num,_,_,s1+s2,rfl,HG10.out,HL10.out,HBT.out,HRS2.out⟩
              case measure=>simp [intOf];omega
            ·have t2:s1+s2≥m:=by omega
             have HB9:=jH (HBE.out.skip (x:=[⟨(i:Int),⟨op1,d1,a1,b1⟩⟩,⟨(k:Int),⟨op3,d3,a3,b3⟩⟩]) hm0 (by rw [HSZ.out];exact hsm) f)
             go_wp2_with fail;go_roundw
             case rel=>exact ⟨b'+1,by omega,by go_num,_,e,m,rfl,HG8.out,HE8.out,HB9.out,HRS2.out⟩
             case measure=>simp [intOf];omega
          ·have hbe':b'=Y.length:=by omega
           have HRS2:=jH (show G++(pairX p ts ⟨i,⟨op1,d1,a1,b1⟩⟩ (tailM p (k+1) (p.length - (k+1)))++RC)=PL by
            have:=HRS.out;rw [hbe',HTY.out,zou,← HTK.out] at this;exact this)
           clear hbe';go_wp2_with fail;go_roundw
           case rel=>exact ⟨k+1,by omega,by omega,by go_num,G,e,m,rfl,HG0.out,HE.out,HBE.out,HRS2.out⟩
           case measure=>simp [intOf];omega
        ·have hke:k=p.length:=by omega
         have HRS2:=jH (show G++pairsL p ts ((nearX p i).drop (a'+1)++TT)=PL by
          have:=HRS.out;rw [hke,zog,zzk,List.nil_append,← HRC.out] at this;exact this)
         clear hke;go_wp2_with fail;go_roundw
         case rel=>exact ⟨a'+1,by omega,by go_num,G,e,m,rfl,HG0.out,HE.out,HBE.out,HRS2.out⟩
         case measure=>simp [intOf];omega
      ·have hae:a'=X.length:=by omega
       have HRS2:=jH (show G++pairsL p ts (tailM p (i+1) (p.length - (i+1)))=PL by
        have:=HRS.out;rw [hae,HTX.out,zou,← HTT.out] at this;exact this)
       clear hae;go_wp2_with fail;go_roundw
       case rel=>exact ⟨i+1,by omega,by go_num,G,e,m,rfl,HG0.out,HE.out,HBE.out,HRS2.out⟩
       case measure=>simp [intOf];omega
    ·have hie:i=p.length:=by omega
     have hbe:=HBE.out;have hrs:=HRS.out;rw [hie,zog] at hrs;rw [show G=PL by simpa [pairsL] using hrs] at hbe
     obtain ⟨bb,hbb⟩:∃ bb,decide (0≤m)=bb:=⟨_,rfl⟩;have t1:decide (m≥0)=bb:=hbb;have HF:=jH (HR.out wr _ e m (HG.out.trans HG0.out) ⟨HE.out.1,fun b m c ee=>Nat.le_trans HG.out.sz (HE.out.2 b m c ee)⟩ hbe);rw [hbb] at HF;clear hbe hrs hie hbb;go_wp2_with fail;exact HF.out
set_option maxRecDepth 100000
set_option maxHeartbeats 16000000
theorem zox (p:List Ln) (ts:List Tst) (pv tv:Value) (w:World) (hp:LinesAt w pv p) (ht:TestsAt w tv ts) (R:Ending→World→Prop)
  (hR:∀ w' v x n ok,Grow w w'→EdN w.heap.size w' v x→RepP p ts x n ok→R (.returned (.tuple #[v,.int .i64 n,.bool ok,.int .i64 (sgtE p ts 0)])) w') :
  Calls Tryz.prog 127 #[pv,tv] w R:=by
 have HP:=jH hp;have HT:=jH ht;have HR:=jH hR;obtain ⟨e,he⟩:∃ e,sgtE p ts 0=e:=⟨_,rfl⟩;have hok:=fun h:e=0=>znd.1 (he.trans h);rw [he] at HR;have HE:=jH he;obtain ⟨pa,pc,rfl,jk1⟩:=hp;obtain ⟨⟨ta,tc,rfl,jk2⟩,jk3⟩:=ht;clear hR he jk1 jk2 jk3;by_cases z1:e=0;rotate_left
 ·have HS:=jH (show RepP p ts [] 0 false from .inl ⟨by rw [HE.out];exact z1,rfl,rfl,rfl⟩)
  have t1:(e != 0)=true:=by simpa using z1
  clear hok z1
  go_enter func127,ntmps127
  go_wp2_with fail;refine zir p ts 0 _ _ _ HP.out HT.out _ ?_;intro w1 hg1;rw [HE.out];have HF:=jH (HR.out w1 (.slice none 0 0) [] 0 false hg1 ⟨SlcAt.nil _ _ _,fun b m c e=>by cases e⟩ HS.out)
  clear hg1;go_wp2_with fail;exact bodyPost_ret (by simp [results,Tryz.results127,go_sem]) rfl HF.out
 obtain ⟨⟨hv,hvt⟩,_,_⟩:=hok z1;subst z1;have HV:=jH hv;have HVT:=jH hvt;clear hok hv hvt
 go_enter func127,ntmps127
 go_wp2_with fail;refine zir p ts 0 _ _ _ HP.out HT.out _ ?_;intro w1 hg1;rw [HE.out];have HG1:=jH hg1;clear hg1;go_wp2_with fail
 go_loopw [9] (fun i wr=>∃ k:Nat,k≤3∧i=.int .i64 k∧Grow w1 wr∧∀ k':Nat,k'<k→SnglP p ts k' ⟨0,⟨0,0,0,0⟩⟩ false) (fun i _=>3 - (intOf i).toNat)
 case atStart=>exact ⟨0,Nat.zero_le _,rfl,Grow.refl _,fun k' h=>by omega⟩
 case round=>
  obtain ⟨k,hk,rfl,hg,hno⟩:=hrel;have HG:=jH (HG1.out.trans hg);have HGX:=jH hg;have HNO:=jH hno;clear hg hno;by_cases hlt:k<3
  ·have hlt2:(k:Int)<3:=by omega
   go_wp2_with fail;refine zoc p ts (k:Int) _ _ _ (HP.out.grow HG.out) (HT.out.grow HG.out) HV.out HVT.out (by omega) (by omega) _ ?_
   intro w3 ed m hg3 hb;have hs:=hb.sngl ((zje hlt).trans HE.out);obtain ⟨bb,hbb⟩:∃ b,decide (0≤m)=b:=⟨_,rfl⟩;rw [hbb] at hs ⊢;have HS:=jH hs;obtain ⟨t,o1,d1,a1,b1⟩:=ed;have hbx:=heap_alloc_new w3 (.cells #[.int .i64 t,.int .i64 o1,.int .i64 d1,.int .i64 a1,.int .i64 b1] 60);have hgx:=(Grow.refl w3).alloc (.cells #[.int .i64 t,.int .i64 o1,.int .i64 d1,.int .i64 a1,.int .i64 b1] 60);obtain ⟨c0,c1,c2,c3,c4⟩:=box5 hbx;have HG3:=jH (hg3.trans hgx);clear hb hs hbb hbx hgx hg3;cases bb with
   | false=>
    have HNO2:=jH (show ∀ k':Nat,k'<k+1→SnglP p ts k' ⟨0,⟨0,0,0,0⟩⟩ false from fun k' h=>by
     by_cases h2:k'<k
     ·exact HNO.out k' h2
     ·have:k'=k:=by omega
      subst this;have h3:=HS.out;rcases h3 with ⟨h4,h5,h6⟩ | ⟨h4,_⟩
      ·exact .inl ⟨rfl,rfl,h6⟩
      ·cases h4)
    go_wp2_with fail;go_roundw
    case rel=>exact ⟨k+1,by omega,by go_num,HGX.out.trans HG3.out,HNO2.out⟩
    case measure=>simp [intOf];omega
   | true=>
    have hlit:=zfq (w3.alloc (.cells #[.int .i64 t,.int .i64 o1,.int .i64 d1,.int .i64 a1,.int .i64 b1] 60)) t o1 d1 a1 b1 60;rw [World.size_alloc] at hlit;have HF:=jH (HR.out _ _ _ (k:Int) true ((HG.out.trans HG3.out).alloc _) ⟨hlit,fun b m c e=>by
     cases e;have h1:=(HG.out.trans HG3.out).sz;rw [World.size_alloc] at h1;exact h1⟩ (.inr ⟨HE.out,.inl ⟨k,hlt,rfl,rfl,HNO.out,_,rfl,HS.out⟩⟩))
    clear hlit;go_wp2_with fail;exact bodyPost_ret (by simp [results,Tryz.results127,go_sem]) rfl HF.out
  ·have hk3:k=3:=by omega
   subst hk3;go_wp2_with fail;refine zov p ts _ _ _ (HP.out.grow HG.out) (HT.out.grow HG.out) HV.out HVT.out _ ?_;intro w2 v x m hg2 hv2 hb;have hd:=hb.dbl HE.out;obtain ⟨bb,hbb⟩:∃ b,decide (0≤m)=b:=⟨_,rfl⟩;rw [hbb] at hd ⊢;cases bb with
   | false=>
    have HF:=jH (HR.out w2 (.slice none 0 0) [] 0 false (HG.out.trans hg2) ⟨SlcAt.nil _ _ _,fun b m c e=>by cases e⟩ (.inr ⟨HE.out,.inr ⟨HNO.out,show DblP p ts [] false from (by rcases hd with ⟨h1,h2,h3⟩ | ⟨h1,_⟩;exact .inl ⟨rfl,rfl,h3⟩;cases h1),rfl⟩⟩))
    clear hg2 hv2 hb hd hbb;go_wp2_with fail;exact bodyPost_ret (by simp [results,Tryz.results127,go_sem]) rfl HF.out
   | true=>
    have HF:=jH (HR.out w2 v x 3 true (HG.out.trans hg2) ⟨hv2.1,fun b m c e=>Nat.le_trans HG.out.sz (hv2.2 b m c e)⟩ (.inr ⟨HE.out,.inr ⟨HNO.out,hd,rfl⟩⟩));clear hg2 hv2 hb hd hbb;go_wp2_with fail;exact bodyPost_ret (by simp [results,Tryz.results127,go_sem]) rfl HF.out
end Go.Proofs.YtmeejlgnhfkeaaaGreatDoor
