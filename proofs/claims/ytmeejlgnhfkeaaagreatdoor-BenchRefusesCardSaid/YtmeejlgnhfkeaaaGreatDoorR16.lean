/- Parts. -/
import Derived.Test.YtmeejlgnhfkeaaaGreatDoorR15
import Derived.Deep.RegionHeld3
import Derived.Deep.RegionWith
import Derived.Test.YtmeejlgnhfkeaaaGreatDoorR08
import Derived.Test.YtmeejlgnhfkeaaaGreatDoorR00
namespace Go.Proofs.YtmeejlgnhfkeaaaGreatDoor
open Go.RowKit Go.Proofs.Tryz
set_option maxRecDepth 100000
set_option maxHeartbeats 16000000
theorem zie (W:World) (n:Nat) (hn:W.heap.size=n) (cs:List Value) (t:TypeId):∀ j v,cs[j]?=some v→(W.alloc (.cells cs.toArray t)).drew.cell? ((⟨n,0,none⟩:Addr).add j)=some v:=zan W n hn cs t
theorem zhz (W:World) (n:Nat) (hn:W.heap.size=n) (cs:List Value) (t:TypeId):∀ j v,cs[j]?=some v→(W.alloc (.cells cs.toArray t)).drew.cell? ((⟨n,0,none⟩:Addr).add j)=some v:=zan W n hn cs t
def LinesN (B:Nat) (w:World) (v:Value) (xs:List Ln):Prop:=LinesAt w v xs∧∀ b o s n c,v=.slice (some ⟨b,o,s⟩) n c→B≤b
theorem zkr (op d a b:Int) (w:World) (hop:op=1) (hok:vL op d a b=true) (R:Ending→World→Prop)
  (hR:∀ w' v,Grow w w'→LinesN w.heap.size w' v (tmpl ⟨op,d,a,b⟩)→R (.returned v) w') :
  Calls Tryz.prog 265 #[.agg #[.int .i64 op,.int .i64 d,.int .i64 a,.int .i64 b]] w R:=by
 subst hop;have hb : -9≤a∧a≤9:=by have:=zcr (l:=⟨1,d,a,b⟩) hok;simp at this;omega
 have q1:IntKind.i64.wrap (a + -1)=a + -1:=IntWalk.i64_in _ (by omega)
 have q2:IntKind.i64.wrap (a+1)=a+1:=IntWalk.i64_in _ (by omega)
 have hraw:rawT (⟨1,d,a,b⟩:Ln)=(([⟨0,0,0,0⟩,⟨1,d,a + -1,b⟩,⟨1,d,a+1,b⟩]:List Ln)++((List.range 4).map fun n:Nat=>(⟨1,(n:Int),a,b⟩:Ln))):=by simp [rawT,byL,fldL,setF,List.range_succ]
 have htm:tmpl (⟨1,d,a,b⟩:Ln)=validL (rawT (⟨1,d,a,b⟩:Ln)) (⟨1,d,a,b⟩:Ln):=by unfold tmpl;rw [if_neg (by simp)]
 rw [hraw] at htm;rw [htm] at hR;have HR:=jH hR;clear hR hraw htm hok
 go_enter func265,ntmps265
 go_wp2_with fail
 go_loopw [3,4] (fun out by_ wr=>∃ xs,((by_=.int .i64 (-1)∧xs=[⟨0,0,0,0⟩])∨(by_=.int .i64 1∧xs=[⟨0,0,0,0⟩,⟨1,d,a + -1,b⟩])∨(by_=.int .i64 3∧xs=[⟨0,0,0,0⟩,⟨1,d,a + -1,b⟩,⟨1,d,a+1,b⟩]))∧TI w (⟨1,d,a,b⟩:Ln) xs out wr) (fun _ by_ _=>(3 - intOf by_).toNat)
 case atStart=>
  refine ⟨_,.inl ⟨rfl,rfl⟩,((Grow.refl _).alloc _).alloc _,zbx _ _ _,?_⟩;have:=World.ownsRow_lit (w.alloc (.cells #[.int .i64 1,.int .i64 d,.int .i64 a,.int .i64 b] 57)) (base:=w.heap.size+1) (e:=57) (size:=4) #[.int .i64 0,.int .i64 0,.int .i64 0,.int .i64 0] 1 (by simp) (by simp [maxLen]) rfl
  rw [World.size_alloc] at this;exact this
 case round=>
  obtain ⟨xs,hc,ht⟩:=hrel;have HT:=jH ht;obtain ⟨e0,e1,e2,e3⟩:=box4 ht.bx;have hz:=lt_of_block ht.bx;clear ht;rcases hc with ⟨rfl,rfl⟩ | ⟨rfl,rfl⟩ | ⟨rfl,rfl⟩
  ·skip
   go_wp2_with (at_builtin;refine zad _ rfl (.tmp 38) (.tmp 40) 22 rfl (w.heap.size+1) 57 underlying22 zar rfl (by decide) (by decide) encL zab zaj _ ([⟨0,0,0,0⟩]) rfl (HT.out.grow (((Grow.refl _).alloc _).alloc _)).ow _ (⟨1,d,a + -1,b⟩) 1 rfl (zan _ _ (by simp) (encL (⟨1,d,a + -1,b⟩)) _) (by simp;try omega) (by have:=HT.out.sz;simp;omega) ?_;intro out2 w2 hown2 hgr2)
   have HT2:=jH (HT.out.app (y:=⟨1,d,a + -1,b⟩) (((Grow.refl _).alloc _).alloc _) hown2 hgr2);clear hown2 hgr2;go_roundw
   case rel=>exact ⟨_,.inr (.inl ⟨by first | rfl | go_num,rfl⟩),HT2.out⟩
   case measure=>simp [intOf];done
  ·skip
   go_wp2_with (at_builtin;refine zad _ rfl (.tmp 38) (.tmp 40) 22 rfl (w.heap.size+1) 57 underlying22 zar rfl (by decide) (by decide) encL zab zaj _ ([⟨0,0,0,0⟩,⟨1,d,a + -1,b⟩]) rfl (HT.out.grow (((Grow.refl _).alloc _).alloc _)).ow _ (⟨1,d,a+1,b⟩) 1 rfl (zan _ _ (by simp) (encL (⟨1,d,a+1,b⟩)) _) (by simp;try omega) (by have:=HT.out.sz;simp;omega) ?_;intro out2 w2 hown2 hgr2)
   have HT2:=jH (HT.out.app (y:=⟨1,d,a+1,b⟩) (((Grow.refl _).alloc _).alloc _) hown2 hgr2);clear hown2 hgr2;go_roundw
   case rel=>exact ⟨_,.inr (.inr ⟨by first | rfl | go_num,rfl⟩),HT2.out⟩
   case measure=>simp [intOf];done
  ·go_wp2_with fail;refine zfg 1 d a b w.heap.size _ rfl HT.out.bx _ ?_;intro w1 hg1 _;have HTF:=jH (HT.out.grow hg1);clear hg1 HT e0 e1 e2 e3 hz;go_wp2_with fail
   go_loopw [3,44] (fun out k wr=>∃ xs,((k=.int .i64 0∧xs=(([⟨0,0,0,0⟩,⟨1,d,a + -1,b⟩,⟨1,d,a+1,b⟩]:List Ln)))∨(k=.int .i64 1∧xs=(([⟨0,0,0,0⟩,⟨1,d,a + -1,b⟩,⟨1,d,a+1,b⟩]:List Ln)++((List.range 4).map fun n:Nat=>(⟨1,(n:Int),a,b⟩:Ln)))))∧TI w (⟨1,d,a,b⟩:Ln) xs out wr) (fun _ k _=>(1 - intOf k).toNat)
   case atStart=>exact ⟨_,.inl ⟨rfl,rfl⟩,HTF.out⟩
   case round=>
    obtain ⟨xs,hc,ht⟩:=hrel;have HT:=jH ht;clear ht HTF;rcases hc with ⟨rfl,rfl⟩ | ⟨rfl,rfl⟩
    ·go_wp2_with fail
     go_loopw [3,47] (fun out i wr=>∃ r:Nat,r≤4∧i=.int .i64 r∧TI w (⟨1,d,a,b⟩:Ln) ((([⟨0,0,0,0⟩,⟨1,d,a + -1,b⟩,⟨1,d,a+1,b⟩]:List Ln))++(List.range r).map (fun n:Nat=>(⟨1,(n:Int),a,b⟩:Ln))) out wr) (fun _ i _=>(4 - intOf i).toNat)
     case atStart=>exact ⟨0,by omega,rfl,by rw [List.range_zero,List.map_nil,List.append_nil];exact HT.out⟩
     case round=>
      obtain ⟨r,hr,rfl,ht⟩:=hrel;clear HT;have HT:=jH ht;obtain ⟨e0,e1,e2,e3⟩:=box4 ht.bx;have hz:=lt_of_block ht.bx;clear ht;by_cases hlt:r<4
      ·have hlt2:(r:Int)<4:=by omega
       go_wp2_with fail;refine zfg 1 d a b wr.heap.size _ rfl (heap_alloc_new _ _) _ ?_;intro w3 hg3 hp3;rw [World.size_alloc] at hp3 ⊢;have hm3:=hg3.blk (heap_alloc_new wr (.cells #[.int .i64 1,.int .i64 d,.int .i64 a,.int .i64 b] 57));have HG3:=jH (((Grow.refl wr).alloc _).trans hg3);obtain ⟨f0,f1,f2,f3⟩:=box4 hm3;have p0:=cellOf hp3 0 rfl;have z3:=frz hm3 1;have hzm:=lt_of_block hm3;have hzp:=lt_of_block hp3;clear hg3 hp3 hm3 e0 e1 e2 e3;go_wp2_with (at_builtin;refine zad _ rfl (.tmp 57) (.tmp 59) 22 rfl (w.heap.size+1) 57 underlying22 zar rfl (by decide) (by decide) encL zab zaj _ ((([⟨0,0,0,0⟩,⟨1,d,a + -1,b⟩,⟨1,d,a+1,b⟩]:List Ln))++(List.range r).map (fun n:Nat=>(⟨1,(n:Int),a,b⟩:Ln))) rfl (HT.out.grow (Grow.alloc (Below.setCell HG3.out (Nat.le_refl _) _) _)).ow _ (⟨1,(r:Int),a,b⟩) 1 rfl (zan _ _ (by simp) (encL (⟨1,(r:Int),a,b⟩)) _) (by simp;try omega) (by have:=HT.out.sz;simp;omega) ?_;intro out2 w2 hown2 hgr2)
       have HT2:=jH (HT.out.app (y:=⟨1,(r:Int),a,b⟩) (Grow.alloc (Below.setCell HG3.out (Nat.le_refl _) _) _) hown2 hgr2);clear hown2 hgr2;go_roundw
       case rel=>exact ⟨r+1,by omega,by go_num,by rw [zbg _ _ r];exact HT2.out⟩
       case measure=>simp [intOf];omega
      ·have hr4:r=4:=by omega
       subst hr4;go_wp2_with fail;go_roundw
       case rel=>exact ⟨_,.inr ( ⟨by first | rfl | go_num,rfl⟩),HT.out⟩
       case measure=>simp [intOf]
    ·obtain ⟨e0,e1,e2,e3⟩:=box4 HT.out.bx;have hz:=lt_of_block HT.out.bx;go_wp2_with fail;refine zby _ _ _ _ _ ?_;rw [show inB 1 3 6=false from by decide]
     obtain ⟨g,cap,rfl,hg1,hg2,hc1,hc2,hrow⟩:=HT.out.end_ (by simp)
     have HROW:=jH hrow;clear hrow;go_wp2_with fail;refine zch ((([⟨0,0,0,0⟩,⟨1,d,a + -1,b⟩,⟨1,d,a+1,b⟩]:List Ln)++((List.range 4).map fun n:Nat=>(⟨1,(n:Int),a,b⟩:Ln)))) 1 d a b g 7 cap w.heap.size _ (by simp) HROW.out hg2 (by omega) (by simpa using hc1) hc2 (by decide) _ ?_
     intro w3 hb3 hg3 hr3;have hle:(validL ((([⟨0,0,0,0⟩,⟨1,d,a + -1,b⟩,⟨1,d,a+1,b⟩]:List Ln)++((List.range 4).map fun n:Nat=>(⟨1,(n:Int),a,b⟩:Ln)))) (⟨1,d,a,b⟩:Ln)).length≤cap:=Nat.le_trans (zcg _ _) hc1;have HF:=jH (HR.out _ _ (Below.trans HT.out.g hb3) ⟨hr3.slc hg3 hle hc2,fun b o s n c hv=>by cases hv;omega⟩)
     clear hb3 hr3;go_wp2_with fail;exact HF.out
theorem zkn (op d a b:Int) (w:World) (hop:op=2) (hok:vL op d a b=true) (R:Ending→World→Prop)
  (hR:∀ w' v,Grow w w'→LinesN w.heap.size w' v (tmpl ⟨op,d,a,b⟩)→R (.returned v) w') :
  Calls Tryz.prog 265 #[.agg #[.int .i64 op,.int .i64 d,.int .i64 a,.int .i64 b]] w R:=by
 subst hop;have hraw:rawT (⟨2,d,a,b⟩:Ln)=(([⟨0,0,0,0⟩,⟨2,d,a,b⟩,⟨2,d,a,b⟩]:List Ln)++((List.range 4).map fun n:Nat=>(⟨2,(n:Int),a,b⟩:Ln))++((List.range 4).map fun n:Nat=>(⟨2,d,(n:Int),b⟩:Ln))):=by simp [rawT,byL,fldL,setF,List.range_succ]
 have htm:tmpl (⟨2,d,a,b⟩:Ln)=validL (rawT (⟨2,d,a,b⟩:Ln)) (⟨2,d,a,b⟩:Ln):=by unfold tmpl;rw [if_neg (by simp)]
 rw [hraw] at htm;rw [htm] at hR;have HR:=jH hR;clear hR hraw htm hok
 go_enter func265,ntmps265
 go_wp2_with fail
 go_loopw [3,4] (fun out by_ wr=>∃ xs,((by_=.int .i64 (-1)∧xs=[⟨0,0,0,0⟩])∨(by_=.int .i64 1∧xs=[⟨0,0,0,0⟩,⟨2,d,a,b⟩])∨(by_=.int .i64 3∧xs=[⟨0,0,0,0⟩,⟨2,d,a,b⟩,⟨2,d,a,b⟩]))∧TI w (⟨2,d,a,b⟩:Ln) xs out wr) (fun _ by_ _=>(3 - intOf by_).toNat)
 case atStart=>
  refine ⟨_,.inl ⟨rfl,rfl⟩,((Grow.refl _).alloc _).alloc _,zbx _ _ _,?_⟩;have:=World.ownsRow_lit (w.alloc (.cells #[.int .i64 2,.int .i64 d,.int .i64 a,.int .i64 b] 57)) (base:=w.heap.size+1) (e:=57) (size:=4) #[.int .i64 0,.int .i64 0,.int .i64 0,.int .i64 0] 1 (by simp) (by simp [maxLen]) rfl
  rw [World.size_alloc] at this;exact this
 case round=>
  obtain ⟨xs,hc,ht⟩:=hrel;have HT:=jH ht;obtain ⟨e0,e1,e2,e3⟩:=box4 ht.bx;have hz:=lt_of_block ht.bx;clear ht;rcases hc with ⟨rfl,rfl⟩ | ⟨rfl,rfl⟩ | ⟨rfl,rfl⟩
  ·skip
   go_wp2_with (at_builtin;refine zad _ rfl (.tmp 38) (.tmp 40) 22 rfl (w.heap.size+1) 57 underlying22 zar rfl (by decide) (by decide) encL zab zaj _ ([⟨0,0,0,0⟩]) rfl (HT.out.grow (((Grow.refl _).alloc _).alloc _)).ow _ (⟨2,d,a,b⟩) 1 rfl (zan _ _ (by simp) (encL (⟨2,d,a,b⟩)) _) (by simp;try omega) (by have:=HT.out.sz;simp;omega) ?_;intro out2 w2 hown2 hgr2)
   have HT2:=jH (HT.out.app (y:=⟨2,d,a,b⟩) (((Grow.refl _).alloc _).alloc _) hown2 hgr2);clear hown2 hgr2;go_roundw
   case rel=>exact ⟨_,.inr (.inl ⟨by first | rfl | go_num,rfl⟩),HT2.out⟩
   case measure=>simp [intOf];done
  ·skip
   go_wp2_with (at_builtin;refine zad _ rfl (.tmp 38) (.tmp 40) 22 rfl (w.heap.size+1) 57 underlying22 zar rfl (by decide) (by decide) encL zab zaj _ ([⟨0,0,0,0⟩,⟨2,d,a,b⟩]) rfl (HT.out.grow (((Grow.refl _).alloc _).alloc _)).ow _ (⟨2,d,a,b⟩) 1 rfl (zan _ _ (by simp) (encL (⟨2,d,a,b⟩)) _) (by simp;try omega) (by have:=HT.out.sz;simp;omega) ?_;intro out2 w2 hown2 hgr2)
   have HT2:=jH (HT.out.app (y:=⟨2,d,a,b⟩) (((Grow.refl _).alloc _).alloc _) hown2 hgr2);clear hown2 hgr2;go_roundw
   case rel=>exact ⟨_,.inr (.inr ⟨by first | rfl | go_num,rfl⟩),HT2.out⟩
   case measure=>simp [intOf];done
  ·go_wp2_with fail;refine zdb 2 d a b w.heap.size _ rfl HT.out.bx _ ?_;intro w1 hg1 _;have HTF:=jH (HT.out.grow hg1);clear hg1 HT e0 e1 e2 e3 hz;go_wp2_with fail
   go_loopw [3,44] (fun out k wr=>∃ xs,((k=.int .i64 0∧xs=(([⟨0,0,0,0⟩,⟨2,d,a,b⟩,⟨2,d,a,b⟩]:List Ln)))∨(k=.int .i64 1∧xs=(([⟨0,0,0,0⟩,⟨2,d,a,b⟩,⟨2,d,a,b⟩]:List Ln)++((List.range 4).map fun n:Nat=>(⟨2,(n:Int),a,b⟩:Ln))))∨(k=.int .i64 2∧xs=(([⟨0,0,0,0⟩,⟨2,d,a,b⟩,⟨2,d,a,b⟩]:List Ln)++((List.range 4).map fun n:Nat=>(⟨2,(n:Int),a,b⟩:Ln))++((List.range 4).map fun n:Nat=>(⟨2,d,(n:Int),b⟩:Ln)))))∧TI w (⟨2,d,a,b⟩:Ln) xs out wr) (fun _ k _=>(2 - intOf k).toNat)
   case atStart=>exact ⟨_,.inl ⟨rfl,rfl⟩,HTF.out⟩
   case round=>
    obtain ⟨xs,hc,ht⟩:=hrel;have HT:=jH ht;clear ht HTF;rcases hc with ⟨rfl,rfl⟩ | ⟨rfl,rfl⟩ | ⟨rfl,rfl⟩
    ·go_wp2_with fail
     go_loopw [3,47] (fun out i wr=>∃ r:Nat,r≤4∧i=.int .i64 r∧TI w (⟨2,d,a,b⟩:Ln) ((([⟨0,0,0,0⟩,⟨2,d,a,b⟩,⟨2,d,a,b⟩]:List Ln))++(List.range r).map (fun n:Nat=>(⟨2,(n:Int),a,b⟩:Ln))) out wr) (fun _ i _=>(4 - intOf i).toNat)
     case atStart=>exact ⟨0,by omega,rfl,by rw [List.range_zero,List.map_nil,List.append_nil];exact HT.out⟩
     case round=>
      obtain ⟨r,hr,rfl,ht⟩:=hrel;clear HT;have HT:=jH ht;obtain ⟨e0,e1,e2,e3⟩:=box4 ht.bx;have hz:=lt_of_block ht.bx;clear ht;by_cases hlt:r<4
      ·have hlt2:(r:Int)<4:=by omega
       go_wp2_with fail;refine zdb 2 d a b wr.heap.size _ rfl (heap_alloc_new _ _) _ ?_;intro w3 hg3 hp3;rw [World.size_alloc] at hp3 ⊢;have hm3:=hg3.blk (heap_alloc_new wr (.cells #[.int .i64 2,.int .i64 d,.int .i64 a,.int .i64 b] 57));have HG3:=jH (((Grow.refl wr).alloc _).trans hg3);obtain ⟨f0,f1,f2,f3⟩:=box4 hm3;have p0:=cellOf hp3 0 rfl;have p1:=cellOf hp3 1 rfl;have z3:=frz hm3 1;have hzm:=lt_of_block hm3;have hzp:=lt_of_block hp3;clear hg3 hp3 hm3 e0 e1 e2 e3;go_wp2_with (at_builtin;refine zad _ rfl (.tmp 57) (.tmp 59) 22 rfl (w.heap.size+1) 57 underlying22 zar rfl (by decide) (by decide) encL zab zaj _ ((([⟨0,0,0,0⟩,⟨2,d,a,b⟩,⟨2,d,a,b⟩]:List Ln))++(List.range r).map (fun n:Nat=>(⟨2,(n:Int),a,b⟩:Ln))) rfl (HT.out.grow (Grow.alloc (Below.setCell HG3.out (Nat.le_refl _) _) _)).ow _ (⟨2,(r:Int),a,b⟩) 1 rfl (zan _ _ (by simp) (encL (⟨2,(r:Int),a,b⟩)) _) (by simp;try omega) (by have:=HT.out.sz;simp;omega) ?_;intro out2 w2 hown2 hgr2)
       have HT2:=jH (HT.out.app (y:=⟨2,(r:Int),a,b⟩) (Grow.alloc (Below.setCell HG3.out (Nat.le_refl _) _) _) hown2 hgr2);clear hown2 hgr2;go_roundw
       case rel=>exact ⟨r+1,by omega,by go_num,by rw [zbg _ _ r];exact HT2.out⟩
       case measure=>simp [intOf];omega
      ·have hr4:r=4:=by omega
       subst hr4;go_wp2_with fail;go_roundw
       case rel=>exact ⟨_,.inr (.inl ⟨by first | rfl | go_num,rfl⟩),HT.out⟩
       case measure=>simp [intOf]
    ·go_wp2_with fail
     go_loopw [3,47] (fun out i wr=>∃ r:Nat,r≤4∧i=.int .i64 r∧TI w (⟨2,d,a,b⟩:Ln) ((([⟨0,0,0,0⟩,⟨2,d,a,b⟩,⟨2,d,a,b⟩]:List Ln)++((List.range 4).map fun n:Nat=>(⟨2,(n:Int),a,b⟩:Ln)))++(List.range r).map (fun n:Nat=>(⟨2,d,(n:Int),b⟩:Ln))) out wr) (fun _ i _=>(4 - intOf i).toNat)
     case atStart=>exact ⟨0,by omega,rfl,by rw [List.range_zero,List.map_nil,List.append_nil];exact HT.out⟩
     case round=>
      obtain ⟨r,hr,rfl,ht⟩:=hrel;clear HT;have HT:=jH ht;obtain ⟨e0,e1,e2,e3⟩:=box4 ht.bx;have hz:=lt_of_block ht.bx;clear ht;by_cases hlt:r<4
      ·have hlt2:(r:Int)<4:=by omega
       go_wp2_with fail;refine zdb 2 d a b wr.heap.size _ rfl (heap_alloc_new _ _) _ ?_;intro w3 hg3 hp3;rw [World.size_alloc] at hp3 ⊢;have hm3:=hg3.blk (heap_alloc_new wr (.cells #[.int .i64 2,.int .i64 d,.int .i64 a,.int .i64 b] 57));have HG3:=jH (((Grow.refl wr).alloc _).trans hg3);obtain ⟨f0,f1,f2,f3⟩:=box4 hm3;have p0:=cellOf hp3 0 rfl;have p1:=cellOf hp3 1 rfl;have z3:=frz hm3 2;have hzm:=lt_of_block hm3;have hzp:=lt_of_block hp3;clear hg3 hp3 hm3 e0 e1 e2 e3;go_wp2_with (at_builtin;refine zad _ rfl (.tmp 57) (.tmp 59) 22 rfl (w.heap.size+1) 57 underlying22 zar rfl (by decide) (by decide) encL zab zaj _ ((([⟨0,0,0,0⟩,⟨2,d,a,b⟩,⟨2,d,a,b⟩]:List Ln)++((List.range 4).map fun n:Nat=>(⟨2,(n:Int),a,b⟩:Ln)))++(List.range r).map (fun n:Nat=>(⟨2,d,(n:Int),b⟩:Ln))) rfl (HT.out.grow (Grow.alloc (Below.setCell HG3.out (Nat.le_refl _) _) _)).ow _ (⟨2,d,(r:Int),b⟩) 1 rfl (zan _ _ (by simp) (encL (⟨2,d,(r:Int),b⟩)) _) (by simp;try omega) (by have:=HT.out.sz;simp;omega) ?_;intro out2 w2 hown2 hgr2)
       have HT2:=jH (HT.out.app (y:=⟨2,d,(r:Int),b⟩) (Grow.alloc (Below.setCell HG3.out (Nat.le_refl _) _) _) hown2 hgr2);clear hown2 hgr2;go_roundw
       case rel=>exact ⟨r+1,by omega,by go_num,by rw [zbg _ _ r];exact HT2.out⟩
       case measure=>simp [intOf];omega
      ·have hr4:r=4:=by omega
       subst hr4;go_wp2_with fail;go_roundw
       case rel=>exact ⟨_,.inr (.inr ( ⟨by first | rfl | go_num,rfl⟩)),HT.out⟩
       case measure=>simp [intOf]
    ·obtain ⟨e0,e1,e2,e3⟩:=box4 HT.out.bx;have hz:=lt_of_block HT.out.bx;go_wp2_with fail;refine zby _ _ _ _ _ ?_;rw [show inB 2 3 6=false from by decide]
     obtain ⟨g,cap,rfl,hg1,hg2,hc1,hc2,hrow⟩:=HT.out.end_ (by simp)
     have HROW:=jH hrow;clear hrow;go_wp2_with fail;refine zch ((([⟨0,0,0,0⟩,⟨2,d,a,b⟩,⟨2,d,a,b⟩]:List Ln)++((List.range 4).map fun n:Nat=>(⟨2,(n:Int),a,b⟩:Ln))++((List.range 4).map fun n:Nat=>(⟨2,d,(n:Int),b⟩:Ln)))) 2 d a b g 11 cap w.heap.size _ (by simp) HROW.out hg2 (by omega) (by simpa using hc1) hc2 (by decide) _ ?_
     intro w3 hb3 hg3 hr3;have hle:(validL ((([⟨0,0,0,0⟩,⟨2,d,a,b⟩,⟨2,d,a,b⟩]:List Ln)++((List.range 4).map fun n:Nat=>(⟨2,(n:Int),a,b⟩:Ln))++((List.range 4).map fun n:Nat=>(⟨2,d,(n:Int),b⟩:Ln)))) (⟨2,d,a,b⟩:Ln)).length≤cap:=Nat.le_trans (zcg _ _) hc1;have HF:=jH (HR.out _ _ (Below.trans HT.out.g hb3) ⟨hr3.slc hg3 hle hc2,fun b o s n c hv=>by cases hv;omega⟩)
     clear hb3 hr3;go_wp2_with fail;exact HF.out
theorem zkg (op d a b:Int) (w:World) (hop:op=7) (hok:vL op d a b=true) (R:Ending→World→Prop)
  (hR:∀ w' v,Grow w w'→LinesN w.heap.size w' v (tmpl ⟨op,d,a,b⟩)→R (.returned v) w') :
  Calls Tryz.prog 265 #[.agg #[.int .i64 op,.int .i64 d,.int .i64 a,.int .i64 b]] w R:=by
 subst hop;have hb : -99≤d∧d≤99:=by have:=zcr (l:=⟨7,d,a,b⟩) hok;simp at this;omega
 have q1:IntKind.i64.wrap (d + -1)=d + -1:=IntWalk.i64_in _ (by omega)
 have q2:IntKind.i64.wrap (d+1)=d+1:=IntWalk.i64_in _ (by omega)
 have hraw:rawT (⟨7,d,a,b⟩:Ln)=(([⟨0,0,0,0⟩,⟨7,d + -1,a,b⟩,⟨7,d+1,a,b⟩]:List Ln)++((List.range 4).map fun n:Nat=>(⟨7,d,(n:Int),b⟩:Ln))++((List.range 4).map fun n:Nat=>(⟨7,d,a,(n:Int)⟩:Ln)))++[⟨7,d,b,a⟩]:=by simp [rawT,byL,fldL,setF,List.range_succ]
 have htm:tmpl (⟨7,d,a,b⟩:Ln)=validL (rawT (⟨7,d,a,b⟩:Ln)) (⟨7,d,a,b⟩:Ln):=by unfold tmpl;rw [if_neg (by simp)]
 rw [hraw] at htm;rw [htm] at hR;have HR:=jH hR;clear hR hraw htm hok
 go_enter func265,ntmps265
 go_wp2_with fail
 go_loopw [3,4] (fun out by_ wr=>∃ xs,((by_=.int .i64 (-1)∧xs=[⟨0,0,0,0⟩])∨(by_=.int .i64 1∧xs=[⟨0,0,0,0⟩,⟨7,d + -1,a,b⟩])∨(by_=.int .i64 3∧xs=[⟨0,0,0,0⟩,⟨7,d + -1,a,b⟩,⟨7,d+1,a,b⟩]))∧TI w (⟨7,d,a,b⟩:Ln) xs out wr) (fun _ by_ _=>(3 - intOf by_).toNat)
 case atStart=>
  refine ⟨_,.inl ⟨rfl,rfl⟩,((Grow.refl _).alloc _).alloc _,zbx _ _ _,?_⟩;have:=World.ownsRow_lit (w.alloc (.cells #[.int .i64 7,.int .i64 d,.int .i64 a,.int .i64 b] 57)) (base:=w.heap.size+1) (e:=57) (size:=4) #[.int .i64 0,.int .i64 0,.int .i64 0,.int .i64 0] 1 (by simp) (by simp [maxLen]) rfl
  rw [World.size_alloc] at this;exact this
 case round=>
  obtain ⟨xs,hc,ht⟩:=hrel;have HT:=jH ht;obtain ⟨e0,e1,e2,e3⟩:=box4 ht.bx;have hz:=lt_of_block ht.bx;clear ht;rcases hc with ⟨rfl,rfl⟩ | ⟨rfl,rfl⟩ | ⟨rfl,rfl⟩
  ·skip
   go_wp2_with (at_builtin;refine zad _ rfl (.tmp 38) (.tmp 40) 22 rfl (w.heap.size+1) 57 underlying22 zar rfl (by decide) (by decide) encL zab zaj _ ([⟨0,0,0,0⟩]) rfl (HT.out.grow (((Grow.refl _).alloc _).alloc _)).ow _ (⟨7,d + -1,a,b⟩) 1 rfl (zan _ _ (by simp) (encL (⟨7,d + -1,a,b⟩)) _) (by simp;try omega) (by have:=HT.out.sz;simp;omega) ?_;intro out2 w2 hown2 hgr2)
   have HT2:=jH (HT.out.app (y:=⟨7,d + -1,a,b⟩) (((Grow.refl _).alloc _).alloc _) hown2 hgr2);clear hown2 hgr2;go_roundw
   case rel=>exact ⟨_,.inr (.inl ⟨by first | rfl | go_num,rfl⟩),HT2.out⟩
   case measure=>simp [intOf];done
  ·skip
   go_wp2_with (at_builtin;refine zad _ rfl (.tmp 38) (.tmp 40) 22 rfl (w.heap.size+1) 57 underlying22 zar rfl (by decide) (by decide) encL zab zaj _ ([⟨0,0,0,0⟩,⟨7,d + -1,a,b⟩]) rfl (HT.out.grow (((Grow.refl _).alloc _).alloc _)).ow _ (⟨7,d+1,a,b⟩) 1 rfl (zan _ _ (by simp) (encL (⟨7,d+1,a,b⟩)) _) (by simp;try omega) (by have:=HT.out.sz;simp;omega) ?_;intro out2 w2 hown2 hgr2)
   have HT2:=jH (HT.out.app (y:=⟨7,d+1,a,b⟩) (((Grow.refl _).alloc _).alloc _) hown2 hgr2);clear hown2 hgr2;go_roundw
   case rel=>exact ⟨_,.inr (.inr ⟨by first | rfl | go_num,rfl⟩),HT2.out⟩
   case measure=>simp [intOf];done
  ·go_wp2_with fail;refine zda 7 d a b w.heap.size _ rfl HT.out.bx _ ?_;intro w1 hg1 _;have HTF:=jH (HT.out.grow hg1);clear hg1 HT e0 e1 e2 e3 hz;go_wp2_with fail
   go_loopw [3,44] (fun out k wr=>∃ xs,((k=.int .i64 0∧xs=(([⟨0,0,0,0⟩,⟨7,d + -1,a,b⟩,⟨7,d+1,a,b⟩]:List Ln)))∨(k=.int .i64 1∧xs=(([⟨0,0,0,0⟩,⟨7,d + -1,a,b⟩,⟨7,d+1,a,b⟩]:List Ln)++((List.range 4).map fun n:Nat=>(⟨7,d,(n:Int),b⟩:Ln))))∨(k=.int .i64 2∧xs=(([⟨0,0,0,0⟩,⟨7,d + -1,a,b⟩,⟨7,d+1,a,b⟩]:List Ln)++((List.range 4).map fun n:Nat=>(⟨7,d,(n:Int),b⟩:Ln))++((List.range 4).map fun n:Nat=>(⟨7,d,a,(n:Int)⟩:Ln)))))∧TI w (⟨7,d,a,b⟩:Ln) xs out wr) (fun _ k _=>(2 - intOf k).toNat)
   case atStart=>exact ⟨_,.inl ⟨rfl,rfl⟩,HTF.out⟩
   case round=>
    obtain ⟨xs,hc,ht⟩:=hrel;have HT:=jH ht;clear ht HTF;rcases hc with ⟨rfl,rfl⟩ | ⟨rfl,rfl⟩ | ⟨rfl,rfl⟩
    ·go_wp2_with fail
     go_loopw [3,47] (fun out i wr=>∃ r:Nat,r≤4∧i=.int .i64 r∧TI w (⟨7,d,a,b⟩:Ln) ((([⟨0,0,0,0⟩,⟨7,d + -1,a,b⟩,⟨7,d+1,a,b⟩]:List Ln))++(List.range r).map (fun n:Nat=>(⟨7,d,(n:Int),b⟩:Ln))) out wr) (fun _ i _=>(4 - intOf i).toNat)
     case atStart=>exact ⟨0,by omega,rfl,by rw [List.range_zero,List.map_nil,List.append_nil];exact HT.out⟩
     case round=>
      obtain ⟨r,hr,rfl,ht⟩:=hrel;clear HT;have HT:=jH ht;obtain ⟨e0,e1,e2,e3⟩:=box4 ht.bx;have hz:=lt_of_block ht.bx;clear ht;by_cases hlt:r<4
      ·have hlt2:(r:Int)<4:=by omega
       go_wp2_with fail;refine zda 7 d a b wr.heap.size _ rfl (heap_alloc_new _ _) _ ?_;intro w3 hg3 hp3;rw [World.size_alloc] at hp3 ⊢;have hm3:=hg3.blk (heap_alloc_new wr (.cells #[.int .i64 7,.int .i64 d,.int .i64 a,.int .i64 b] 57));have HG3:=jH (((Grow.refl wr).alloc _).trans hg3);obtain ⟨f0,f1,f2,f3⟩:=box4 hm3;have p0:=cellOf hp3 0 rfl;have p1:=cellOf hp3 1 rfl;have z3:=frz hm3 2;have hzm:=lt_of_block hm3;have hzp:=lt_of_block hp3;clear hg3 hp3 hm3 e0 e1 e2 e3;go_wp2_with (at_builtin;refine zad _ rfl (.tmp 57) (.tmp 59) 22 rfl (w.heap.size+1) 57 underlying22 zar rfl (by decide) (by decide) encL zab zaj _ ((([⟨0,0,0,0⟩,⟨7,d + -1,a,b⟩,⟨7,d+1,a,b⟩]:List Ln))++(List.range r).map (fun n:Nat=>(⟨7,d,(n:Int),b⟩:Ln))) rfl (HT.out.grow (Grow.alloc (Below.setCell HG3.out (Nat.le_refl _) _) _)).ow _ (⟨7,d,(r:Int),b⟩) 1 rfl (zan _ _ (by simp) (encL (⟨7,d,(r:Int),b⟩)) _) (by simp;try omega) (by have:=HT.out.sz;simp;omega) ?_;intro out2 w2 hown2 hgr2)
       have HT2:=jH (HT.out.app (y:=⟨7,d,(r:Int),b⟩) (Grow.alloc (Below.setCell HG3.out (Nat.le_refl _) _) _) hown2 hgr2);clear hown2 hgr2;go_roundw
       case rel=>exact ⟨r+1,by omega,by go_num,by rw [zbg _ _ r];exact HT2.out⟩
       case measure=>simp [intOf];omega
      ·have hr4:r=4:=by omega
       subst hr4;go_wp2_with fail;go_roundw
       case rel=>exact ⟨_,.inr (.inl ⟨by first | rfl | go_num,rfl⟩),HT.out⟩
       case measure=>simp [intOf]
    ·go_wp2_with fail
     go_loopw [3,47] (fun out i wr=>∃ r:Nat,r≤4∧i=.int .i64 r∧TI w (⟨7,d,a,b⟩:Ln) ((([⟨0,0,0,0⟩,⟨7,d + -1,a,b⟩,⟨7,d+1,a,b⟩]:List Ln)++((List.range 4).map fun n:Nat=>(⟨7,d,(n:Int),b⟩:Ln)))++(List.range r).map (fun n:Nat=>(⟨7,d,a,(n:Int)⟩:Ln))) out wr) (fun _ i _=>(4 - intOf i).toNat)
     case atStart=>exact ⟨0,by omega,rfl,by rw [List.range_zero,List.map_nil,List.append_nil];exact HT.out⟩
     case round=>
      obtain ⟨r,hr,rfl,ht⟩:=hrel;clear HT;have HT:=jH ht;obtain ⟨e0,e1,e2,e3⟩:=box4 ht.bx;have hz:=lt_of_block ht.bx;clear ht;by_cases hlt:r<4
      ·have hlt2:(r:Int)<4:=by omega
       go_wp2_with fail;refine zda 7 d a b wr.heap.size _ rfl (heap_alloc_new _ _) _ ?_;intro w3 hg3 hp3;rw [World.size_alloc] at hp3 ⊢;have hm3:=hg3.blk (heap_alloc_new wr (.cells #[.int .i64 7,.int .i64 d,.int .i64 a,.int .i64 b] 57));have HG3:=jH (((Grow.refl wr).alloc _).trans hg3);obtain ⟨f0,f1,f2,f3⟩:=box4 hm3;have p0:=cellOf hp3 0 rfl;have p1:=cellOf hp3 1 rfl;have z3:=frz hm3 3;have hzm:=lt_of_block hm3;have hzp:=lt_of_block hp3;clear hg3 hp3 hm3 e0 e1 e2 e3;go_wp2_with (at_builtin;refine zad _ rfl (.tmp 57) (.tmp 59) 22 rfl (w.heap.size+1) 57 underlying22 zar rfl (by decide) (by decide) encL zab zaj _ ((([⟨0,0,0,0⟩,⟨7,d + -1,a,b⟩,⟨7,d+1,a,b⟩]:List Ln)++((List.range 4).map fun n:Nat=>(⟨7,d,(n:Int),b⟩:Ln)))++(List.range r).map (fun n:Nat=>(⟨7,d,a,(n:Int)⟩:Ln))) rfl (HT.out.grow (Grow.alloc (Below.setCell HG3.out (Nat.le_refl _) _) _)).ow _ (⟨7,d,a,(r:Int)⟩) 1 rfl (zan _ _ (by simp) (encL (⟨7,d,a,(r:Int)⟩)) _) (by simp;try omega) (by have:=HT.out.sz;simp;omega) ?_;intro out2 w2 hown2 hgr2)
       have HT2:=jH (HT.out.app (y:=⟨7,d,a,(r:Int)⟩) (Grow.alloc (Below.setCell HG3.out (Nat.le_refl _) _) _) hown2 hgr2);clear hown2 hgr2;go_roundw
       case rel=>exact ⟨r+1,by omega,by go_num,by rw [zbg _ _ r];exact HT2.out⟩
       case measure=>simp [intOf];omega
      ·have hr4:r=4:=by omega
       subst hr4;go_wp2_with fail;go_roundw
       case rel=>exact ⟨_,.inr (.inr ( ⟨by first | rfl | go_num,rfl⟩)),HT.out⟩
       case measure=>simp [intOf]
    ·obtain ⟨e0,e1,e2,e3⟩:=box4 HT.out.bx;have hz:=lt_of_block HT.out.bx;go_wp2_with fail;have hb9:=heap_alloc_new wr (.cells #[.int .i64 7,.int .i64 d,.int .i64 a,.int .i64 b] 57);have hg9:Grow wr (wr.alloc (.cells #[.int .i64 7,.int .i64 d,.int .i64 a,.int .i64 b] 57)):=(Grow.refl wr).alloc _;have hl9:=hg9.blk HT.out.bx;clear e0 e1 e2 e3 hz;generalize wr.alloc (.cells #[.int .i64 7,.int .i64 d,.int .i64 a,.int .i64 b] 57)=W at hb9 hg9 hl9 ⊢;obtain ⟨e0,e1,e2,e3⟩:=box4 hl9;obtain ⟨m0,m1,m2,m3⟩:=box4 hb9;have z2:=frz hb9 2;have z3:=frz hb9 3;have hz:=lt_of_block hl9;have hz9:=lt_of_block hb9;have HG9:=jH hg9;have hne9:wr.heap.size≠w.heap.size:=by have:=HT.out.sz;omega
     have hwl9:w.heap.size<wr.heap.size:=by have:=HT.out.sz;omega
     have y2:(W.setCell ⟨wr.heap.size,2,none⟩ (.int .i64 b)).drew.cell? ⟨w.heap.size,2,none⟩=some (.int .i64 a):=(Below.cell (p:=⟨w.heap.size,2,none⟩) (Below.setCell (Below.refl wr.heap.size W) (Nat.le_refl _) _) hwl9).trans e2;have y3:(W.setCell ⟨wr.heap.size,2,none⟩ (.int .i64 b)).drew.frozen? ⟨wr.heap.size,3,none⟩=false:=(World.frozen?_setCell _ _ _ _).trans z3;clear hb9 hg9 hl9
     go_region
     go_wp2_with (at_builtin;refine zad _ rfl (.tmp 73) (.tmp 75) 22 rfl (w.heap.size+1) 57 underlying22 zar rfl (by decide) (by decide) encL zab zaj _ ((([⟨0,0,0,0⟩,⟨7,d + -1,a,b⟩,⟨7,d+1,a,b⟩]:List Ln)++((List.range 4).map fun n:Nat=>(⟨7,d,(n:Int),b⟩:Ln))++((List.range 4).map fun n:Nat=>(⟨7,d,a,(n:Int)⟩:Ln)))) rfl (HT.out.grow (Grow.drew (Grow.alloc (Below.setCell (Below.setCell HG9.out (Nat.le_refl _) _) (Nat.le_refl _) _) _))).ow _ (⟨7,d,b,a⟩) 1 rfl (zhz _ _ (by simp) (encL (⟨7,d,b,a⟩)) _) (by simp;try omega) (by have:=HT.out.sz;simp;omega) ?_;intro out2 w2 hown2 hgr2;have HT2:=jH (HT.out.app (y:=⟨7,d,b,a⟩) (Grow.drew (Grow.alloc (Below.setCell (Below.setCell HG9.out (Nat.le_refl _) _) (Nat.le_refl _) _) _)) hown2 hgr2);clear hown2 hgr2;obtain ⟨g0,g1,g2,g3⟩:=box4 HT2.out.bx;have hzg:=lt_of_block HT2.out.bx)
     clear HT e0 e1 e2 e3 hz m0 m1 m2 m3 z2 z3 hz9 HG9 hne9 hwl9 y2 y3;have HT:=HT2;clear HT2;refine zby _ _ _ _ _ ?_;rw [show inB 7 3 6=false from by decide]
     obtain ⟨g,cap,rfl,hg1,hg2,hc1,hc2,hrow⟩:=HT.out.end_ (by simp)
     have HROW:=jH hrow;clear hrow;go_wp2_with fail;refine zch ((([⟨0,0,0,0⟩,⟨7,d + -1,a,b⟩,⟨7,d+1,a,b⟩]:List Ln)++((List.range 4).map fun n:Nat=>(⟨7,d,(n:Int),b⟩:Ln))++((List.range 4).map fun n:Nat=>(⟨7,d,a,(n:Int)⟩:Ln)))++[⟨7,d,b,a⟩]) 7 d a b g 12 cap w.heap.size _ (by simp) HROW.out hg2 (by omega) (by simpa using hc1) hc2 (by decide) _ ?_
     intro w3 hb3 hg3 hr3;have hle:(validL ((([⟨0,0,0,0⟩,⟨7,d + -1,a,b⟩,⟨7,d+1,a,b⟩]:List Ln)++((List.range 4).map fun n:Nat=>(⟨7,d,(n:Int),b⟩:Ln))++((List.range 4).map fun n:Nat=>(⟨7,d,a,(n:Int)⟩:Ln)))++[⟨7,d,b,a⟩]) (⟨7,d,a,b⟩:Ln)).length≤cap:=Nat.le_trans (zcg _ _) hc1;have HF:=jH (HR.out _ _ (Below.trans HT.out.g hb3) ⟨hr3.slc hg3 hle hc2,fun b o s n c hv=>by cases hv;omega⟩)
     clear hb3 hr3;go_wp2_with fail;exact HF.out
theorem zjm (op d a b:Int) (w:World) (hop:3≤op∧op≤6) (hok:vL op d a b=true) (R:Ending→World→Prop)
  (hR:∀ w' v,Grow w w'→LinesN w.heap.size w' v (tmpl ⟨op,d,a,b⟩)→R (.returned v) w') :
  Calls Tryz.prog 265 #[.agg #[.int .i64 op,.int .i64 d,.int .i64 a,.int .i64 b]] w R:=by
 have _h:=hok;obtain ⟨h3,h6⟩:=hop;have n1:¬ op=1:=by omega
 have n2:¬ op=2:=by omega
 have n7:¬ op=7:=by omega
 have n0:¬ op=0:=by omega
 have t1:(op == 1)=false:=by simp;omega
 have t2:(op == 2)=false:=by simp;omega
 have t7:(op == 7)=false:=by simp;omega
 have t0:(op == 0)=false:=by simp;omega
 have t3:op≥3:=h3;have hraw:rawT (⟨op,d,a,b⟩:Ln)=(([⟨0,0,0,0⟩,⟨op,d,a,b⟩,⟨op,d,a,b⟩]:List Ln)++((List.range 4).map fun n:Nat=>(⟨op,(n:Int),a,b⟩:Ln))++((List.range 4).map fun n:Nat=>(⟨op,d,(n:Int),b⟩:Ln))++((List.range 4).map fun n:Nat=>(⟨op,d,a,(n:Int)⟩:Ln)))++[⟨op,d,b,a⟩]++((List.range 4).map fun n:Nat=>(⟨3+(n:Int),d,a,b⟩:Ln)):=by simp [rawT,byL,fldL,setF,List.range_succ,n1,n2,n7,n0,h3,h6]
 have htm:tmpl (⟨op,d,a,b⟩:Ln)=validL (rawT (⟨op,d,a,b⟩:Ln)) (⟨op,d,a,b⟩:Ln):=by unfold tmpl;rw [if_neg (by simp;omega)]
 rw [hraw] at htm;rw [htm] at hR;have HR:=jH hR;clear hR hraw htm hok
 go_enter func265,ntmps265
 go_wp2_with fail
 go_loopw [3,4] (fun out by_ wr=>∃ xs,((by_=.int .i64 (-1)∧xs=[⟨0,0,0,0⟩])∨(by_=.int .i64 1∧xs=[⟨0,0,0,0⟩,⟨op,d,a,b⟩])∨(by_=.int .i64 3∧xs=[⟨0,0,0,0⟩,⟨op,d,a,b⟩,⟨op,d,a,b⟩]))∧TI w (⟨op,d,a,b⟩:Ln) xs out wr) (fun _ by_ _=>(3 - intOf by_).toNat)
 case atStart=>
  refine ⟨_,.inl ⟨rfl,rfl⟩,((Grow.refl _).alloc _).alloc _,zbx _ _ _,?_⟩;have:=World.ownsRow_lit (w.alloc (.cells #[.int .i64 op,.int .i64 d,.int .i64 a,.int .i64 b] 57)) (base:=w.heap.size+1) (e:=57) (size:=4) #[.int .i64 0,.int .i64 0,.int .i64 0,.int .i64 0] 1 (by simp) (by simp [maxLen]) rfl
  rw [World.size_alloc] at this;exact this
 case round=>
  obtain ⟨xs,hc,ht⟩:=hrel;have HT:=jH ht;obtain ⟨e0,e1,e2,e3⟩:=box4 ht.bx;have hz:=lt_of_block ht.bx;clear ht;rcases hc with ⟨rfl,rfl⟩ | ⟨rfl,rfl⟩ | ⟨rfl,rfl⟩
  ·skip
   go_wp2_with (at_builtin;refine zad _ rfl (.tmp 38) (.tmp 40) 22 rfl (w.heap.size+1) 57 underlying22 zar rfl (by decide) (by decide) encL zab zaj _ ([⟨0,0,0,0⟩]) rfl (HT.out.grow (((Grow.refl _).alloc _).alloc _)).ow _ (⟨op,d,a,b⟩) 1 rfl (zan _ _ (by simp) (encL (⟨op,d,a,b⟩)) _) (by simp;try omega) (by have:=HT.out.sz;simp;omega) ?_;intro out2 w2 hown2 hgr2)
   have HT2:=jH (HT.out.app (y:=⟨op,d,a,b⟩) (((Grow.refl _).alloc _).alloc _) hown2 hgr2);clear hown2 hgr2;go_roundw
   case rel=>exact ⟨_,.inr (.inl ⟨by first | rfl | go_num,rfl⟩),HT2.out⟩
   case measure=>simp [intOf];done
  ·skip
   go_wp2_with (at_builtin;refine zad _ rfl (.tmp 38) (.tmp 40) 22 rfl (w.heap.size+1) 57 underlying22 zar rfl (by decide) (by decide) encL zab zaj _ ([⟨0,0,0,0⟩,⟨op,d,a,b⟩]) rfl (HT.out.grow (((Grow.refl _).alloc _).alloc _)).ow _ (⟨op,d,a,b⟩) 1 rfl (zan _ _ (by simp) (encL (⟨op,d,a,b⟩)) _) (by simp;try omega) (by have:=HT.out.sz;simp;omega) ?_;intro out2 w2 hown2 hgr2)
   have HT2:=jH (HT.out.app (y:=⟨op,d,a,b⟩) (((Grow.refl _).alloc _).alloc _) hown2 hgr2);clear hown2 hgr2;go_roundw
   case rel=>exact ⟨_,.inr (.inr ⟨by first | rfl | go_num,rfl⟩),HT2.out⟩
   case measure=>simp [intOf];done
  ·go_wp2_with fail;refine zcl op d a b w.heap.size _ ⟨h3,h6⟩ HT.out.bx _ ?_;intro w1 hg1 _;have HTF:=jH (HT.out.grow hg1);clear hg1 HT e0 e1 e2 e3 hz;go_wp2_with fail
   go_loopw [3,44] (fun out k wr=>∃ xs,((k=.int .i64 0∧xs=(([⟨0,0,0,0⟩,⟨op,d,a,b⟩,⟨op,d,a,b⟩]:List Ln)))∨(k=.int .i64 1∧xs=(([⟨0,0,0,0⟩,⟨op,d,a,b⟩,⟨op,d,a,b⟩]:List Ln)++((List.range 4).map fun n:Nat=>(⟨op,(n:Int),a,b⟩:Ln))))∨(k=.int .i64 2∧xs=(([⟨0,0,0,0⟩,⟨op,d,a,b⟩,⟨op,d,a,b⟩]:List Ln)++((List.range 4).map fun n:Nat=>(⟨op,(n:Int),a,b⟩:Ln))++((List.range 4).map fun n:Nat=>(⟨op,d,(n:Int),b⟩:Ln))))∨(k=.int .i64 3∧xs=(([⟨0,0,0,0⟩,⟨op,d,a,b⟩,⟨op,d,a,b⟩]:List Ln)++((List.range 4).map fun n:Nat=>(⟨op,(n:Int),a,b⟩:Ln))++((List.range 4).map fun n:Nat=>(⟨op,d,(n:Int),b⟩:Ln))++((List.range 4).map fun n:Nat=>(⟨op,d,a,(n:Int)⟩:Ln)))))∧TI w (⟨op,d,a,b⟩:Ln) xs out wr) (fun _ k _=>(3 - intOf k).toNat)
   case atStart=>exact ⟨_,.inl ⟨rfl,rfl⟩,HTF.out⟩
   case round=>
    obtain ⟨xs,hc,ht⟩:=hrel;have HT:=jH ht;clear ht HTF;rcases hc with ⟨rfl,rfl⟩ | ⟨rfl,rfl⟩ | ⟨rfl,rfl⟩ | ⟨rfl,rfl⟩
    ·go_wp2_with fail
     go_loopw [3,47] (fun out i wr=>∃ r:Nat,r≤4∧i=.int .i64 r∧TI w (⟨op,d,a,b⟩:Ln) ((([⟨0,0,0,0⟩,⟨op,d,a,b⟩,⟨op,d,a,b⟩]:List Ln))++(List.range r).map (fun n:Nat=>(⟨op,(n:Int),a,b⟩:Ln))) out wr) (fun _ i _=>(4 - intOf i).toNat)
     case atStart=>exact ⟨0,by omega,rfl,by rw [List.range_zero,List.map_nil,List.append_nil];exact HT.out⟩
     case round=>
      obtain ⟨r,hr,rfl,ht⟩:=hrel;clear HT;have HT:=jH ht;obtain ⟨e0,e1,e2,e3⟩:=box4 ht.bx;have hz:=lt_of_block ht.bx;clear ht;by_cases hlt:r<4
      ·have hlt2:(r:Int)<4:=by omega
       go_wp2_with fail;refine zcl op d a b wr.heap.size _ ⟨h3,h6⟩ (heap_alloc_new _ _) _ ?_;intro w3 hg3 hp3;rw [World.size_alloc] at hp3 ⊢;have hm3:=hg3.blk (heap_alloc_new wr (.cells #[.int .i64 op,.int .i64 d,.int .i64 a,.int .i64 b] 57));have HG3:=jH (((Grow.refl wr).alloc _).trans hg3);obtain ⟨f0,f1,f2,f3⟩:=box4 hm3;have p0:=cellOf hp3 0 rfl;have p1:=cellOf hp3 1 rfl;have p2:=cellOf hp3 2 rfl;have z3:=frz hm3 1;have hzm:=lt_of_block hm3;have hzp:=lt_of_block hp3;clear hg3 hp3 hm3 e0 e1 e2 e3;go_wp2_with (at_builtin;refine zad _ rfl (.tmp 57) (.tmp 59) 22 rfl (w.heap.size+1) 57 underlying22 zar rfl (by decide) (by decide) encL zab zaj _ ((([⟨0,0,0,0⟩,⟨op,d,a,b⟩,⟨op,d,a,b⟩]:List Ln))++(List.range r).map (fun n:Nat=>(⟨op,(n:Int),a,b⟩:Ln))) rfl (HT.out.grow (Grow.alloc (Below.setCell HG3.out (Nat.le_refl _) _) _)).ow _ (⟨op,(r:Int),a,b⟩) 1 rfl (zan _ _ (by simp) (encL (⟨op,(r:Int),a,b⟩)) _) (by simp;try omega) (by have:=HT.out.sz;simp;omega) ?_;intro out2 w2 hown2 hgr2)
       have HT2:=jH (HT.out.app (y:=⟨op,(r:Int),a,b⟩) (Grow.alloc (Below.setCell HG3.out (Nat.le_refl _) _) _) hown2 hgr2);clear hown2 hgr2;go_roundw
       case rel=>exact ⟨r+1,by omega,by go_num,by rw [zbg _ _ r];exact HT2.out⟩
       case measure=>simp [intOf];omega
      ·have hr4:r=4:=by omega
       subst hr4;go_wp2_with fail;go_roundw
       case rel=>exact ⟨_,.inr (.inl ⟨by first | rfl | go_num,rfl⟩),HT.out⟩
       case measure=>simp [intOf]
    ·go_wp2_with fail
     go_loopw [3,47] (fun out i wr=>∃ r:Nat,r≤4∧i=.int .i64 r∧TI w (⟨op,d,a,b⟩:Ln) ((([⟨0,0,0,0⟩,⟨op,d,a,b⟩,⟨op,d,a,b⟩]:List Ln)++((List.range 4).map fun n:Nat=>(⟨op,(n:Int),a,b⟩:Ln)))++(List.range r).map (fun n:Nat=>(⟨op,d,(n:Int),b⟩:Ln))) out wr) (fun _ i _=>(4 - intOf i).toNat)
     case atStart=>exact ⟨0,by omega,rfl,by rw [List.range_zero,List.map_nil,List.append_nil];exact HT.out⟩
     case round=>
      obtain ⟨r,hr,rfl,ht⟩:=hrel;clear HT;have HT:=jH ht;obtain ⟨e0,e1,e2,e3⟩:=box4 ht.bx;have hz:=lt_of_block ht.bx;clear ht;by_cases hlt:r<4
      ·have hlt2:(r:Int)<4:=by omega
       go_wp2_with fail;refine zcl op d a b wr.heap.size _ ⟨h3,h6⟩ (heap_alloc_new _ _) _ ?_;intro w3 hg3 hp3;rw [World.size_alloc] at hp3 ⊢;have hm3:=hg3.blk (heap_alloc_new wr (.cells #[.int .i64 op,.int .i64 d,.int .i64 a,.int .i64 b] 57));have HG3:=jH (((Grow.refl wr).alloc _).trans hg3);obtain ⟨f0,f1,f2,f3⟩:=box4 hm3;have p0:=cellOf hp3 0 rfl;have p1:=cellOf hp3 1 rfl;have p2:=cellOf hp3 2 rfl;have z3:=frz hm3 2;have hzm:=lt_of_block hm3;have hzp:=lt_of_block hp3;clear hg3 hp3 hm3 e0 e1 e2 e3;go_wp2_with (at_builtin;refine zad _ rfl (.tmp 57) (.tmp 59) 22 rfl (w.heap.size+1) 57 underlying22 zar rfl (by decide) (by decide) encL zab zaj _ ((([⟨0,0,0,0⟩,⟨op,d,a,b⟩,⟨op,d,a,b⟩]:List Ln)++((List.range 4).map fun n:Nat=>(⟨op,(n:Int),a,b⟩:Ln)))++(List.range r).map (fun n:Nat=>(⟨op,d,(n:Int),b⟩:Ln))) rfl (HT.out.grow (Grow.alloc (Below.setCell HG3.out (Nat.le_refl _) _) _)).ow _ (⟨op,d,(r:Int),b⟩) 1 rfl (zan _ _ (by simp) (encL (⟨op,d,(r:Int),b⟩)) _) (by simp;try omega) (by have:=HT.out.sz;simp;omega) ?_;intro out2 w2 hown2 hgr2)
       have HT2:=jH (HT.out.app (y:=⟨op,d,(r:Int),b⟩) (Grow.alloc (Below.setCell HG3.out (Nat.le_refl _) _) _) hown2 hgr2);clear hown2 hgr2;go_roundw
       case rel=>exact ⟨r+1,by omega,by go_num,by rw [zbg _ _ r];exact HT2.out⟩
       case measure=>simp [intOf];omega
      ·have hr4:r=4:=by omega
       subst hr4;go_wp2_with fail;go_roundw
       case rel=>exact ⟨_,.inr (.inr (.inl ⟨by first | rfl | go_num,rfl⟩)),HT.out⟩
       case measure=>simp [intOf]
    ·go_wp2_with fail
     go_loopw [3,47] (fun out i wr=>∃ r:Nat,r≤4∧i=.int .i64 r∧TI w (⟨op,d,a,b⟩:Ln) ((([⟨0,0,0,0⟩,⟨op,d,a,b⟩,⟨op,d,a,b⟩]:List Ln)++((List.range 4).map fun n:Nat=>(⟨op,(n:Int),a,b⟩:Ln))++((List.range 4).map fun n:Nat=>(⟨op,d,(n:Int),b⟩:Ln)))++(List.range r).map (fun n:Nat=>(⟨op,d,a,(n:Int)⟩:Ln))) out wr) (fun _ i _=>(4 - intOf i).toNat)
     case atStart=>exact ⟨0,by omega,rfl,by rw [List.range_zero,List.map_nil,List.append_nil];exact HT.out⟩
     case round=>
      obtain ⟨r,hr,rfl,ht⟩:=hrel;clear HT;have HT:=jH ht;obtain ⟨e0,e1,e2,e3⟩:=box4 ht.bx;have hz:=lt_of_block ht.bx;clear ht;by_cases hlt:r<4
      ·have hlt2:(r:Int)<4:=by omega
       go_wp2_with fail;refine zcl op d a b wr.heap.size _ ⟨h3,h6⟩ (heap_alloc_new _ _) _ ?_;intro w3 hg3 hp3;rw [World.size_alloc] at hp3 ⊢;have hm3:=hg3.blk (heap_alloc_new wr (.cells #[.int .i64 op,.int .i64 d,.int .i64 a,.int .i64 b] 57));have HG3:=jH (((Grow.refl wr).alloc _).trans hg3);obtain ⟨f0,f1,f2,f3⟩:=box4 hm3;have p0:=cellOf hp3 0 rfl;have p1:=cellOf hp3 1 rfl;have p2:=cellOf hp3 2 rfl;have z3:=frz hm3 3;have hzm:=lt_of_block hm3;have hzp:=lt_of_block hp3;clear hg3 hp3 hm3 e0 e1 e2 e3;go_wp2_with (at_builtin;refine zad _ rfl (.tmp 57) (.tmp 59) 22 rfl (w.heap.size+1) 57 underlying22 zar rfl (by decide) (by decide) encL zab zaj _ ((([⟨0,0,0,0⟩,⟨op,d,a,b⟩,⟨op,d,a,b⟩]:List Ln)++((List.range 4).map fun n:Nat=>(⟨op,(n:Int),a,b⟩:Ln))++((List.range 4).map fun n:Nat=>(⟨op,d,(n:Int),b⟩:Ln)))++(List.range r).map (fun n:Nat=>(⟨op,d,a,(n:Int)⟩:Ln))) rfl (HT.out.grow (Grow.alloc (Below.setCell HG3.out (Nat.le_refl _) _) _)).ow _ (⟨op,d,a,(r:Int)⟩) 1 rfl (zan _ _ (by simp) (encL (⟨op,d,a,(r:Int)⟩)) _) (by simp;try omega) (by have:=HT.out.sz;simp;omega) ?_;intro out2 w2 hown2 hgr2)
       have HT2:=jH (HT.out.app (y:=⟨op,d,a,(r:Int)⟩) (Grow.alloc (Below.setCell HG3.out (Nat.le_refl _) _) _) hown2 hgr2);clear hown2 hgr2;go_roundw
       case rel=>exact ⟨r+1,by omega,by go_num,by rw [zbg _ _ r];exact HT2.out⟩
       case measure=>simp [intOf];omega
      ·have hr4:r=4:=by omega
       subst hr4;go_wp2_with fail;go_roundw
       case rel=>exact ⟨_,.inr (.inr (.inr ( ⟨by first | rfl | go_num,rfl⟩))),HT.out⟩
       case measure=>simp [intOf]
    ·obtain ⟨e0,e1,e2,e3⟩:=box4 HT.out.bx;have hz:=lt_of_block HT.out.bx;go_wp2_with fail;have hb9:=heap_alloc_new wr (.cells #[.int .i64 op,.int .i64 d,.int .i64 a,.int .i64 b] 57);have hg9:Grow wr (wr.alloc (.cells #[.int .i64 op,.int .i64 d,.int .i64 a,.int .i64 b] 57)):=(Grow.refl wr).alloc _;have hl9:=hg9.blk HT.out.bx;clear e0 e1 e2 e3 hz;generalize wr.alloc (.cells #[.int .i64 op,.int .i64 d,.int .i64 a,.int .i64 b] 57)=W at hb9 hg9 hl9 ⊢;obtain ⟨e0,e1,e2,e3⟩:=box4 hl9;obtain ⟨m0,m1,m2,m3⟩:=box4 hb9;have z2:=frz hb9 2;have z3:=frz hb9 3;have hz:=lt_of_block hl9;have hz9:=lt_of_block hb9;have HG9:=jH hg9;have hne9:wr.heap.size≠w.heap.size:=by have:=HT.out.sz;omega
     have hwl9:w.heap.size<wr.heap.size:=by have:=HT.out.sz;omega
     have y2:(W.setCell ⟨wr.heap.size,2,none⟩ (.int .i64 b)).drew.cell? ⟨w.heap.size,2,none⟩=some (.int .i64 a):=(Below.cell (p:=⟨w.heap.size,2,none⟩) (Below.setCell (Below.refl wr.heap.size W) (Nat.le_refl _) _) hwl9).trans e2;have y3:(W.setCell ⟨wr.heap.size,2,none⟩ (.int .i64 b)).drew.frozen? ⟨wr.heap.size,3,none⟩=false:=(World.frozen?_setCell _ _ _ _).trans z3;clear hb9 hg9 hl9
     go_region
     go_wp2_with (at_builtin;refine zad _ rfl (.tmp 73) (.tmp 75) 22 rfl (w.heap.size+1) 57 underlying22 zar rfl (by decide) (by decide) encL zab zaj _ ((([⟨0,0,0,0⟩,⟨op,d,a,b⟩,⟨op,d,a,b⟩]:List Ln)++((List.range 4).map fun n:Nat=>(⟨op,(n:Int),a,b⟩:Ln))++((List.range 4).map fun n:Nat=>(⟨op,d,(n:Int),b⟩:Ln))++((List.range 4).map fun n:Nat=>(⟨op,d,a,(n:Int)⟩:Ln)))) rfl (HT.out.grow (Grow.drew (Grow.alloc (Below.setCell (Below.setCell HG9.out (Nat.le_refl _) _) (Nat.le_refl _) _) _))).ow _ (⟨op,d,b,a⟩) 1 rfl (zie _ _ (by simp) (encL (⟨op,d,b,a⟩)) _) (by simp;try omega) (by have:=HT.out.sz;simp;omega) ?_;intro out2 w2 hown2 hgr2;have HT2:=jH (HT.out.app (y:=⟨op,d,b,a⟩) (Grow.drew (Grow.alloc (Below.setCell (Below.setCell HG9.out (Nat.le_refl _) _) (Nat.le_refl _) _) _)) hown2 hgr2);clear hown2 hgr2;obtain ⟨g0,g1,g2,g3⟩:=box4 HT2.out.bx;have hzg:=lt_of_block HT2.out.bx)
     clear HT e0 e1 e2 e3 hz m0 m1 m2 m3 z2 z3 hz9 HG9 hne9 hwl9 y2 y3;have HT:=HT2;clear HT2;refine zby _ _ _ _ _ ?_;rw [zbd.2 ⟨h3,h6⟩];go_wp2_with fail
     go_loopw [3,10] (fun out o wr=>∃ j k:Nat,k=3+j∧j≤4∧o=.int .i64 k∧TI w (⟨op,d,a,b⟩:Ln) ((([⟨0,0,0,0⟩,⟨op,d,a,b⟩,⟨op,d,a,b⟩]:List Ln)++((List.range 4).map fun n:Nat=>(⟨op,(n:Int),a,b⟩:Ln))++((List.range 4).map fun n:Nat=>(⟨op,d,(n:Int),b⟩:Ln))++((List.range 4).map fun n:Nat=>(⟨op,d,a,(n:Int)⟩:Ln)))++[⟨op,d,b,a⟩]++(List.range j).map (fun n:Nat=>(⟨3+(n:Int),d,a,b⟩:Ln))) out wr) (fun _ o _=>(7 - intOf o).toNat)
     case atStart=>exact ⟨0,3,rfl,by omega,rfl,by rw [List.range_zero,List.map_nil,List.append_nil];exact HT.out⟩
     case round=>
      obtain ⟨j,k,hk,hj,rfl,ht⟩:=hrel;clear HT g0 g1 g2 g3 hzg;have HT:=jH ht;have HK:=jH hk;obtain ⟨e0,e1,e2,e3⟩:=box4 ht.bx;have hz:=lt_of_block ht.bx;clear ht;by_cases hlt:j<4
      ·have hlt2:(k:Int)≤6:=by omega
       clear hk;go_wp2_with (at_builtin;refine zad _ rfl (.tmp 87) (.tmp 89) 22 rfl (w.heap.size+1) 57 underlying22 zar rfl (by decide) (by decide) encL zab zaj _ ((([⟨0,0,0,0⟩,⟨op,d,a,b⟩,⟨op,d,a,b⟩]:List Ln)++((List.range 4).map fun n:Nat=>(⟨op,(n:Int),a,b⟩:Ln))++((List.range 4).map fun n:Nat=>(⟨op,d,(n:Int),b⟩:Ln))++((List.range 4).map fun n:Nat=>(⟨op,d,a,(n:Int)⟩:Ln)))++[⟨op,d,b,a⟩]++(List.range j).map (fun n:Nat=>(⟨3+(n:Int),d,a,b⟩:Ln))) rfl (HT.out.grow (((Grow.refl _).alloc _).alloc _)).ow _ (⟨(k:Int),d,a,b⟩) 1 rfl (zan _ _ (by simp) (encL (⟨(k:Int),d,a,b⟩)) _) (by simp;try omega) (by have:=HT.out.sz;simp;omega) ?_;intro out2 w2 hown2 hgr2)
       have HT2:=jH (HT.out.app (y:=⟨(k:Int),d,a,b⟩) (((Grow.refl _).alloc _).alloc _) hown2 hgr2);clear hown2 hgr2;go_roundw
       case rel=>exact ⟨j+1,k+1,by have:=HK.out;omega,by omega,by go_num,by rw [zbg _ _ j,show (3+(j:Int))=(k:Int) by have:=HK.out;omega];exact HT2.out⟩
       case measure=>simp [intOf];omega
      ·have hj4:j=4:=by omega
       subst hj4;subst hk;obtain ⟨g,cap,rfl,hg1,hg2,hc1,hc2,hrow⟩:=HT.out.end_ (by simp)
       have HROW:=jH hrow;clear hrow;go_wp2_with fail;refine zch ((([⟨0,0,0,0⟩,⟨op,d,a,b⟩,⟨op,d,a,b⟩]:List Ln)++((List.range 4).map fun n:Nat=>(⟨op,(n:Int),a,b⟩:Ln))++((List.range 4).map fun n:Nat=>(⟨op,d,(n:Int),b⟩:Ln))++((List.range 4).map fun n:Nat=>(⟨op,d,a,(n:Int)⟩:Ln)))++[⟨op,d,b,a⟩]++(List.range 4).map (fun n:Nat=>(⟨3+(n:Int),d,a,b⟩:Ln))) op d a b g 20 cap w.heap.size _ (by simp) HROW.out hg2 (by omega) (by simpa using hc1) hc2 (by decide) _ ?_
       intro w3 hb3 hg3 hr3;have hle:(validL ((([⟨0,0,0,0⟩,⟨op,d,a,b⟩,⟨op,d,a,b⟩]:List Ln)++((List.range 4).map fun n:Nat=>(⟨op,(n:Int),a,b⟩:Ln))++((List.range 4).map fun n:Nat=>(⟨op,d,(n:Int),b⟩:Ln))++((List.range 4).map fun n:Nat=>(⟨op,d,a,(n:Int)⟩:Ln)))++[⟨op,d,b,a⟩]++(List.range 4).map (fun n:Nat=>(⟨3+(n:Int),d,a,b⟩:Ln))) (⟨op,d,a,b⟩:Ln)).length≤cap:=Nat.le_trans (zcg _ _) hc1;have HF:=jH (HR.out _ _ (Below.trans HT.out.g hb3) ⟨hr3.slc hg3 hle hc2,fun b o s n c hv=>by cases hv;omega⟩)
       clear hb3 hr3;go_wp2_with fail;exact HF.out
theorem zgm (op d a b:Int) (w:World) (hok:vL op d a b=true) (R:Ending→World→Prop)
  (hR:∀ w' v,Grow w w'→LinesN w.heap.size w' v (tmpl ⟨op,d,a,b⟩)→R (.returned v) w') :
  Calls Tryz.prog 265 #[.agg #[.int .i64 op,.int .i64 d,.int .i64 a,.int .i64 b]] w R:=by
 have hc:=zcr (l:=⟨op,d,a,b⟩) hok;simp only at hc;by_cases h0:op=0
 ·subst h0;have HF:=jH (hR _ (.slice none 0 0) ((Grow.refl w).alloc (.cells #[.int .i64 0,.int .i64 d,.int .i64 a,.int .i64 b] 57)) ⟨SlcAt.nil _ _ _,fun b o s n c hv=>by cases hv⟩)
  clear hR hc hok
  go_enter func265,ntmps265
  go_wp2_with fail;exact HF.out
 ·by_cases h1:op=1
  ·exact zkr op d a b w h1 hok R hR
  ·by_cases h2:op=2
   ·exact zkn op d a b w h2 hok R hR
   ·by_cases h7:op=7
    ·exact zkg op d a b w h7 hok R hR
    ·exact zjm op d a b w (by omega) hok R hR
theorem znp (op d a b:Int) (w:World) (hok:vL op d a b=true) (R:Ending→World→Prop)
  (hR:∀ w' v,Grow w w'→LinesAt w' v (tmpl ⟨op,d,a,b⟩)→R (.returned v) w') :
  Calls Tryz.prog 265 #[.agg #[.int .i64 op,.int .i64 d,.int .i64 a,.int .i64 b]] w R:=
 zgm op d a b w hok R fun w' v g h=>hR w' v g h.1
theorem keep8 {w2 X Y:World} {a0 a1 a2 a3 a4 a5 a6 a7:Addr} {v0 v1 v2 v3 v4 v5 v6 v7:Value} (g:Grow X Y)
  (h:X.cell? a0=some v0∧X.cell? a1=some v1∧X.cell? a2=some v2∧X.cell? a3=some v3∧X.cell? a4=some v4∧X.cell? a5=some v5∧X.cell? a6=some v6∧X.cell? a7=some v7∧Grow w2 X) :
  Y.cell? a0=some v0∧Y.cell? a1=some v1∧Y.cell? a2=some v2∧Y.cell? a3=some v3∧Y.cell? a4=some v4∧Y.cell? a5=some v5∧Y.cell? a6=some v6∧Y.cell? a7=some v7∧Grow w2 Y:=
 ⟨g.cell h.1,g.cell h.2.1,g.cell h.2.2.1,g.cell h.2.2.2.1,g.cell h.2.2.2.2.1,g.cell h.2.2.2.2.2.1,g.cell h.2.2.2.2.2.2.1,g.cell h.2.2.2.2.2.2.2.1,h.2.2.2.2.2.2.2.2.trans g⟩
set_option maxRecDepth 100000
set_option maxHeartbeats 8000000
theorem own_end {w:World} {base:Nat} {x:Value} {xs:List Ln} (h:Own 4 encL base w x xs) (hp:0<xs.length):∃ g cap,x=.slice (some ⟨g,0,none⟩) xs.length cap∧base≤g∧g<w.heap.size∧xs.length≤cap∧cap≤9223372036854775807∧RowL w g 0 xs:=by
 obtain ⟨e,h⟩:=h;have h':=h;rcases h.2 with ⟨_,h0⟩ | ⟨g,cap,cur,rfl,hg,hh,_⟩
 ·omega
 ·obtain ⟨_,c,e,h1,h2,_⟩:=zaa zab h';cases e;exact ⟨g,cap,rfl,hg,lt_of_block hh,h1,h2,RowL.of_own h'⟩
theorem keep4 {w2 X Y:World} {a0 a1 a2 a3:Addr} {v0 v1 v2 v3:Value} (g:Grow X Y)
  (h:X.cell? a0=some v0∧X.cell? a1=some v1∧X.cell? a2=some v2∧X.cell? a3=some v3∧Grow w2 X) :
  Y.cell? a0=some v0∧Y.cell? a1=some v1∧Y.cell? a2=some v2∧Y.cell? a3=some v3∧Grow w2 Y:=
 ⟨g.cell h.1,g.cell h.2.1,g.cell h.2.2.1,g.cell h.2.2.2.1,h.2.2.2.2.trans g⟩
theorem keep4b {w2 X Y:World} {b o0 o1 o2 o3:Nat} {v0 v1 v2 v3:Value} (hb:b<w2.heap.size) (g:Below w2.heap.size X Y)
  (h:X.cell? ⟨b,o0,none⟩=some v0∧X.cell? ⟨b,o1,none⟩=some v1∧X.cell? ⟨b,o2,none⟩=some v2∧X.cell? ⟨b,o3,none⟩=some v3∧Grow w2 X) :
  Y.cell? ⟨b,o0,none⟩=some v0∧Y.cell? ⟨b,o1,none⟩=some v1∧Y.cell? ⟨b,o2,none⟩=some v2∧Y.cell? ⟨b,o3,none⟩=some v3∧Grow w2 Y:=
 have k:∀ {o:Nat} {v:Value},X.cell? ⟨b,o,none⟩=some v→Y.cell? ⟨b,o,none⟩=some v:=fun {o _} e=>(Below.cell (p:=⟨b,o,none⟩) g hb).trans e
 ⟨k h.1,k h.2.1,k h.2.2.1,k h.2.2.2.1,Below.trans h.2.2.2.2 g⟩
theorem zzd (p:List Ln) (at_:Nat) (op d a b:Int) (v:Value) (w:World) (hv:LinesAt w v p) (hp:p[at_]?=some ⟨op,d,a,b⟩) (hok:vL op d a b=true) (R:Ending→World→Prop)
  (hR:∀ w' x,Grow w w'→LinesAt w' x (tmpl ⟨op,d,a,b⟩)→R (.returned x) w') :
  Calls Tryz.prog 275 #[v,.int .i64 at_,.iface 285 (.agg #[])] w R:=by
 have HR:=jH hR;have hlt:at_<p.length:=(List.getElem?_eq_some_iff.1 hp).1;obtain ⟨va,vc,rfl,v1,v2,v3⟩:=hv;replace v3:=v3.resolve_left (by intro h;simp [h.1] at hlt)
 obtain ⟨g,o,rfl,hb,hc⟩:=v3;obtain ⟨f0,f1,f2,f3⟩:=zbf hc at_ op d a b hp;have hlt2:(at_:Int)<(p.length:Int):=by omega
 have HOK:=jH hok;clear hR hc hp hok;have ta_near:∀ W,(Instr.typeAssert (.iface 285 (.agg #[])) 261 285 true).run Tryz.prog W=.ok (.tuple #[.agg #[],.bool true]) W:=fun W=>by kernel_rfl
 go_enter func275,ntmps275
 go_wp2_with fail;refine znp op d a b _ HOK.out _ ?_;intro w1 x1 hg1 hx1;have HF:=jH (HR.out w1 x1 hg1 hx1);clear hg1 hx1;go_wp2_with fail;exact HF.out
theorem zzh (p:List Ln) (at_:Nat) (op d a b:Int) (v:Value) (w:World) (hv:LinesAt w v p) (hp:p[at_]?=some ⟨op,d,a,b⟩) (hsz:p.length<10000000) (R:Ending→World→Prop)
  (hR:∀ w' x,Grow w w'→LinesAt w' x (validL p ⟨op,d,a,b⟩)→R (.returned x) w') :
  Calls Tryz.prog 275 #[v,.int .i64 at_,.iface 286 (.agg #[])] w R:=by
 have HR:=jH hR;have HV:=jH hv;have hlt:at_<p.length:=(List.getElem?_eq_some_iff.1 hp).1;have HPOS:=jH (show 0<p.length by omega)
 obtain ⟨va,vc,rfl,v1,v2,v3⟩:=hv;replace v3:=v3.resolve_left (by intro h;simp [h.1] at hlt)
 obtain ⟨g,o,rfl,hb,hc⟩:=v3;obtain ⟨f0,f1,f2,f3⟩:=zbf hc at_ op d a b hp;have hlt2:(at_:Int)<(p.length:Int):=by omega
 have HSZ:=jH hsz;have HSM:=jH (show p.length<4611686018427387904 by omega)
 clear hR hc hp hsz;have ta_near:∀ W,(Instr.typeAssert (.iface 286 (.agg #[])) 261 285 true).run Tryz.prog W=.ok (.tuple #[.agg #[],.bool false]) W:=fun W=>by kernel_rfl
 have ta_own:∀ W,(Instr.typeAssert (.iface 286 (.agg #[])) 261 286 true).run Tryz.prog W=.ok (.tuple #[.agg #[],.bool true]) W:=fun W=>by kernel_rfl
 go_enter func275,ntmps275
 go_wp2_with fail
 go_region_held3 (fun X=>X.cell? ⟨g,o+at_ * 4,none⟩=some (.int .i64 op)∧X.cell? ⟨g,o+at_ * 4+1,none⟩=some (.int .i64 d)∧X.cell? ⟨g,o+at_ * 4+2,none⟩=some (.int .i64 a)∧X.cell? ⟨g,o+at_ * 4+3,none⟩=some (.int .i64 b)∧Grow w X)
  (first | exact ⟨f0,f1,f2,f3,(Grow.refl w).drew⟩ | exact ⟨f0,f1,f2,f3,Grow.refl w⟩ | exact keep4b hb hb9 (by assumption) | exact keep4 hg8 (by assumption))
  (first | (go_at_call 52;refine zqd p _ _ ?_ (by have:=HSZ.out;omega) _ ?_;exact HV.out.grow (And.right (And.right (And.right (And.right ‹_›))));intro w8 x8 hg8 ho8;obtain ⟨g8,cap8,rfl,k1,k2,k3,k4,hr8⟩:=own_end ho8 HPOS.out;have kb:=Nat.le_trans (Grow.sz (And.right (And.right (And.right (And.right ‹_›))))) k1) | (go_at_call 278;refine zch p op d a b g8 _ cap8 w.heap.size _ rfl ?_ ?_ ?_ k3 k4 ?_ _ ?_;(first | exact hr8 | exact hr8.grow ((Grow.refl _).drew) k2);(first | exact k2 | (simp;omega));exact kb;exact HSM.out;intro w9 hb9 hg9 hr9))
 rename_i hx
 have hgf:Grow w w9:=hx.2.2.2.2;have HF:=jH (HR.out w9 _ hgf (hr9.slc hg9 (Nat.le_trans (zcg _ _) k3) k4));go_wp2_with fail;exact HF.out
theorem zyt (p:List Ln) (at_:Nat) (op d a b:Int) (v:Value) (w:World) (hv:LinesAt w v p) (hp:p[at_]?=some ⟨op,d,a,b⟩) (R:Ending→World→Prop)
  (hR:∀ w' x,Grow w w'→LinesAt w' x (validL allR ⟨op,d,a,b⟩)→R (.returned x) w') :
  Calls Tryz.prog 275 #[v,.int .i64 at_,.iface 287 (.agg #[])] w R:=by
 have HR:=jH hR;have hlt:at_<p.length:=(List.getElem?_eq_some_iff.1 hp).1;obtain ⟨va,vc,rfl,v1,v2,v3⟩:=hv;replace v3:=v3.resolve_left (by intro h;simp [h.1] at hlt)
 obtain ⟨g,o,rfl,hb,hc⟩:=v3;obtain ⟨f0,f1,f2,f3⟩:=zbf hc at_ op d a b hp;have hlt2:(at_:Int)<(p.length:Int):=by omega
 have HSM:=jH (show allR.length<4611686018427387904 by decide +kernel)
 clear hR hc hp;have ta_near:∀ W,(Instr.typeAssert (.iface 287 (.agg #[])) 261 285 true).run Tryz.prog W=.ok (.tuple #[.agg #[],.bool false]) W:=fun W=>by kernel_rfl
 have ta_own:∀ W,(Instr.typeAssert (.iface 287 (.agg #[])) 261 286 true).run Tryz.prog W=.ok (.tuple #[.agg #[],.bool false]) W:=fun W=>by kernel_rfl
 go_enter func275,ntmps275
 go_wp2_with fail
 go_region_held3 (fun X=>X.cell? ⟨g,o+at_ * 4,none⟩=some (.int .i64 op)∧X.cell? ⟨g,o+at_ * 4+1,none⟩=some (.int .i64 d)∧X.cell? ⟨g,o+at_ * 4+2,none⟩=some (.int .i64 a)∧X.cell? ⟨g,o+at_ * 4+3,none⟩=some (.int .i64 b)∧Grow w X)
  (first | exact ⟨f0,f1,f2,f3,(Grow.refl w).drew⟩ | exact ⟨f0,f1,f2,f3,Grow.refl w⟩ | exact keep4b hb hb9 (by assumption) | exact keep4 hg8 (by assumption))
  (first | (go_at_call 291;refine All_any _ _ ?_;intro w8 g8 cap8 hg8 k1 k2 k3 k4 hr8;have kb:=Nat.le_trans (Grow.sz (And.right (And.right (And.right (And.right ‹_›))))) k1) | (go_at_call 278;refine zch allR op d a b g8 _ cap8 w.heap.size _ rfl ?_ ?_ ?_ k3 k4 ?_ _ ?_;(first | exact hr8 | exact hr8.grow ((Grow.refl _).drew) k2);(first | exact k2 | (simp;omega));exact kb;exact HSM.out;intro w9 hb9 hg9 hr9))
 rename_i hx
 have hgf:Grow w w9:=hx.2.2.2.2;have HF:=jH (HR.out w9 _ hgf (hr9.slc hg9 (Nat.le_trans (zcg _ _) k3) k4));go_wp2_with fail;exact HF.out
def lineAt (p:List Ln) (at_:Int):Ln:=(p[at_.toNat]?).getD ⟨0,0,0,0⟩
theorem zpq (w:World) (R:Ending→World→Prop)
  (hR:R (.returned (.slice (some ⟨w.heap.size,0,none⟩) 3 3)) (w.alloc (.cells #[.iface 285 (.agg #[]),.iface 286 (.agg #[]),.iface 287 (.agg #[])] 261))) :
  Calls Tryz.prog 205 #[] w R:=by
 have HR:=jH hR;clear hR
 go_enter func205,ntmps205
 go_wp2_with fail;exact HR.out
set_option maxRecDepth 100000
set_option maxHeartbeats 32000000
theorem zra (p:List Ln) (n:Nat) (op d a b:Int) (v:Value) (w:World) (hv:LinesAt w v p) (hp:p[n]?=some ⟨op,d,a,b⟩) (hall:∀ l∈p,l.ok=true) (hlen:p.length≤8) (R:Ending→World→Prop)
  (hR:∀ w' x,Grow w w'→Own 4 encL w.heap.size w' x (candR p ⟨op,d,a,b⟩ 0)→R (.returned x) w') :
  Calls Tryz.prog 210 #[v,.int .i64 n,.int .i64 0] w R:=by
 have HR:=jH hR;clear hR;have hlt:n<p.length:=(List.getElem?_eq_some_iff.1 hp).1;obtain ⟨va,vc,rfl,v1,v2,v3⟩:=hv;replace v3:=v3.resolve_left (by intro h;simp [h.1] at hlt)
 obtain ⟨g,o,rfl,hb,hc⟩:=v3;have hpc:=zbf hc n op d a b hp;have hln:(n:Int)<(p.length:Int):=by omega
 have hl0:(0:Int)<(p.length:Int):=by omega
 have HOK:=jH (show (⟨op,d,a,b⟩:Ln).ok=true from hall _ (List.mem_of_getElem? hp));have HPC:=jH hpc;have HC:=jH hc;clear hc hpc hp hall;obtain ⟨N,hN⟩:∃ N,allR.length=N:=⟨_,rfl⟩;have HN:=jH hN;have hNb:N≤1000:=by rw [← hN];decide +kernel
 have HN0:=jH (show 0<N by rw [← hN];decide +kernel)
 clear hN;obtain ⟨F,hF⟩:∃ F,(fun x=>inC p ⟨op,d,a,b⟩ 0 x && !decide (x=⟨op,d,a,b⟩))=F:=⟨_,rfl⟩;have hcr:candR p ⟨op,d,a,b⟩ 0=allR.filter F:=by unfold candR;rw [hF]
 rw [hcr] at HR;have HF:=jH hF;clear hF hcr
 go_enter func210,ntmps210
 go_wp2_with fail;refine zjf _ _ ?_;intro w1 x1 hg1 hx1;obtain ⟨aA,cA,rfl,q1,q2,q3⟩:=hx1;rw [HN.out] at q1 ⊢;replace q3:=q3.resolve_left (by intro h;have:=HN0.out;rw [← HN.out,h.1] at this;simp at this)
 obtain ⟨gA,oA,rfl,hbA,hcA⟩:=q3;have HCA:=jH hcA;have HG1:=jH hg1;have hz1:=hg1.sz;clear hg1 hcA;go_wp2_with fail
 go_loopw [8,9] (fun out i wr=>∃ (k:Nat) (ov:Value),k≤N∧i=.int .i64 k∧ov=out∧AL w1 ((allR.take k).filter F) ov wr) (fun _ i _=>N - (intOf i).toNat)
 case atStart=>exact ⟨0,_,by omega,rfl,rfl,Grow.refl _,World.ownsRow_nil _ _ _ _⟩
 case round=>
  obtain ⟨k,out,hk,rfl,rfl,ha⟩:=hrel;have HA:=jH ha;have hzw:=ha.g.sz;clear ha;by_cases hlk:k<N;rotate_left
  ·have hkn:k=N:=by omega
   have hfin:(allR.take k).filter F=allR.filter F:=by rw [hkn,← HN.out,List.take_length]
   have HA2:=HA.out;rw [hfin] at HA2;have HF:=jH (HR.out _ _ (HG1.out.trans HA2.g) ⟨_,zbu HA2.ow hz1⟩);clear HA2 hfin hkn;go_wp2_with fail;exact HF.out
  obtain ⟨⟨op2,d2,a2,b2⟩,hx⟩:∃ x,allR[k]?=some x:=⟨_,List.getElem?_eq_getElem (by rw [HN.out];exact hlk)⟩
  have HX:=jH hx;have HXC:=jH (zbf HCA.out k op2 d2 a2 b2 hx);have HOK2:=jH (zey.1 (List.mem_of_getElem? hx));clear hx;have hkN:(k:Int)<(N:Int):=by omega
  have hn1:g<wr.heap.size:=by omega
  have hn2:gA<wr.heap.size:=by omega
  have e0:=(HG1.out.trans HA.out.g).cell HPC.out.1;have e1:=(HG1.out.trans HA.out.g).cell HPC.out.2.1;have e2:=(HG1.out.trans HA.out.g).cell HPC.out.2.2.1;have e3:=(HG1.out.trans HA.out.g).cell HPC.out.2.2.2;have f0:=Grow.cell HA.out.g HXC.out.1;have f1:=Grow.cell HA.out.g HXC.out.2.1;have f2:=Grow.cell HA.out.g HXC.out.2.2.1;have f3:=Grow.cell HA.out.g HXC.out.2.2.2;obtain ⟨c,hc⟩:∃ c,rnearB ⟨op,d,a,b⟩ ⟨op2,d2,a2,b2⟩=c:=⟨_,rfl⟩;have HCB:=jH hc;clear hc;have HIN:=jH (show inC p ⟨op,d,a,b⟩ 0 ⟨op2,d2,a2,b2⟩=c by unfold inC;rw [HCB.out];simp)
  go_wp2_with fail
  go_region_held3 (fun X=>X.cell? ⟨g,o+n * 4,none⟩=some (.int .i64 op)∧X.cell? ⟨g,o+n * 4+1,none⟩=some (.int .i64 d)∧X.cell? ⟨g,o+n * 4+2,none⟩=some (.int .i64 a)∧X.cell? ⟨g,o+n * 4+3,none⟩=some (.int .i64 b)∧X.cell? ⟨gA,oA+k * 4,none⟩=some (.int .i64 op2)∧X.cell? ⟨gA,oA+k * 4+1,none⟩=some (.int .i64 d2)∧X.cell? ⟨gA,oA+k * 4+2,none⟩=some (.int .i64 a2)∧X.cell? ⟨gA,oA+k * 4+3,none⟩=some (.int .i64 b2)∧Grow wr X)
   (first | exact ⟨e0,e1,e2,e3,f0,f1,f2,f3,(Grow.refl wr).drew⟩ | exact ⟨e0,e1,e2,e3,f0,f1,f2,f3,Grow.refl wr⟩ | exact keep8 hg8 (by assumption))
   (first | (go_at_call 245;refine zod op d a b op2 d2 a2 b2 _ HOK.out HOK2.out _ ?_;intro w8 hg8;rw [HCB.out]))
  rename_i hS
  have hgr:Grow wr w8:=hS.2.2.2.2.2.2.2.2;have HA8:=jH (HA.out.grow hgr);clear hS hgr hg8 e0 e1 e2 e3 f0 f1 f2 f3 HA hn1 hn2;go_wp2_with fail;obtain ⟨wo,rfl⟩:∃ z:World,z=w8:=⟨_,rfl⟩
  go_loopw [10,11] (fun f i wr=>f=.bool c∧i=.int .i64 0∧AL w1 ((allR.take k).filter F) out wr) (fun _ _ _=>0)
  case atStart=>exact ⟨rfl,rfl,HA8.out⟩
  case round=>
   obtain ⟨rfl,rfl,ha⟩:=hrel;clear HA8;have HA8:=jH ha;have hzr:=ha.g.sz;clear ha;have HLB:=jH (show ((allR.take k).filter F).length<100000000000 by have:=zcy F allR k;rw [HN.out] at this;omega)
   have hn1:g<wr.heap.size:=by omega
   have hn2:gA<wr.heap.size:=by omega
   have e0:=(HG1.out.trans HA8.out.g).cell HPC.out.1;have e1:=(HG1.out.trans HA8.out.g).cell HPC.out.2.1;have e2:=(HG1.out.trans HA8.out.g).cell HPC.out.2.2.1;have e3:=(HG1.out.trans HA8.out.g).cell HPC.out.2.2.2;have f0:=Grow.cell HA8.out.g HXC.out.1;have f1:=Grow.cell HA8.out.g HXC.out.2.1;have f2:=Grow.cell HA8.out.g HXC.out.2.2.1;have f3:=Grow.cell HA8.out.g HXC.out.2.2.2;cases c with
   | true=>
    by_cases heq:(⟨op2,d2,a2,b2⟩:Ln)=⟨op,d,a,b⟩
    ·have HEQ:=jH heq;have hFx:F ⟨op2,d2,a2,b2⟩=false:=by rw [← HF.out];show (inC p ⟨op,d,a,b⟩ 0 ⟨op2,d2,a2,b2⟩ && !decide ((⟨op2,d2,a2,b2⟩:Ln)=⟨op,d,a,b⟩))=false;rw [decide_eq_true HEQ.out];simp
     have HFX:=jH hFx;clear hFx;simp only [Ln.mk.injEq] at heq;obtain ⟨rfl,rfl,rfl,rfl⟩:=heq;go_wp2_with (go_quiet (fail));go_roundw
     case rel=>exact ⟨k+1,_,by omega,by go_num,rfl,by rw [zap HX.out,HFX.out,if_neg (by decide),List.append_nil];exact HA8.out.grow ((Grow.refl _).drewN _)⟩
     case measure=>simp [intOf];omega
    have hFx:F ⟨op2,d2,a2,b2⟩=true:=by rw [← HF.out];show (inC p ⟨op,d,a,b⟩ 0 ⟨op2,d2,a2,b2⟩ && !decide ((⟨op2,d2,a2,b2⟩:Ln)=⟨op,d,a,b⟩))=true;rw [decide_eq_false heq,HIN.out];rfl
    have HFX:=jH hFx;have HNE:=jH heq;clear hFx heq;by_cases gq0:op2=op;rotate_left
    ·have tq1:(op2 == op)=false:=by simpa using gq0
     have tq2:(op2 != op)=true:=by simpa using gq0
     go_wp2_with (first | (at_builtin;refine zad _ rfl (.tmp 70) (.tmp 75) 22 rfl w1.heap.size 57 underlying22 zar rfl (by decide) (by decide) encL zab zaj _ ((allR.take k).filter F) rfl (HA8.out.grow (((Grow.refl _).drewN _).alloc _)).ow _ (⟨op2,d2,a2,b2⟩:Ln) 1 rfl (zan _ _ (by simp) (encL ⟨op2,d2,a2,b2⟩) _) HLB.out (by have:=HA8.out.g.sz;simp;omega) ?_;intro out2 w2 hown2 hgr2) | go_quiet (fail))
     have HA2:=jH (HA8.out.app (y:=⟨op2,d2,a2,b2⟩) (((Grow.refl _).drewN _).alloc _) hown2 hgr2);clear hown2 hgr2;go_roundw
     case rel=>exact ⟨k+1,_,by omega,by go_num,rfl,by rw [zap HX.out,HFX.out,if_pos rfl];exact HA2.out⟩
     case measure=>simp [intOf];omega
    subst gq0;by_cases gq1:d2=d;rotate_left
    ·have tq1:(d2 == d)=false:=by simpa using gq1
     have tq2:(d2 != d)=true:=by simpa using gq1
     go_wp2_with (first | (at_builtin;refine zad _ rfl (.tmp 70) (.tmp 75) 22 rfl w1.heap.size 57 underlying22 zar rfl (by decide) (by decide) encL zab zaj _ ((allR.take k).filter F) rfl (HA8.out.grow (((Grow.refl _).drewN _).alloc _)).ow _ (⟨op2,d2,a2,b2⟩:Ln) 1 rfl (zan _ _ (by simp) (encL ⟨op2,d2,a2,b2⟩) _) HLB.out (by have:=HA8.out.g.sz;simp;omega) ?_;intro out2 w2 hown2 hgr2) | go_quiet (fail))
     have HA2:=jH (HA8.out.app (y:=⟨op2,d2,a2,b2⟩) (((Grow.refl _).drewN _).alloc _) hown2 hgr2);clear hown2 hgr2;go_roundw
     case rel=>exact ⟨k+1,_,by omega,by go_num,rfl,by rw [zap HX.out,HFX.out,if_pos rfl];exact HA2.out⟩
     case measure=>simp [intOf];omega
    subst gq1;by_cases gq2:a2=a;rotate_left
    ·have tq1:(a2 == a)=false:=by simpa using gq2
     have tq2:(a2 != a)=true:=by simpa using gq2
     go_wp2_with (first | (at_builtin;refine zad _ rfl (.tmp 70) (.tmp 75) 22 rfl w1.heap.size 57 underlying22 zar rfl (by decide) (by decide) encL zab zaj _ ((allR.take k).filter F) rfl (HA8.out.grow (((Grow.refl _).drewN _).alloc _)).ow _ (⟨op2,d2,a2,b2⟩:Ln) 1 rfl (zan _ _ (by simp) (encL ⟨op2,d2,a2,b2⟩) _) HLB.out (by have:=HA8.out.g.sz;simp;omega) ?_;intro out2 w2 hown2 hgr2) | go_quiet (fail))
     have HA2:=jH (HA8.out.app (y:=⟨op2,d2,a2,b2⟩) (((Grow.refl _).drewN _).alloc _) hown2 hgr2);clear hown2 hgr2;go_roundw
     case rel=>exact ⟨k+1,_,by omega,by go_num,rfl,by rw [zap HX.out,HFX.out,if_pos rfl];exact HA2.out⟩
     case measure=>simp [intOf];omega
    subst gq2;by_cases gq3:b2=b;rotate_left
    ·have tq1:(b2 == b)=false:=by simpa using gq3
     have tq2:(b2 != b)=true:=by simpa using gq3
     go_wp2_with (first | (at_builtin;refine zad _ rfl (.tmp 70) (.tmp 75) 22 rfl w1.heap.size 57 underlying22 zar rfl (by decide) (by decide) encL zab zaj _ ((allR.take k).filter F) rfl (HA8.out.grow (((Grow.refl _).drewN _).alloc _)).ow _ (⟨op2,d2,a2,b2⟩:Ln) 1 rfl (zan _ _ (by simp) (encL ⟨op2,d2,a2,b2⟩) _) HLB.out (by have:=HA8.out.g.sz;simp;omega) ?_;intro out2 w2 hown2 hgr2) | go_quiet (fail))
     have HA2:=jH (HA8.out.app (y:=⟨op2,d2,a2,b2⟩) (((Grow.refl _).drewN _).alloc _) hown2 hgr2);clear hown2 hgr2;go_roundw
     case rel=>exact ⟨k+1,_,by omega,by go_num,rfl,by rw [zap HX.out,HFX.out,if_pos rfl];exact HA2.out⟩
     case measure=>simp [intOf];omega
    subst gq3;exact absurd rfl HNE.out
   | false=>
    have hFx:F ⟨op2,d2,a2,b2⟩=false:=by rw [← HF.out];show (inC p ⟨op,d,a,b⟩ 0 ⟨op2,d2,a2,b2⟩ && !decide ((⟨op2,d2,a2,b2⟩:Ln)=⟨op,d,a,b⟩))=false;rw [HIN.out];rfl
    have HFX:=jH hFx;clear hFx;go_wp2_with (go_quiet (fail));go_roundw
    case rel=>exact ⟨k+1,_,by omega,by go_num,rfl,by rw [zap HX.out,HFX.out,if_neg (by decide),List.append_nil];exact HA8.out.grow ((Grow.refl _).drewN _)⟩
    case measure=>simp [intOf];omega
theorem zps (p:List Ln) (n:Nat) (op d a b:Int) (v:Value) (w:World) (hv:LinesAt w v p) (hp:p[n]?=some ⟨op,d,a,b⟩) (hall:∀ l∈p,l.ok=true) (hlen:p.length≤8) (R:Ending→World→Prop)
  (hR:∀ w' x,Grow w w'→Own 4 encL w.heap.size w' x (candR p ⟨op,d,a,b⟩ 1)→R (.returned x) w') :
  Calls Tryz.prog 210 #[v,.int .i64 n,.int .i64 1] w R:=by
 have HR:=jH hR;clear hR;have hlt:n<p.length:=(List.getElem?_eq_some_iff.1 hp).1;obtain ⟨va,vc,rfl,v1,v2,v3⟩:=hv;replace v3:=v3.resolve_left (by intro h;simp [h.1] at hlt)
 obtain ⟨g,o,rfl,hb,hc⟩:=v3;have hpc:=zbf hc n op d a b hp;have hln:(n:Int)<(p.length:Int):=by omega
 have hl0:(0:Int)<(p.length:Int):=by omega
 have _h:=hall;have HPC:=jH hpc;have HC:=jH hc;clear hc hpc hp hall;obtain ⟨N,hN⟩:∃ N,allR.length=N:=⟨_,rfl⟩;have HN:=jH hN;have hNb:N≤1000:=by rw [← hN];decide +kernel
 have HN0:=jH (show 0<N by rw [← hN];decide +kernel)
 clear hN;obtain ⟨F,hF⟩:∃ F,(fun x=>inC p ⟨op,d,a,b⟩ 1 x && !decide (x=⟨op,d,a,b⟩))=F:=⟨_,rfl⟩;have hcr:candR p ⟨op,d,a,b⟩ 1=allR.filter F:=by unfold candR;rw [hF]
 rw [hcr] at HR;have HF:=jH hF;clear hF hcr
 go_enter func210,ntmps210
 go_wp2_with fail;refine zjf _ _ ?_;intro w1 x1 hg1 hx1;obtain ⟨aA,cA,rfl,q1,q2,q3⟩:=hx1;rw [HN.out] at q1 ⊢;replace q3:=q3.resolve_left (by intro h;have:=HN0.out;rw [← HN.out,h.1] at this;simp at this)
 obtain ⟨gA,oA,rfl,hbA,hcA⟩:=q3;have HCA:=jH hcA;have HG1:=jH hg1;have hz1:=hg1.sz;clear hg1 hcA;go_wp2_with fail
 go_loopw [8,9] (fun out i wr=>∃ (k:Nat) (ov:Value),k≤N∧i=.int .i64 k∧ov=out∧AL w1 ((allR.take k).filter F) ov wr) (fun _ i _=>N - (intOf i).toNat)
 case atStart=>exact ⟨0,_,by omega,rfl,rfl,Grow.refl _,World.ownsRow_nil _ _ _ _⟩
 case round=>
  obtain ⟨k,out,hk,rfl,rfl,ha⟩:=hrel;have HA:=jH ha;have hzw:=ha.g.sz;clear ha;by_cases hlk:k<N;rotate_left
  ·have hkn:k=N:=by omega
   have hfin:(allR.take k).filter F=allR.filter F:=by rw [hkn,← HN.out,List.take_length]
   have HA2:=HA.out;rw [hfin] at HA2;have HF:=jH (HR.out _ _ (HG1.out.trans HA2.g) ⟨_,zbu HA2.ow hz1⟩);clear HA2 hfin hkn;go_wp2_with fail;exact HF.out
  obtain ⟨⟨op2,d2,a2,b2⟩,hx⟩:∃ x,allR[k]?=some x:=⟨_,List.getElem?_eq_getElem (by rw [HN.out];exact hlk)⟩
  have HX:=jH hx;have HXC:=jH (zbf HCA.out k op2 d2 a2 b2 hx);clear hx;have hkN:(k:Int)<(N:Int):=by omega
  have hn1:g<wr.heap.size:=by omega
  have hn2:gA<wr.heap.size:=by omega
  have e0:=(HG1.out.trans HA.out.g).cell HPC.out.1;have e1:=(HG1.out.trans HA.out.g).cell HPC.out.2.1;have e2:=(HG1.out.trans HA.out.g).cell HPC.out.2.2.1;have e3:=(HG1.out.trans HA.out.g).cell HPC.out.2.2.2;have f0:=Grow.cell HA.out.g HXC.out.1;have f1:=Grow.cell HA.out.g HXC.out.2.1;have f2:=Grow.cell HA.out.g HXC.out.2.2.1;have f3:=Grow.cell HA.out.g HXC.out.2.2.2;go_wp2_with (go_quiet (fail));clear e0 e1 e2 e3 f0 f1 f2 f3 hn1 hn2;have HIN:=jH (show inC p ⟨op,d,a,b⟩ 1 ⟨op2,d2,a2,b2⟩=p.contains ⟨op2,d2,a2,b2⟩ by unfold inC;simp)
  obtain ⟨wo,rfl⟩:∃ z:World,z=wr:=⟨_,rfl⟩
  go_loopw [10,11] (fun f i wr=>∃ (j:Nat) (fb:Bool),j≤p.length∧i=.int .i64 j∧f=.bool fb∧fb=(p.take j).contains ⟨op2,d2,a2,b2⟩∧AL w1 ((allR.take k).filter F) out wr) (fun _ i _=>p.length - (intOf i).toNat)
  case atStart=>exact ⟨0,false,by omega,rfl,rfl,rfl,HA.out.grow ((Grow.refl _).drewN _)⟩
  case round=>
   obtain ⟨j,fb,hj,rfl,rfl,hfb,ha⟩:=hrel;clear HA;have HA8:=jH ha;have HFB:=jH hfb;have hzr:=ha.g.sz;clear ha hfb;by_cases hjp:j<p.length
   ·have hjp2:(j:Int)<(p.length:Int):=by omega
    obtain ⟨⟨op3,d3,a3,b3⟩,hy⟩:∃ x,p[j]?=some x:=⟨_,List.getElem?_eq_getElem hjp⟩;have hn1:g<wr.heap.size:=by omega
    have hn2:gA<wr.heap.size:=by omega
    have HY:=jH hy;have HYC:=jH (zbf HC.out j op3 d3 a3 b3 hy);clear hy;have y0:=(HG1.out.trans HA8.out.g).cell HYC.out.1;have f0:=Grow.cell HA8.out.g HXC.out.1;have y1:=(HG1.out.trans HA8.out.g).cell HYC.out.2.1;have f1:=Grow.cell HA8.out.g HXC.out.2.1;have y2:=(HG1.out.trans HA8.out.g).cell HYC.out.2.2.1;have f2:=Grow.cell HA8.out.g HXC.out.2.2.1;have y3:=(HG1.out.trans HA8.out.g).cell HYC.out.2.2.2;have f3:=Grow.cell HA8.out.g HXC.out.2.2.2;cases fb with
    | true=>
     go_wp2_with (go_quiet (fail));go_roundw
     case rel=>exact ⟨j+1,true,by omega,by go_num,rfl,by rw [contains_take_succ' HY.out,← HFB.out];simp,HA8.out.grow ((Grow.refl _).drewN _)⟩
     case measure=>simp [intOf];omega
    | false=>
     by_cases heq:(⟨op3,d3,a3,b3⟩:Ln)=⟨op2,d2,a2,b2⟩
     ·have HEQ:=jH heq;simp only [Ln.mk.injEq] at heq;obtain ⟨rfl,rfl,rfl,rfl⟩:=heq;go_wp2_with (go_quiet (fail));go_roundw
      case rel=>exact ⟨j+1,true,by omega,by go_num,rfl,by rw [contains_take_succ' HY.out,← HFB.out];simp,HA8.out.grow ((Grow.refl _).drewN _)⟩
      case measure=>simp [intOf];omega
     have HNE:=jH heq;clear heq;by_cases gq0:op3=op2;rotate_left
     ·have tq1:(op3 == op2)=false:=by simpa using gq0
      have tq2:(op3 != op2)=true:=by simpa using gq0
      go_wp2_with (go_quiet (fail));go_roundw
      case rel=>exact ⟨j+1,false,by omega,by go_num,rfl,by rw [contains_take_succ' HY.out,← HFB.out];rw [decide_eq_false HNE.out];rfl,HA8.out.grow ((Grow.refl _).drewN _)⟩
      case measure=>simp [intOf];omega
     subst gq0;by_cases gq1:d3=d2;rotate_left
     ·have tq1:(d3 == d2)=false:=by simpa using gq1
      have tq2:(d3 != d2)=true:=by simpa using gq1
      go_wp2_with (go_quiet (fail));go_roundw
      case rel=>exact ⟨j+1,false,by omega,by go_num,rfl,by rw [contains_take_succ' HY.out,← HFB.out];rw [decide_eq_false HNE.out];rfl,HA8.out.grow ((Grow.refl _).drewN _)⟩
      case measure=>simp [intOf];omega
     subst gq1;by_cases gq2:a3=a2;rotate_left
     ·have tq1:(a3 == a2)=false:=by simpa using gq2
      have tq2:(a3 != a2)=true:=by simpa using gq2
      go_wp2_with (go_quiet (fail));go_roundw
      case rel=>exact ⟨j+1,false,by omega,by go_num,rfl,by rw [contains_take_succ' HY.out,← HFB.out];rw [decide_eq_false HNE.out];rfl,HA8.out.grow ((Grow.refl _).drewN _)⟩
      case measure=>simp [intOf];omega
     subst gq2;by_cases gq3:b3=b2;rotate_left
     ·have tq1:(b3 == b2)=false:=by simpa using gq3
      have tq2:(b3 != b2)=true:=by simpa using gq3
      go_wp2_with (go_quiet (fail));go_roundw
      case rel=>exact ⟨j+1,false,by omega,by go_num,rfl,by rw [contains_take_succ' HY.out,← HFB.out];rw [decide_eq_false HNE.out];rfl,HA8.out.grow ((Grow.refl _).drewN _)⟩
      case measure=>simp [intOf];omega
     subst gq3;exact absurd rfl HNE.out
   ·have hjn:j=p.length:=by omega
    have hfin:fb=p.contains ⟨op2,d2,a2,b2⟩:=by rw [HFB.out,hjn,List.take_length]
    have HIN2:=jH (HIN.out.trans hfin.symm);clear HIN hfin hjn HFB;have HIN:=HIN2;clear HIN2;have HLB:=jH (show ((allR.take k).filter F).length<100000000000 by have:=zcy F allR k;rw [HN.out] at this;omega)
    have hn1:g<wr.heap.size:=by omega
    have hn2:gA<wr.heap.size:=by omega
    have e0:=(HG1.out.trans HA8.out.g).cell HPC.out.1;have e1:=(HG1.out.trans HA8.out.g).cell HPC.out.2.1;have e2:=(HG1.out.trans HA8.out.g).cell HPC.out.2.2.1;have e3:=(HG1.out.trans HA8.out.g).cell HPC.out.2.2.2;have f0:=Grow.cell HA8.out.g HXC.out.1;have f1:=Grow.cell HA8.out.g HXC.out.2.1;have f2:=Grow.cell HA8.out.g HXC.out.2.2.1;have f3:=Grow.cell HA8.out.g HXC.out.2.2.2;cases fb with
    | true=>
     by_cases heq:(⟨op2,d2,a2,b2⟩:Ln)=⟨op,d,a,b⟩
     ·have HEQ:=jH heq;have hFx:F ⟨op2,d2,a2,b2⟩=false:=by rw [← HF.out];show (inC p ⟨op,d,a,b⟩ 1 ⟨op2,d2,a2,b2⟩ && !decide ((⟨op2,d2,a2,b2⟩:Ln)=⟨op,d,a,b⟩))=false;rw [decide_eq_true HEQ.out];simp
      have HFX:=jH hFx;clear hFx;simp only [Ln.mk.injEq] at heq;obtain ⟨rfl,rfl,rfl,rfl⟩:=heq;go_wp2_with (go_quiet (fail));go_roundw
      case rel=>exact ⟨k+1,_,by omega,by go_num,rfl,by rw [zap HX.out,HFX.out,if_neg (by decide),List.append_nil];exact HA8.out.grow ((Grow.refl _).drewN _)⟩
      case measure=>simp [intOf];omega
     have hFx:F ⟨op2,d2,a2,b2⟩=true:=by rw [← HF.out];show (inC p ⟨op,d,a,b⟩ 1 ⟨op2,d2,a2,b2⟩ && !decide ((⟨op2,d2,a2,b2⟩:Ln)=⟨op,d,a,b⟩))=true;rw [decide_eq_false heq,HIN.out];rfl
     have HFX:=jH hFx;have HNE:=jH heq;clear hFx heq;by_cases gq0:op2=op;rotate_left
     ·have tq1:(op2 == op)=false:=by simpa using gq0
      have tq2:(op2 != op)=true:=by simpa using gq0
      go_wp2_with (first | (at_builtin;refine zad _ rfl (.tmp 70) (.tmp 75) 22 rfl w1.heap.size 57 underlying22 zar rfl (by decide) (by decide) encL zab zaj _ ((allR.take k).filter F) rfl (HA8.out.grow (((Grow.refl _).drewN _).alloc _)).ow _ (⟨op2,d2,a2,b2⟩:Ln) 1 rfl (zan _ _ (by simp) (encL ⟨op2,d2,a2,b2⟩) _) HLB.out (by have:=HA8.out.g.sz;simp;omega) ?_;intro out2 w2 hown2 hgr2) | go_quiet (fail))
      have HA2:=jH (HA8.out.app (y:=⟨op2,d2,a2,b2⟩) (((Grow.refl _).drewN _).alloc _) hown2 hgr2);clear hown2 hgr2;go_roundw
      case rel=>exact ⟨k+1,_,by omega,by go_num,rfl,by rw [zap HX.out,HFX.out,if_pos rfl];exact HA2.out⟩
      case measure=>simp [intOf];omega
     subst gq0;by_cases gq1:d2=d;rotate_left
     ·have tq1:(d2 == d)=false:=by simpa using gq1
      have tq2:(d2 != d)=true:=by simpa using gq1
      go_wp2_with (first | (at_builtin;refine zad _ rfl (.tmp 70) (.tmp 75) 22 rfl w1.heap.size 57 underlying22 zar rfl (by decide) (by decide) encL zab zaj _ ((allR.take k).filter F) rfl (HA8.out.grow (((Grow.refl _).drewN _).alloc _)).ow _ (⟨op2,d2,a2,b2⟩:Ln) 1 rfl (zan _ _ (by simp) (encL ⟨op2,d2,a2,b2⟩) _) HLB.out (by have:=HA8.out.g.sz;simp;omega) ?_;intro out2 w2 hown2 hgr2) | go_quiet (fail))
      have HA2:=jH (HA8.out.app (y:=⟨op2,d2,a2,b2⟩) (((Grow.refl _).drewN _).alloc _) hown2 hgr2);clear hown2 hgr2;go_roundw
      case rel=>exact ⟨k+1,_,by omega,by go_num,rfl,by rw [zap HX.out,HFX.out,if_pos rfl];exact HA2.out⟩
      case measure=>simp [intOf];omega
     subst gq1;by_cases gq2:a2=a;rotate_left
     ·have tq1:(a2 == a)=false:=by simpa using gq2
      have tq2:(a2 != a)=true:=by simpa using gq2
      go_wp2_with (first | (at_builtin;refine zad _ rfl (.tmp 70) (.tmp 75) 22 rfl w1.heap.size 57 underlying22 zar rfl (by decide) (by decide) encL zab zaj _ ((allR.take k).filter F) rfl (HA8.out.grow (((Grow.refl _).drewN _).alloc _)).ow _ (⟨op2,d2,a2,b2⟩:Ln) 1 rfl (zan _ _ (by simp) (encL ⟨op2,d2,a2,b2⟩) _) HLB.out (by have:=HA8.out.g.sz;simp;omega) ?_;intro out2 w2 hown2 hgr2) | go_quiet (fail))
      have HA2:=jH (HA8.out.app (y:=⟨op2,d2,a2,b2⟩) (((Grow.refl _).drewN _).alloc _) hown2 hgr2);clear hown2 hgr2;go_roundw
      case rel=>exact ⟨k+1,_,by omega,by go_num,rfl,by rw [zap HX.out,HFX.out,if_pos rfl];exact HA2.out⟩
      case measure=>simp [intOf];omega
     subst gq2;by_cases gq3:b2=b;rotate_left
     ·have tq1:(b2 == b)=false:=by simpa using gq3
      have tq2:(b2 != b)=true:=by simpa using gq3
      go_wp2_with (first | (at_builtin;refine zad _ rfl (.tmp 70) (.tmp 75) 22 rfl w1.heap.size 57 underlying22 zar rfl (by decide) (by decide) encL zab zaj _ ((allR.take k).filter F) rfl (HA8.out.grow (((Grow.refl _).drewN _).alloc _)).ow _ (⟨op2,d2,a2,b2⟩:Ln) 1 rfl (zan _ _ (by simp) (encL ⟨op2,d2,a2,b2⟩) _) HLB.out (by have:=HA8.out.g.sz;simp;omega) ?_;intro out2 w2 hown2 hgr2) | go_quiet (fail))
      have HA2:=jH (HA8.out.app (y:=⟨op2,d2,a2,b2⟩) (((Grow.refl _).drewN _).alloc _) hown2 hgr2);clear hown2 hgr2;go_roundw
      case rel=>exact ⟨k+1,_,by omega,by go_num,rfl,by rw [zap HX.out,HFX.out,if_pos rfl];exact HA2.out⟩
      case measure=>simp [intOf];omega
     subst gq3;exact absurd rfl HNE.out
    | false=>
     have hFx:F ⟨op2,d2,a2,b2⟩=false:=by rw [← HF.out];show (inC p ⟨op,d,a,b⟩ 1 ⟨op2,d2,a2,b2⟩ && !decide ((⟨op2,d2,a2,b2⟩:Ln)=⟨op,d,a,b⟩))=false;rw [HIN.out];rfl
     have HFX:=jH hFx;clear hFx;go_wp2_with (go_quiet (fail));go_roundw
     case rel=>exact ⟨k+1,_,by omega,by go_num,rfl,by rw [zap HX.out,HFX.out,if_neg (by decide),List.append_nil];exact HA8.out.grow ((Grow.refl _).drewN _)⟩
     case measure=>simp [intOf];omega
theorem zqq (p:List Ln) (n:Nat) (op d a b:Int) (v:Value) (w:World) (hv:LinesAt w v p) (hp:p[n]?=some ⟨op,d,a,b⟩) (hall:∀ l∈p,l.ok=true) (hlen:p.length≤8) (R:Ending→World→Prop)
  (hR:∀ w' x,Grow w w'→Own 4 encL w.heap.size w' x (candR p ⟨op,d,a,b⟩ 2)→R (.returned x) w') :
  Calls Tryz.prog 210 #[v,.int .i64 n,.int .i64 2] w R:=by
 have HR:=jH hR;clear hR;have hlt:n<p.length:=(List.getElem?_eq_some_iff.1 hp).1;obtain ⟨va,vc,rfl,v1,v2,v3⟩:=hv;replace v3:=v3.resolve_left (by intro h;simp [h.1] at hlt)
 obtain ⟨g,o,rfl,hb,hc⟩:=v3;have hpc:=zbf hc n op d a b hp;have hln:(n:Int)<(p.length:Int):=by omega
 have hl0:(0:Int)<(p.length:Int):=by omega
 have _h:=hall;have HPC:=jH hpc;have HC:=jH hc;clear hc hpc hp hall;obtain ⟨N,hN⟩:∃ N,allR.length=N:=⟨_,rfl⟩;have HN:=jH hN;have hNb:N≤1000:=by rw [← hN];decide +kernel
 have HN0:=jH (show 0<N by rw [← hN];decide +kernel)
 clear hN;obtain ⟨F,hF⟩:∃ F,(fun x=>inC p ⟨op,d,a,b⟩ 2 x && !decide (x=⟨op,d,a,b⟩))=F:=⟨_,rfl⟩;have hcr:candR p ⟨op,d,a,b⟩ 2=allR.filter F:=by unfold candR;rw [hF]
 rw [hcr] at HR;have HF:=jH hF;clear hF hcr
 go_enter func210,ntmps210
 go_wp2_with fail;refine zjf _ _ ?_;intro w1 x1 hg1 hx1;obtain ⟨aA,cA,rfl,q1,q2,q3⟩:=hx1;rw [HN.out] at q1 ⊢;replace q3:=q3.resolve_left (by intro h;have:=HN0.out;rw [← HN.out,h.1] at this;simp at this)
 obtain ⟨gA,oA,rfl,hbA,hcA⟩:=q3;have HCA:=jH hcA;have HG1:=jH hg1;have hz1:=hg1.sz;clear hg1 hcA;go_wp2_with fail
 go_loopw [8,9] (fun out i wr=>∃ (k:Nat) (ov:Value),k≤N∧i=.int .i64 k∧ov=out∧AL w1 ((allR.take k).filter F) ov wr) (fun _ i _=>N - (intOf i).toNat)
 case atStart=>exact ⟨0,_,by omega,rfl,rfl,Grow.refl _,World.ownsRow_nil _ _ _ _⟩
 case round=>
  obtain ⟨k,out,hk,rfl,rfl,ha⟩:=hrel;have HA:=jH ha;have hzw:=ha.g.sz;clear ha;by_cases hlk:k<N;rotate_left
  ·have hkn:k=N:=by omega
   have hfin:(allR.take k).filter F=allR.filter F:=by rw [hkn,← HN.out,List.take_length]
   have HA2:=HA.out;rw [hfin] at HA2;have HF:=jH (HR.out _ _ (HG1.out.trans HA2.g) ⟨_,zbu HA2.ow hz1⟩);clear HA2 hfin hkn;go_wp2_with fail;exact HF.out
  obtain ⟨⟨op2,d2,a2,b2⟩,hx⟩:∃ x,allR[k]?=some x:=⟨_,List.getElem?_eq_getElem (by rw [HN.out];exact hlk)⟩
  have HX:=jH hx;have HXC:=jH (zbf HCA.out k op2 d2 a2 b2 hx);clear hx;have hkN:(k:Int)<(N:Int):=by omega
  have hn1:g<wr.heap.size:=by omega
  have hn2:gA<wr.heap.size:=by omega
  have e0:=(HG1.out.trans HA.out.g).cell HPC.out.1;have e1:=(HG1.out.trans HA.out.g).cell HPC.out.2.1;have e2:=(HG1.out.trans HA.out.g).cell HPC.out.2.2.1;have e3:=(HG1.out.trans HA.out.g).cell HPC.out.2.2.2;have f0:=Grow.cell HA.out.g HXC.out.1;have f1:=Grow.cell HA.out.g HXC.out.2.1;have f2:=Grow.cell HA.out.g HXC.out.2.2.1;have f3:=Grow.cell HA.out.g HXC.out.2.2.2;go_wp2_with (go_quiet (fail));clear e0 e1 e2 e3 f0 f1 f2 f3 hn1 hn2;have HIN:=jH (show inC p ⟨op,d,a,b⟩ 2 ⟨op2,d2,a2,b2⟩=true by unfold inC;simp)
  obtain ⟨wo,rfl⟩:∃ z:World,z=wr:=⟨_,rfl⟩
  go_loopw [10,11] (fun f i wr=>f=.bool true∧i=.int .i64 0∧AL w1 ((allR.take k).filter F) out wr) (fun _ _ _=>0)
  case atStart=>exact ⟨rfl,rfl,HA.out.grow ((Grow.refl _).drewN _)⟩
  case round=>
   obtain ⟨rfl,rfl,ha⟩:=hrel;clear HA;have HA8:=jH ha;have hzr:=ha.g.sz;clear ha;have HLB:=jH (show ((allR.take k).filter F).length<100000000000 by have:=zcy F allR k;rw [HN.out] at this;omega)
   have hn1:g<wr.heap.size:=by omega
   have hn2:gA<wr.heap.size:=by omega
   have e0:=(HG1.out.trans HA8.out.g).cell HPC.out.1;have e1:=(HG1.out.trans HA8.out.g).cell HPC.out.2.1;have e2:=(HG1.out.trans HA8.out.g).cell HPC.out.2.2.1;have e3:=(HG1.out.trans HA8.out.g).cell HPC.out.2.2.2;have f0:=Grow.cell HA8.out.g HXC.out.1;have f1:=Grow.cell HA8.out.g HXC.out.2.1;have f2:=Grow.cell HA8.out.g HXC.out.2.2.1;have f3:=Grow.cell HA8.out.g HXC.out.2.2.2;by_cases heq:(⟨op2,d2,a2,b2⟩:Ln)=⟨op,d,a,b⟩
   ·have HEQ:=jH heq;have hFx:F ⟨op2,d2,a2,b2⟩=false:=by rw [← HF.out];show (inC p ⟨op,d,a,b⟩ 2 ⟨op2,d2,a2,b2⟩ && !decide ((⟨op2,d2,a2,b2⟩:Ln)=⟨op,d,a,b⟩))=false;rw [decide_eq_true HEQ.out];simp
    have HFX:=jH hFx;clear hFx;simp only [Ln.mk.injEq] at heq;obtain ⟨rfl,rfl,rfl,rfl⟩:=heq;go_wp2_with (go_quiet (fail));go_roundw
    case rel=>exact ⟨k+1,_,by omega,by go_num,rfl,by rw [zap HX.out,HFX.out,if_neg (by decide),List.append_nil];exact HA8.out.grow ((Grow.refl _).drewN _)⟩
    case measure=>simp [intOf];omega
   have hFx:F ⟨op2,d2,a2,b2⟩=true:=by rw [← HF.out];show (inC p ⟨op,d,a,b⟩ 2 ⟨op2,d2,a2,b2⟩ && !decide ((⟨op2,d2,a2,b2⟩:Ln)=⟨op,d,a,b⟩))=true;rw [decide_eq_false heq,HIN.out];rfl
   have HFX:=jH hFx;have HNE:=jH heq;clear hFx heq;by_cases gq0:op2=op;rotate_left
   ·have tq1:(op2 == op)=false:=by simpa using gq0
    have tq2:(op2 != op)=true:=by simpa using gq0
    go_wp2_with (first | (at_builtin;refine zad _ rfl (.tmp 70) (.tmp 75) 22 rfl w1.heap.size 57 underlying22 zar rfl (by decide) (by decide) encL zab zaj _ ((allR.take k).filter F) rfl (HA8.out.grow (((Grow.refl _).drewN _).alloc _)).ow _ (⟨op2,d2,a2,b2⟩:Ln) 1 rfl (zan _ _ (by simp) (encL ⟨op2,d2,a2,b2⟩) _) HLB.out (by have:=HA8.out.g.sz;simp;omega) ?_;intro out2 w2 hown2 hgr2) | go_quiet (fail))
    have HA2:=jH (HA8.out.app (y:=⟨op2,d2,a2,b2⟩) (((Grow.refl _).drewN _).alloc _) hown2 hgr2);clear hown2 hgr2;go_roundw
    case rel=>exact ⟨k+1,_,by omega,by go_num,rfl,by rw [zap HX.out,HFX.out,if_pos rfl];exact HA2.out⟩
    case measure=>simp [intOf];omega
   subst gq0;by_cases gq1:d2=d;rotate_left
   ·have tq1:(d2 == d)=false:=by simpa using gq1
    have tq2:(d2 != d)=true:=by simpa using gq1
    go_wp2_with (first | (at_builtin;refine zad _ rfl (.tmp 70) (.tmp 75) 22 rfl w1.heap.size 57 underlying22 zar rfl (by decide) (by decide) encL zab zaj _ ((allR.take k).filter F) rfl (HA8.out.grow (((Grow.refl _).drewN _).alloc _)).ow _ (⟨op2,d2,a2,b2⟩:Ln) 1 rfl (zan _ _ (by simp) (encL ⟨op2,d2,a2,b2⟩) _) HLB.out (by have:=HA8.out.g.sz;simp;omega) ?_;intro out2 w2 hown2 hgr2) | go_quiet (fail))
    have HA2:=jH (HA8.out.app (y:=⟨op2,d2,a2,b2⟩) (((Grow.refl _).drewN _).alloc _) hown2 hgr2);clear hown2 hgr2;go_roundw
    case rel=>exact ⟨k+1,_,by omega,by go_num,rfl,by rw [zap HX.out,HFX.out,if_pos rfl];exact HA2.out⟩
    case measure=>simp [intOf];omega
   subst gq1;by_cases gq2:a2=a;rotate_left
   ·have tq1:(a2 == a)=false:=by simpa using gq2
    have tq2:(a2 != a)=true:=by simpa using gq2
    go_wp2_with (first | (at_builtin;refine zad _ rfl (.tmp 70) (.tmp 75) 22 rfl w1.heap.size 57 underlying22 zar rfl (by decide) (by decide) encL zab zaj _ ((allR.take k).filter F) rfl (HA8.out.grow (((Grow.refl _).drewN _).alloc _)).ow _ (⟨op2,d2,a2,b2⟩:Ln) 1 rfl (zan _ _ (by simp) (encL ⟨op2,d2,a2,b2⟩) _) HLB.out (by have:=HA8.out.g.sz;simp;omega) ?_;intro out2 w2 hown2 hgr2) | go_quiet (fail))
    have HA2:=jH (HA8.out.app (y:=⟨op2,d2,a2,b2⟩) (((Grow.refl _).drewN _).alloc _) hown2 hgr2);clear hown2 hgr2;go_roundw
    case rel=>exact ⟨k+1,_,by omega,by go_num,rfl,by rw [zap HX.out,HFX.out,if_pos rfl];exact HA2.out⟩
    case measure=>simp [intOf];omega
   subst gq2;by_cases gq3:b2=b;rotate_left
   ·have tq1:(b2 == b)=false:=by simpa using gq3
    have tq2:(b2 != b)=true:=by simpa using gq3
    go_wp2_with (first | (at_builtin;refine zad _ rfl (.tmp 70) (.tmp 75) 22 rfl w1.heap.size 57 underlying22 zar rfl (by decide) (by decide) encL zab zaj _ ((allR.take k).filter F) rfl (HA8.out.grow (((Grow.refl _).drewN _).alloc _)).ow _ (⟨op2,d2,a2,b2⟩:Ln) 1 rfl (zan _ _ (by simp) (encL ⟨op2,d2,a2,b2⟩) _) HLB.out (by have:=HA8.out.g.sz;simp;omega) ?_;intro out2 w2 hown2 hgr2) | go_quiet (fail))
    have HA2:=jH (HA8.out.app (y:=⟨op2,d2,a2,b2⟩) (((Grow.refl _).drewN _).alloc _) hown2 hgr2);clear hown2 hgr2;go_roundw
    case rel=>exact ⟨k+1,_,by omega,by go_num,rfl,by rw [zap HX.out,HFX.out,if_pos rfl];exact HA2.out⟩
    case measure=>simp [intOf];omega
   subst gq3;exact absurd rfl HNE.out
theorem zwr (p:List Ln) (pv:Value) (n:Nat) (kind:Int) (W:World) (k0:0≤kind) (k2:kind≤2) (hval:valP p=0) (hn:n<p.length) (hp:LinesAt W pv p) (R':Ending→World→Prop) (hR':∀ W' v,Grow W W'→Own 4 encL W.heap.size W' v (candR p (lineAt p n) kind)→R' (.returned v) W') :
  Calls Tryz.prog 210 #[pv,.int .i64 n,.int .i64 kind] W R':=by
 obtain ⟨⟨op,d,a,b⟩,hx⟩:∃ l,p[n]?=some l:=⟨_,List.getElem?_eq_getElem hn⟩;have hl:lineAt p (n:Int)=⟨op,d,a,b⟩:=by unfold lineAt;rw [show ((n:Int)).toNat=n by omega,hx];rfl
 rw [hl] at hR';have hk:kind=0∨kind=1∨kind=2:=by omega
 rcases hk with rfl | rfl | rfl
 ·exact zra p n op d a b _ _ hp hx (zba.1 hval).2 (zba.1 hval).1 R' hR'
 ·exact zps p n op d a b _ _ hp hx (zba.1 hval).2 (zba.1 hval).1 R' hR'
 ·exact zqq p n op d a b _ _ hp hx (zba.1 hval).2 (zba.1 hval).1 R' hR'
end Go.Proofs.YtmeejlgnhfkeaaaGreatDoor
