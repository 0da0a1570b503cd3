/- Parts. -/
import Derived.Test.YtmeejlgnhfkeaaaGreatDoorR31
import Derived.Test.YtmeejlgnhfkeaaaGreatDoorR25
import Derived.Test.YtmeejlgnhfkeaaaGreatDoorR26
import Derived.Test.YtmeejlgnhfkeaaaGreatDoorR00
import Derived.Lib.SplitLaws
import Derived.Test.YtmeejlgnhfkeaaaGreatDoorR27
import Derived.RegionTactic
import Derived.BigRegion
import Derived.Deep.RegionHeld3
import Derived.Deep.CutRange
import Derived.Test.YtmeejlgnhfkeaaaGreatDoorR04
namespace Go.Proofs.YtmeejlgnhfkeaaaGreatDoor
open Go.RowKit
theorem zjl (sep:ByteArray):∀ (k:Nat) (s:ByteArray),∀ x∈Lib.splitB sep 0 k s,x.size≤s.size
 | 0,s,x,hx=>by rw [Lib.splitB_zero] at hx;simp at hx;subst hx;exact Nat.le_refl _
 | k+1,s,x,hx=>by
  unfold Lib.splitB at hx
  split at hx
  ·simp at hx;subst hx;exact Nat.le_refl _
  ·rcases List.mem_cons.1 hx with rfl | hx
   ·rw [ByteArray.size_extract];omega
   ·have:=zjl sep k _ x hx;rw [ByteArray.size_extract] at this;omega
theorem zgg {t x:ByteArray} (h:x∈wordsB t):x.size≤t.size:=zjl _ _ _ _ h
theorem zjo (t:ByteArray):(wordsB t).length=Lib.countB t blank+1:=Lib.splitB_all blank (by decide) 0 _ t rfl
theorem zgb (t:ByteArray):∃ w ws,wordsB t=w :: ws:=by
 cases h:wordsB t with
 | nil=>have:=zjo t;rw [h] at this;simp at this
 | cons w ws=>exact ⟨w,ws,rfl⟩
theorem zom (w:World) (xs:List ByteArray) (t:TypeId) (h:xs.length<10000000000):TextsAt (w.alloc (.cells (xs.map Value.string).toArray t)) (.slice (some ⟨w.heap.size,0,none⟩) xs.length xs.length) xs:=by
 refine ⟨_,xs.length,rfl,Nat.le_refl _,by omega,.inr ⟨w.heap.size,0,rfl,by simp,fun j x hj i u hu=>?_⟩⟩
 cases i with
 | succ i=>simp [encTx] at hu
 | zero=>
  simp [encTx] at hu;subst hu;rw [show 0+j * 1+0=j by omega,World.cell?_alloc_new,List.getElem?_toArray,List.getElem?_map,hj];rfl
theorem zmo (t:ByteArray):(wordsB t).length≤t.size+1:=by
 rw [zjo];have:=Lib.countB_le blank (by decide) t.size t (Nat.le_refl _)
 omega
theorem zyl (t w0:ByteArray) (ws:List ByteArray) (he:wordsB t=w0 :: ws) (ht:t.size<4294967281) (w:World) (hg:Glob w) (R:Ending→World→Prop)
  (hR:∀ w',Grow w w'→TextsAt w' (.slice (some ⟨w.heap.size,0,none⟩) (ws.length+1) (ws.length+1)) (w0 :: ws)→R (.returned (.slice (some ⟨w.heap.size,0,none⟩) (ws.length+1) (ws.length+1))) w') :
  Calls Tryz.prog 115 #[.string t,.string blank] w R:=by
 obtain ⟨m,hm⟩:=hg.ml;refine (Tryz.strings_Split t blank m w ht hm (by decide)).mono ?_
 rintro e w' ⟨rfl,rfl⟩;have hl:Lib.countB t blank+1=ws.length+1:=by rw [← zjo,he];rfl
 have h1:=zom w (wordsB t) 9 (by have:=zmo t;omega)
 have h2:=hR _ ((Grow.refl w).alloc _) (by rw [he] at h1;exact h1)
 rw [hl]
 show R _ (w.alloc (.cells ((wordsB t).map Value.string).toArray 9))
 rw [he];exact h2
theorem zmg {ws:List ByteArray} {j:Nat} {x:ByteArray} {l:List Int} (hx:ws[j]?=some x) (hl:numsW (ws.take j)=some l):numsW (ws.take (j+1))=(numW x).map fun n=>l++[n]:=by
 induction ws generalizing j l with
 | nil=>simp at hx
 | cons w r ih=>
  cases j with
  | zero=>
   simp at hx;subst hx;simp [numsW] at hl;subst hl;rw [show (w :: r).take (0+1)=[w] from rfl];unfold numsW;cases numW w with
   | none=>rfl
   | some n=>rfl
  | succ j=>
   rw [List.take_succ_cons] at hl ⊢;unfold numsW at hl ⊢;cases hw:numW w with
   | none=>rw [hw] at hl;cases hl
   | some n=>
    rw [hw] at hl;dsimp only at hl ⊢;cases hr:numsW (r.take j) with
    | none=>rw [hr] at hl;cases hl
    | some l'=>
     rw [hr] at hl;simp at hl;subst hl;rw [ih (by simpa using hx) hr]
     cases numW x<;>rfl
theorem zem {ws:List ByteArray} {j:Nat} {x:ByteArray} (hx:ws[j]?=some x) (hn:numW x=none):numsW ws=none:=by
 induction ws generalizing j with
 | nil=>simp at hx
 | cons w r ih=>
  unfold numsW;cases j with
  | zero=>simp at hx;subst hx;rw [hn]
  | succ j=>
   cases numW w with
   | none=>rfl
   | some n=>rw [ih (by simpa using hx)];rfl
theorem znk {v:Value} {w:ByteArray} {ps:List MemPlace} (h:agR v=some (formD.atKey (tx w) (.held (fmV 0 0)),ps)):v=formV w:=by
 rw [(zha w).2] at h;obtain ⟨c,rfl,e⟩:=agR_inv h;injection e with e1 e2;injection e1 with e1;exact e1.symm
theorem formV_eq (w:ByteArray):∃ a b,formV w=.agg #[.int .i64 a,.int .i64 b]:=by
 unfold formV;cases formB w with
 | none=>exact ⟨0,0,rfl⟩
 | some x=>exact ⟨x.1,x.2,rfl⟩
theorem zul {w:ByteArray} {k n:Nat} (h:formB w=some (k,n)):formV w=.agg #[.int .i64 k,.int .i64 n]:=by unfold formV;rw [h];rfl
theorem zca {t w0:ByteArray} {ws:List ByteArray} (he:wordsB t=w0 :: ws) (h:formB w0=none∨∃ k n,formB w0=some (k,n)∧(30<t.size∨ws.length≠n∨numsW ws=none)):parseB t=none:=by
 unfold parseB;rw [he];dsimp only;rcases h with h | ⟨k,n,h,h2⟩
 ·rw [h]
 ·rw [h];dsimp only;by_cases h3:30<t.size∨ws.length≠n
  ·rw [if_pos h3]
  ·rw [if_neg h3,h2.resolve_left (fun h=>h3 (.inl h)) |>.resolve_left (fun h=>h3 (.inr h))];rfl
theorem zin {t w0:ByteArray} {ws:List ByteArray} {k n:Nat} {l:List Int} (he:wordsB t=w0 :: ws) (h:formB w0=some (k,n)) (h1:¬ 30<t.size) (h2:ws.length=n) (h3:numsW ws=some l):parseB t=some (k,l):=by
 unfold parseB;rw [he];dsimp only;rw [h];dsimp only;rw [if_neg (by omega),h3];rfl
open Go.Proofs.Tryz
set_option maxRecDepth 100000
set_option maxHeartbeats 32000000
theorem zkd {w:World} {base:Nat} {e:TypeId} {k n:Nat} {v:Value} {xs:List Value} (h:w.ownsRow base e k v n xs) {b:Nat} (hb:b<base) (o:Nat) (u:Value):(w.setCell ⟨b,o,none⟩ u).ownsRow base e k v n xs:=
 ⟨h.1,h.2.imp id (fun ⟨g,cap,cur,h1,h2,h3,h4⟩=>⟨g,cap,cur,h1,h2,by rw [Below.heap_setCell _ _ _ _ (by show g≠b;omega)];exact h3,h4⟩)⟩
theorem numW_ok {x:ByteArray} {v:Int} (h:Lib.atoiAll x.data.toList=.ok v):numW x=if Lib.itoa v=x.data.toList∧-999≤v∧v≤999 then some v else none:=by unfold numW;rw [h]
theorem zrk {w:ByteArray} {k n:Nat} (h:formB w=some (k,n)):n≤6∧k≤6∧n=(if k=0 then 5 else if k=2 then 6 else if k=3 then 1 else if k=4 then 1 else 0):=by
 unfold formB at h
 repeat' split at h
 all_goals first
  | (cases h;done)
  | (obtain ⟨rfl,rfl⟩:_∧_:=⟨congrArg Prod.fst (Option.some.inj h),congrArg Prod.snd (Option.some.inj h)⟩;decide)
theorem numW_bad {x:ByteArray} (h:∀ v,Lib.atoiAll x.data.toList≠.ok v):numW x=none:=by
 unfold numW
 split
 ·next n e=>exact absurd e (h n)
 ·rfl
theorem zwy (t:ByteArray) (ht:t.size<4294967281) (w:World) (hg:Glob w) (R:Ending→World→Prop)
  (hno:parseB t=none→∀ w',Grow w w'→R (.returned (.tuple #[.agg #[.int .i64 0,.slice none 0 0],.bool false])) w')
  (hok:∀ k l,parseB t=some (k,l)→∀ w' a c,Grow w w'→IntsAt w' (.slice a l.length c) l→(∀ b o,a=some ⟨b,o,none⟩→b<w'.heap.size)→R (.returned (.tuple #[.agg #[.int .i64 (k:Nat),.slice a l.length c],.bool true])) w') :
  Calls Tryz.prog 69 #[.string t] w R:=by
 obtain ⟨w0,ws,hws⟩:=zgb t;have hsz:w0.size≤maxLen:=by have:=zgg (t:=t) (x:=w0) (by rw [hws];simp);unfold maxLen;omega
 have HWS:=jH hws;have HNO:=jH hno;have HOK:=jH hok;have hr0:=heap_alloc_new w (.cells #[.int .i64 0,.slice none 0 0] 123);have HR0:=jH hr0;have HG0:=jH ((Grow.refl w).alloc (.cells #[.int .i64 0,.slice none 0 0] 123));have HGL:=jH hg;have hmz:(ws.length:Int)<4294967290:=by
  have h1:=zmo t;rw [hws] at h1;rw [List.length_cons] at h1;omega
 clear hno hok hr0 hg hws
 go_enter func69,ntmps69
 go_wp2_with fail;refine zyl t w0 ws HWS.out ht _ (HGL.out.grow HG0.out) _ ?_;intro w1 hg1 htx;have HG1:=jH (HG0.out.trans hg1);have HTX:=jH htx;have HR1:=jH (hg1.blk HR0.out);obtain ⟨b,hb⟩:∃ b,(w.alloc (.cells #[.int .i64 0,.slice none 0 0] 123)).heap.size=b:=⟨_,rfl⟩;obtain ⟨_,_,e1,_,x0⟩:=zcq htx (k:=0) (t:=w0) rfl;cases e1;rw [hb] at x0 HTX ⊢;rw [Nat.add_zero] at x0;have hlb:=World.block_lt_of_cell? _ _ x0;have hz1:=hg1.sz;rw [World.size_alloc] at hz1;clear hg1 htx hb
 go_upto_region 2 with fail
 obtain ⟨fk,fn,hfv⟩:=formV_eq w0;obtain ⟨okb,hokb⟩:∃ q,(formB w0).isSome=q:=⟨_,rfl⟩;have HFV:=jH hfv;have HOKB:=jH hokb;clear hfv hokb
 go_cut [5,6] from 14 to 21 (fun s5 s6 wx=>∃ bx:Nat,s5=.pointer (some ⟨bx,0,none⟩)∧s6=.bool okb∧Grow w1 wx∧wx.heap[bx]?=some (.cells #[.int .i64 fk,.int .i64 fn] 176 (0,0))∧w.heap.size<bx∧bx<wx.heap.size)
 case first=>
  go_wp2_with fail;refine wp_region_held_drew (S:=fun X=>Grow w1 X) (by kernel_rfl) ((Grow.refl w1).drew) (fun hH=>?_)
  refine tkA 1 (.slice (some ⟨b,0,none⟩) (ws.length+1) (ws.length+1)) rfl ?_ hH ?_
  ·intro w9 hw9;go_simp
  try simp only [nrm]
  refine tkA 2 (.pointer (some ⟨b,0,none⟩)) rfl ?_ hH ?_
  ·intro w9 hw9;go_simp
  try simp only [nrm]
  refine tkA 3 (.string w0) rfl ?_ hH ?_
  ·intro w9 hw9;have y9:=Grow.cell hw9 x0;go_simp
  try simp only [nrm]
  refine tk2 0 8 rfl rfl (fun K hK=>?_) fun K hK=>?_
  ·
   go_simp;refine zop _ _ ?_;intro wA mb hgA hoA;go_wp2_with fail;have HGA:=jH (show Grow w1 wA from (Grow.refl w1).drew.trans hgA);have HOA:=jH hoA;refine hK.out _ _ HGA.out ?_;clear hK K hH;intro hH;try simp only [nrm]
   clear hgA hoA;refine tk2 4 8 rfl rfl (fun K hK=>?_) fun K hK=>?_
   ·
    refine zgt rfl (.tmp 15) (.tmp 18) 178 rfl 9 176 lawS underlying178 agR (zjt _) (.held (fmV 0 0)) [] (zgj _) mb 7 formD (by simp [Act.eval]) HOA.out (.string w0) (tx w0) (by simp [Act.eval]) (zgo w0 hsz) ?_
    intro v9 ps9 hv9;have hv8:=znk hv9;rw [HFV.out] at hv8;subst hv8;rw [(zha w0).1,HOKB.out];clear hv9;refine hK.out _ _ hH ?_;clear hK K hH;intro hH;try simp only [nrm]
    refine tkA 5 (.tuple #[.agg #[.int .i64 fk,.int .i64 fn],.bool okb]) rfl ?_ hH ?_
    ·intro w9 hw9;go_simp
    try simp only [nrm]
    refine tkA 6 (.agg #[.int .i64 fk,.int .i64 fn]) rfl ?_ hH ?_
    ·intro w9 hw9;go_simp
    try simp only [nrm]
    refine tkA 7 (.bool okb) rfl ?_ hH ?_
    ·intro w9 hw9;go_simp
    try simp only [nrm]
    refine tk1 8 rfl fun K hK=>?_;go_simp;refine hK.out _ _ (HGA.out.alloc _) ?_;clear hK K hH;intro hH;try simp only [nrm]
    refine tk1 9 rfl fun K hK=>?_;have hzb:=heap_alloc_new (wA) (.cells #[.int .i64 0,.int .i64 0] 176);have z0:=zac hzb 0;have z1:=zac hzb 1;obtain ⟨d0,d1⟩:=box2 hzb;have hpb:=heap_alloc_new (wA) (.cells #[.int .i64 fk,.int .i64 fn] 176);have hg3:Grow w1 ((wA).alloc (.cells #[.int .i64 fk,.int .i64 fn] 176)):=(show Grow w1 (wA) from HGA.out).alloc _;go_simp;refine hK.out _ _ hg3 ?_;clear hK K hH;intro hH;try simp only [nrm]
    refine tkA 10 (.bool okb) rfl ?_ hH ?_
    ·intro w9 hw9;go_simp
    try simp only [nrm]
    refine wpAnyH_done (by kernel_rfl) ?_ _
    have hzA:=HGA.out.sz;have hbl:=lt_of_block hpb;clear z0 z1 d0 d1 hzb;go_wp2_with fail;go_meet;exact ⟨wA.heap.size,rfl,rfl,hg3,hpb,by omega,hbl⟩
   ·
    go_simp;refine hK.out _ _ (HGA.out.alloc _) ?_;clear hK K hH;intro hH;try simp only [nrm]
    refine tk1 4 rfl fun K hK=>?_;refine zgt rfl (.tmp 15) (.tmp 18) 178 rfl 9 176 lawS underlying178 agR (zjt _) (.held (fmV 0 0)) [] (zgj _) mb 7 formD (by simp [Act.eval]) (HOA.out.alloc _) (.string w0) (tx w0) (by simp [Act.eval]) (zgo w0 hsz) ?_
    intro v9 ps9 hv9;have hv8:=znk hv9;rw [HFV.out] at hv8;subst hv8;rw [(zha w0).1,HOKB.out];clear hv9;refine hK.out _ _ hH ?_;clear hK K hH;intro hH;try simp only [nrm]
    refine tkA 5 (.tuple #[.agg #[.int .i64 fk,.int .i64 fn],.bool okb]) rfl ?_ hH ?_
    ·intro w9 hw9;go_simp
    try simp only [nrm]
    refine tkA 6 (.agg #[.int .i64 fk,.int .i64 fn]) rfl ?_ hH ?_
    ·intro w9 hw9;go_simp
    try simp only [nrm]
    refine tkA 7 (.bool okb) rfl ?_ hH ?_
    ·intro w9 hw9;go_simp
    try simp only [nrm]
    refine tk1 9 rfl fun K hK=>?_;have hzb:=heap_alloc_new (wA) (.cells #[.int .i64 0,.int .i64 0] 176);have z0:=zac hzb 0;have z1:=zac hzb 1;obtain ⟨d0,d1⟩:=box2 hzb;have hpb:=heap_alloc_new (wA) (.cells #[.int .i64 fk,.int .i64 fn] 176);have hg3:Grow w1 ((wA).alloc (.cells #[.int .i64 fk,.int .i64 fn] 176)):=(show Grow w1 (wA) from HGA.out).alloc _;go_simp;refine hK.out _ _ hg3 ?_;clear hK K hH;intro hH;try simp only [nrm]
    refine tkA 10 (.bool okb) rfl ?_ hH ?_
    ·intro w9 hw9;go_simp
    try simp only [nrm]
    refine wpAnyH_done (by kernel_rfl) ?_ _
    have hzA:=HGA.out.sz;have hbl:=lt_of_block hpb;clear z0 z1 d0 d1 hzb;go_wp2_with fail;go_meet;exact ⟨wA.heap.size,rfl,rfl,hg3,hpb,by omega,hbl⟩
  ·
   go_simp;refine hK.out _ _ ((Grow.refl w1).drew.alloc _) ?_;clear hK K hH;intro hH;try simp only [nrm]
   refine tk1 0 rfl fun K hK=>?_;go_simp;refine zop _ _ ?_;intro wA mb hgA hoA;go_wp2_with fail;have HGA:=jH (show Grow w1 wA from hH.trans hgA);have HOA:=jH hoA;have HZB:=jH (hgA.blk (k:=w1.heap.size) (heap_alloc_new w1 (.cells #[.int .i64 0,.int .i64 0] 176)));refine hK.out _ _ HGA.out ?_;clear hK K hH;intro hH;try simp only [nrm]
   clear hgA hoA;refine tk1 4 rfl fun K hK=>?_;refine zgt rfl (.tmp 15) (.tmp 18) 178 rfl 9 176 lawS underlying178 agR (zjt _) (.held (fmV 0 0)) [] (zgj _) mb 7 formD (by simp [Act.eval]) HOA.out (.string w0) (tx w0) (by simp [Act.eval]) (zgo w0 hsz) ?_
   intro v9 ps9 hv9;have hv8:=znk hv9;rw [HFV.out] at hv8;subst hv8;rw [(zha w0).1,HOKB.out];clear hv9;refine hK.out _ _ hH ?_;clear hK K hH;intro hH;try simp only [nrm]
   refine tkA 5 (.tuple #[.agg #[.int .i64 fk,.int .i64 fn],.bool okb]) rfl ?_ hH ?_
   ·intro w9 hw9;go_simp
   try simp only [nrm]
   refine tkA 6 (.agg #[.int .i64 fk,.int .i64 fn]) rfl ?_ hH ?_
   ·intro w9 hw9;go_simp
   try simp only [nrm]
   refine tkA 7 (.bool okb) rfl ?_ hH ?_
   ·intro w9 hw9;go_simp
   try simp only [nrm]
   refine tk1 9 rfl fun K hK=>?_;have hzb:=HZB.out;have z0:=zac hzb 0;have z1:=zac hzb 1;obtain ⟨d0,d1⟩:=box2 hzb;have hpb:=zau (zau hzb 0 (.int .i64 fk)) 1 (.int .i64 fn);simp only [List.setIfInBounds_toArray,List.set_cons_zero,List.set_cons_succ] at hpb;have hg3:Grow w1 ((wA.setCell ⟨w1.heap.size,0,none⟩ (.int .i64 fk)).setCell ⟨w1.heap.size,1,none⟩ (.int .i64 fn)):=Below.setCell (Below.setCell HGA.out (Nat.le_refl _) _) (Nat.le_refl _) _;go_simp;refine hK.out _ _ hg3 ?_;clear hK K hH;intro hH;try simp only [nrm]
   refine tkA 10 (.bool okb) rfl ?_ hH ?_
   ·intro w9 hw9;go_simp
   try simp only [nrm]
   refine wpAnyH_done (by kernel_rfl) ?_ _
   have hzA:=HGA.out.sz;have hbl:=lt_of_block hpb;clear z0 z1 d0 d1 hzb;go_wp2_with fail;go_meet;exact ⟨w1.heap.size,rfl,rfl,hg3,hpb,by omega,hbl⟩
 case rest=>
  obtain ⟨bx,rfl,rfl,hg3,hpb,hbw,hbx⟩:=hcut;have HG3:=jH (HG1.out.trans hg3);have HTX3:=jH (HTX.out.grow hg3);have HR3:=jH (hg3.blk HR1.out);have HPB:=jH hpb;have hz3:=hg3.sz;have hrw:w.heap.size<wc.heap.size:=by omega
  clear hg3 hpb x0 hlb;cases hob:formB w0 with
  | none=>
   obtain rfl:false=okb:=by rw [← HOKB.out,hob];rfl
   obtain ⟨y0,y1⟩:=box2 HPB.out;have hrr:=HR3.out;obtain ⟨c0,c1⟩:=box2 hrr;have z0:=zac hrr 0;have z1:=zac hrr 1;have hrp:=zau (zau hrr 0 (.int .i64 0)) 1 (.slice none 0 0);simp only [List.setIfInBounds_toArray,List.set_cons_zero,List.set_cons_succ] at hrp;obtain ⟨e0,e1⟩:=box2 hrp;have hgf:Grow w ((wc.setCell ⟨w.heap.size,0,none⟩ (.int .i64 0)).setCell ⟨w.heap.size,1,none⟩ (.slice none 0 0)):=Below.setCell (Below.setCell HG3.out (Nat.le_refl _) _) (Nat.le_refl _) _;have HF:=jH (HNO.out (zca HWS.out (.inl hob)) _ hgf);clear hgf hrr hrp;go_wp2_with fail;exact bodyPost_ret (by simp [results,Tryz.results69,go_sem,e0,e1]) rfl HF.out
  | some kn=>
   obtain ⟨kk,nn⟩:=kn;obtain rfl:true=okb:=by rw [← HOKB.out,hob];rfl
   have hfe:=(HFV.out).symm.trans (zul hob);obtain ⟨rfl,rfl⟩:fk=(kk:Int)∧fn=(nn:Int):=by
    injection hfe with h9;have h8:=congrArg Array.toList h9;simp at h8;exact h8
   have HOB:=jH hob;clear hfe hob;obtain ⟨y0,y1⟩:=box2 HPB.out;by_cases h30:30<t.size
   ·
    have h30z:decide ((t.size:Int) > 30)=true:=by rw [decide_eq_true_eq];omega
    have hrr:=HR3.out;obtain ⟨c0,c1⟩:=box2 hrr;have z0:=zac hrr 0;have z1:=zac hrr 1;have hrp:=zau (zau hrr 0 (.int .i64 0)) 1 (.slice none 0 0);simp only [List.setIfInBounds_toArray,List.set_cons_zero,List.set_cons_succ] at hrp;obtain ⟨e0,e1⟩:=box2 hrp;have hgf:Grow w ((wc.setCell ⟨w.heap.size,0,none⟩ (.int .i64 0)).setCell ⟨w.heap.size,1,none⟩ (.slice none 0 0)):=Below.setCell (Below.setCell HG3.out (Nat.le_refl _) _) (Nat.le_refl _) _;have HF:=jH (HNO.out (zca HWS.out (.inr ⟨_,_,HOB.out,.inl h30⟩)) _ hgf);clear hgf hrr hrp;go_wp2_with fail;exact bodyPost_ret (by simp [results,Tryz.results69,go_sem,e0,e1]) rfl HF.out
   have h30z:decide ((t.size:Int) > 30)=false:=by rw [decide_eq_false_iff_not];omega
   by_cases hwn:ws.length=nn;rotate_left
   ·
    have hn6:nn≤6:=(zrk HOB.out).1;have HWN:=jH hwn;obtain ⟨lw,hlw⟩:∃ q,ws.length=q:=⟨_,rfl⟩;rw [hlw] at hwn hmz ⊢;have hwz:¬ (lw:Int)=(nn:Int):=by omega
    have hwy:(((lw:Int)+1) != ((nn:Int)+1))=true:=by rw [bne_iff_ne];omega
    clear hlw hwn hwz;have hrr:=HR3.out;obtain ⟨c0,c1⟩:=box2 hrr;have z0:=zac hrr 0;have z1:=zac hrr 1;have hrp:=zau (zau hrr 0 (.int .i64 0)) 1 (.slice none 0 0);simp only [List.setIfInBounds_toArray,List.set_cons_zero,List.set_cons_succ] at hrp;obtain ⟨e0,e1⟩:=box2 hrp;have hgf:Grow w ((wc.setCell ⟨w.heap.size,0,none⟩ (.int .i64 0)).setCell ⟨w.heap.size,1,none⟩ (.slice none 0 0)):=Below.setCell (Below.setCell HG3.out (Nat.le_refl _) _) (Nat.le_refl _) _;have HF:=jH (HNO.out (zca HWS.out (.inr ⟨_,_,HOB.out,.inr (.inl HWN.out)⟩)) _ hgf);clear hgf hrr hrp;go_wp2_with fail;exact bodyPost_ret (by simp [results,Tryz.results69,go_sem,e0,e1]) rfl HF.out
   have hn6:nn≤6:=(zrk HOB.out).1;have hk6:kk≤6:=(zrk HOB.out).2.1;obtain ⟨n,hne⟩:∃ n,ws.length=n:=⟨_,rfl⟩;obtain rfl:n=nn:=by omega
   have HN:=jH hne;rw [hne] at HTX3 ⊢;clear hwn hne hmz;by_cases hn0:n=0
   ·
    subst hn0;go_wp2_with fail
    go_loopw [44] (fun s44 wr=>∃ (j:Nat) (l:List Int) (a:Option Addr) (c:Nat),s44=.int .i64 j∧j≤0∧l.length=j∧numsW (ws.take j)=some l∧Grow wc wr∧wr.heap[wc.heap.size]?=some (.cells #[.int .i64 (kk:Int),.slice a l.length c] 123 (0,0))∧wr.ownsRow (wc.heap.size+1) 3 1 (.slice a l.length c) l.length (l.flatMap encI)) (fun s44 _=>0 - (intOf s44).toNat)
    case atStart=>exact ⟨0,[],none,0,rfl,Nat.zero_le _,rfl,rfl,(Grow.refl wc).alloc _,heap_alloc_new wc (.cells #[.int .i64 (kk:Int),.slice none 0 0] 123),World.ownsRow_nil _ _ _ _⟩
    case round=>
     obtain ⟨j,l,a,c,rfl,hj,hlj,hnum,hg,hbq,hown⟩:=hrel;have HGR:=jH hg;have HBQ:=jH hbq;have HOWN:=jH hown;have HNUM:=jH hnum;have HLJ:=jH hlj;have hzr:=hg.sz;have hqr:=lt_of_block hbq;clear hg hbq hown hnum hlj y0 y1;obtain rfl:j=0:=by omega
     have HW:=jH (show numsW ws=some l by have h9:=HNUM.out;rw [List.take_of_length_le (by have:=HN.out;omega)] at h9;exact h9)
     obtain ⟨q0,q1⟩:=box2 HBQ.out;have hrr:=HGR.out.blk HR3.out;obtain ⟨c0,c1⟩:=box2 hrr;have z0:=zac hrr 0;have z1:=zac hrr 1;have hrp:=zau (zau hrr 0 (.int .i64 (kk:Int))) 1 (.slice a l.length c);simp only [List.setIfInBounds_toArray,List.set_cons_zero,List.set_cons_succ] at hrp;obtain ⟨e0,e1⟩:=box2 hrp;have hgf:Grow w ((wr.setCell ⟨w.heap.size,0,none⟩ (.int .i64 (kk:Int))).setCell ⟨w.heap.size,1,none⟩ (.slice a l.length c)):=Below.setCell (Below.setCell (HG3.out.trans HGR.out) (Nat.le_refl _) _) (Nat.le_refl _) _;have hin:IntsAt ((wr.setCell ⟨w.heap.size,0,none⟩ (.int .i64 (kk:Int))).setCell ⟨w.heap.size,1,none⟩ (.slice a l.length c)) (.slice a l.length c) l:=zaa zal (zkd (zkd HOWN.out (by omega) 0 _) (by omega) 1 _)
     have hlb9:∀ b o,a=some ⟨b,o,none⟩→b<((wr.setCell ⟨w.heap.size,0,none⟩ (.int .i64 (kk:Int))).setCell ⟨w.heap.size,1,none⟩ (.slice a l.length c)).heap.size:=by
      intro b o e;have h9:=(HOWN.out.lt b (by unfold Value.ownBlock;rw [e])).2
      simpa [World.setCell] using h9
     have HF:=jH (HOK.out kk l (zin HWS.out HOB.out h30 HN.out HW.out) _ a c hgf hin hlb9);have hqn:wc.heap.size≠w.heap.size:=by omega
     clear hgf hin hlb9 hrr hrp;go_wp2_with fail;exact bodyPost_ret (by simp [results,Tryz.results69,go_sem,e0,e1]) rfl HF.out
   ·
    have hn1:¬ n+1=1:=by omega
    go_wp2_with fail
    go_loopw [44] (fun s44 wr=>∃ (j:Nat) (l:List Int) (a:Option Addr) (c:Nat),s44=.int .i64 j∧j≤n∧l.length=j∧numsW (ws.take j)=some l∧Grow wc wr∧wr.heap[wc.heap.size]?=some (.cells #[.int .i64 (kk:Int),.slice a l.length c] 123 (0,0))∧wr.ownsRow (wc.heap.size+1) 3 1 (.slice a l.length c) l.length (l.flatMap encI)) (fun s44 _=>n - (intOf s44).toNat)
    case atStart=>exact ⟨0,[],none,0,rfl,Nat.zero_le _,rfl,rfl,(Grow.refl wc).alloc _,heap_alloc_new wc (.cells #[.int .i64 (kk:Int),.slice none 0 0] 123),World.ownsRow_nil _ _ _ _⟩
    case round=>
     obtain ⟨j,l,a,c,rfl,hj,hlj,hnum,hg,hbq,hown⟩:=hrel;have HGR:=jH hg;have HBQ:=jH hbq;have HOWN:=jH hown;have HNUM:=jH hnum;have HLJ:=jH hlj;have hzr:=hg.sz;have hqr:=lt_of_block hbq;clear hg hbq hown hnum hlj y0 y1;by_cases hlt:j<n;rotate_left
     ·obtain rfl:j=n:=by omega
      have hjz:¬ (j:Int)<(j:Int):=by omega
      have HW:=jH (show numsW ws=some l by have h9:=HNUM.out;rw [List.take_of_length_le (by have:=HN.out;omega)] at h9;exact h9)
      obtain ⟨q0,q1⟩:=box2 HBQ.out;have hrr:=HGR.out.blk HR3.out;obtain ⟨c0,c1⟩:=box2 hrr;have z0:=zac hrr 0;have z1:=zac hrr 1;have hrp:=zau (zau hrr 0 (.int .i64 (kk:Int))) 1 (.slice a l.length c);simp only [List.setIfInBounds_toArray,List.set_cons_zero,List.set_cons_succ] at hrp;obtain ⟨e0,e1⟩:=box2 hrp;have hgf:Grow w ((wr.setCell ⟨w.heap.size,0,none⟩ (.int .i64 (kk:Int))).setCell ⟨w.heap.size,1,none⟩ (.slice a l.length c)):=Below.setCell (Below.setCell (HG3.out.trans HGR.out) (Nat.le_refl _) _) (Nat.le_refl _) _;have hin:IntsAt ((wr.setCell ⟨w.heap.size,0,none⟩ (.int .i64 (kk:Int))).setCell ⟨w.heap.size,1,none⟩ (.slice a l.length c)) (.slice a l.length c) l:=zaa zal (zkd (zkd HOWN.out (by omega) 0 _) (by omega) 1 _)
      have hlb9:∀ b o,a=some ⟨b,o,none⟩→b<((wr.setCell ⟨w.heap.size,0,none⟩ (.int .i64 (kk:Int))).setCell ⟨w.heap.size,1,none⟩ (.slice a l.length c)).heap.size:=by
       intro b o e;have h9:=(HOWN.out.lt b (by unfold Value.ownBlock;rw [e])).2
       simpa [World.setCell] using h9
      have HF:=jH (HOK.out kk l (zin HWS.out HOB.out h30 HN.out HW.out) _ a c hgf hin hlb9);have hqn:wc.heap.size≠w.heap.size:=by omega
      clear hgf hin hlb9 hrr hrp;go_wp2_with fail;exact bodyPost_ret (by simp [results,Tryz.results69,go_sem,e0,e1]) rfl HF.out
     have hjz:(j:Int)<(n:Int):=by omega
     obtain ⟨x,hx⟩:∃ x,ws[j]?=some x:=⟨_,List.getElem?_eq_getElem (by have:=HN.out;omega)⟩
     obtain ⟨_,_,e9,_,y9⟩:=zcq (HTX3.out.grow HGR.out) (k:=j+1) (t:=x) (by simpa using hx)
     cases e9;rw [show 0+(j+1)=1+j by omega] at y9
     have hxs:x.size≤281474976710656:=by
      have h9:=zgg (t:=t) (x:=x) (by rw [HWS.out];exact List.mem_cons_of_mem _ (List.mem_of_getElem? hx))
      omega
     have HX:=jH hx;clear hx;go_wp2_with fail;refine atoi_any x hxs _ (HGL.out.grow (HG3.out.trans HGR.out)) _ ?_ ?_;rotate_left
     ·intro w5 n5 te pe hg5 hno5;have HX5:=jH (numW_bad hno5);have HG5:=jH (HGR.out.trans hg5);clear hg5 hno5;have hrr:=HG5.out.blk HR3.out;obtain ⟨c0,c1⟩:=box2 hrr;have z0:=zac hrr 0;have z1:=zac hrr 1;have hrp:=zau (zau hrr 0 (.int .i64 0)) 1 (.slice none 0 0);simp only [List.setIfInBounds_toArray,List.set_cons_zero,List.set_cons_succ] at hrp;obtain ⟨e0,e1⟩:=box2 hrp;have hgf:Grow w ((w5.setCell ⟨w.heap.size,0,none⟩ (.int .i64 0)).setCell ⟨w.heap.size,1,none⟩ (.slice none 0 0)):=Below.setCell (Below.setCell (HG3.out.trans HG5.out) (Nat.le_refl _) _) (Nat.le_refl _) _;have HF:=jH (HNO.out (zca HWS.out (.inr ⟨_,_,HOB.out,.inr (.inr (zem HX.out HX5.out))⟩)) _ hgf);clear hgf hrr hrp;go_wp2_with fail;exact bodyPost_ret (by simp [results,Tryz.results69,go_sem,e0,e1]) rfl HF.out
     intro w5 v hg5 hv hv0 hv1;have HV:=jH (numW_ok hv);have HG5:=jH (HGR.out.trans hg5);have HW5:=jH hg5;clear hg5 hv;go_wp2_with fail;refine zho v hv0 hv1 _ (HGL.out.grow (HG3.out.trans HG5.out)) _ ?_;intro w6 hg6;have HG6:=jH (HG5.out.trans hg6);have HW6:=jH (HW5.out.trans hg6);clear hg6;by_cases hit:Lib.itoa v=x.data.toList;rotate_left
     ·
      have HVN:=jH (show numW x=none by rw [HV.out,if_neg (fun h=>hit h.1)])
      have hne:¬ Lib.itoa v=x.toList:=by rw [Lib.toList_data];exact hit
      have hnb:(Lib.itoa v == x.toList)=false:=beq_eq_false_iff_ne.2 hne;have hrr:=HG6.out.blk HR3.out;obtain ⟨c0,c1⟩:=box2 hrr;have z0:=zac hrr 0;have z1:=zac hrr 1;have hrp:=zau (zau hrr 0 (.int .i64 0)) 1 (.slice none 0 0);simp only [List.setIfInBounds_toArray,List.set_cons_zero,List.set_cons_succ] at hrp;obtain ⟨e0,e1⟩:=box2 hrp;have hgf:Grow w ((w6.setCell ⟨w.heap.size,0,none⟩ (.int .i64 0)).setCell ⟨w.heap.size,1,none⟩ (.slice none 0 0)):=Below.setCell (Below.setCell (HG3.out.trans HG6.out) (Nat.le_refl _) _) (Nat.le_refl _) _;have HF:=jH (HNO.out (zca HWS.out (.inr ⟨_,_,HOB.out,.inr (.inr (zem HX.out HVN.out))⟩)) _ hgf);clear hgf hrr hrp;go_wp2_with fail;exact bodyPost_ret (by simp [results,Tryz.results69,go_sem,e0,e1]) rfl HF.out
     have hxe:(⟨(Lib.itoa v).toArray⟩:ByteArray)=x:=tx_eq (by simpa using hit)
     rw [hxe];have HIT:=jH hit;clear hit hxe;by_cases hlo:v < -999
     ·
      have HVN:=jH (show numW x=none by rw [HV.out,if_neg (fun h=>by have:=h.2.1;have:=h.2.2;omega)])
      have hzz:decide (v < -999)=true:=by rw [decide_eq_true_eq];omega
      have hrr:=HG6.out.blk HR3.out;obtain ⟨c0,c1⟩:=box2 hrr;have z0:=zac hrr 0;have z1:=zac hrr 1;have hrp:=zau (zau hrr 0 (.int .i64 0)) 1 (.slice none 0 0);simp only [List.setIfInBounds_toArray,List.set_cons_zero,List.set_cons_succ] at hrp;obtain ⟨e0,e1⟩:=box2 hrp;have hgf:Grow w ((w6.setCell ⟨w.heap.size,0,none⟩ (.int .i64 0)).setCell ⟨w.heap.size,1,none⟩ (.slice none 0 0)):=Below.setCell (Below.setCell (HG3.out.trans HG6.out) (Nat.le_refl _) _) (Nat.le_refl _) _;have HF:=jH (HNO.out (zca HWS.out (.inr ⟨_,_,HOB.out,.inr (.inr (zem HX.out HVN.out))⟩)) _ hgf);clear hgf hrr hrp;go_wp2_with fail;exact bodyPost_ret (by simp [results,Tryz.results69,go_sem,e0,e1]) rfl HF.out
     have hzhlo:decide (v < -999)=false:=by rw [decide_eq_false_iff_not];omega
     by_cases hhi:999<v
     ·
      have HVN:=jH (show numW x=none by rw [HV.out,if_neg (fun h=>by have:=h.2.1;have:=h.2.2;omega)])
      have hzz:decide (v > 999)=true:=by rw [decide_eq_true_eq];omega
      have hrr:=HG6.out.blk HR3.out;obtain ⟨c0,c1⟩:=box2 hrr;have z0:=zac hrr 0;have z1:=zac hrr 1;have hrp:=zau (zau hrr 0 (.int .i64 0)) 1 (.slice none 0 0);simp only [List.setIfInBounds_toArray,List.set_cons_zero,List.set_cons_succ] at hrp;obtain ⟨e0,e1⟩:=box2 hrp;have hgf:Grow w ((w6.setCell ⟨w.heap.size,0,none⟩ (.int .i64 0)).setCell ⟨w.heap.size,1,none⟩ (.slice none 0 0)):=Below.setCell (Below.setCell (HG3.out.trans HG6.out) (Nat.le_refl _) _) (Nat.le_refl _) _;have HF:=jH (HNO.out (zca HWS.out (.inr ⟨_,_,HOB.out,.inr (.inr (zem HX.out HVN.out))⟩)) _ hgf);clear hgf hrr hrp;go_wp2_with fail;exact bodyPost_ret (by simp [results,Tryz.results69,go_sem,e0,e1]) rfl HF.out
     have hzhhi:decide (v > 999)=false:=by rw [decide_eq_false_iff_not];omega
     have HVS:=jH (show numW x=some v by rw [HV.out,if_pos ⟨HIT.out,by omega,by omega⟩])
     have HBQ6:=jH (HW6.out.blk HBQ.out);have HOW6:=jH (HW6.out.owns HOWN.out);have hz6:=HW6.out.sz;have HLEN:=jH (show l.length<100000000000 by have:=HLJ.out;omega)
     obtain ⟨q0,q1⟩:=box2 HBQ6.out;go_wp2_with (at_builtin;refine Classical.byContradiction (fun hcon=>?_));refine hcon ?_;clear hcon;refine zad _ rfl (.tmp 71) (.tmp 73) 61 rfl (wc.heap.size+1) 3 underlying61 zeo rfl (by decide) (by decide) encI zal zcx (.slice a l.length c) l rfl (((Grow.refl w6).alloc _).owns HOW6.out) _ v 1 rfl (zbj w6 (encI v) 3) HLEN.out (by simp;omega) ?_
     intro v7 w7 hown7 hgr7;have hq7:=zev (((Grow.refl w6).alloc (.cells (encI v).toArray 3)).owns HOW6.out) hgr7 (show wc.heap.size<wc.heap.size+1 by omega) (((Grow.refl w6).alloc (.cells (encI v).toArray 3)).blk HBQ6.out)
     have hg7:Grow wc w7:=zae (((Grow.refl w6).alloc (.cells (encI v).toArray 3)).owns HOW6.out) hgr7 (show wc.heap.size≤wc.heap.size+1 by omega) (by simp;omega) (show Grow wc _ from HG6.out.alloc _)
     obtain ⟨a7,c7,rfl⟩:∃ a c,v7=.slice a (l.length+1) c:=by
      rcases hown7.2 with ⟨hv,h0⟩ | ⟨g,cap,cur,hv,_⟩
      ·simp at h0
      ·exact ⟨some ⟨g,0,none⟩,cap,by rw [hv];simp⟩
     obtain ⟨r0,r1⟩:=box2 hq7;have zq:=zac hq7 1;have hq8:=zau hq7 1 (.slice a7 (l.length+1) c7);simp only [List.setIfInBounds_toArray,List.set_cons_zero,List.set_cons_succ] at hq8;have HQ8:=jH hq8;have HG8:=jH (show Grow wc (w7.setCell ⟨wc.heap.size,1,none⟩ (.slice a7 (l.length+1) c7)) from Below.setCell hg7 (Nat.le_refl _) _);have HO8:=jH (zkd hown7 (show wc.heap.size<wc.heap.size+1 by omega) 1 (.slice a7 (l.length+1) c7))
     have HN8:=jH (zmg HX.out HNUM.out);clear hq8 hg7 hq7 hown7 hgr7 q0 q1;go_wp2_with fail;go_roundw
     case rel=>
      refine ⟨j+1,l++[v],a7,c7,by go_num,by omega,by rw [List.length_append,HLJ.out];rfl,by rw [HN8.out,HVS.out];rfl,HG8.out,?_,?_⟩
      ·rw [List.length_append];exact HQ8.out
      ·rw [show (l++[v]).length=l.length+1 by simp];simpa using HO8.out
     case measure=>simp [intOf];omega
end Go.Proofs.YtmeejlgnhfkeaaaGreatDoor
