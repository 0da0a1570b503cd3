/- Parts. -/
import Derived.Test.YtmeejlgnhfkeaaaGreatDoorR26
import Derived.Test.YtmeejlgnhfkeaaaGreatDoorR28
import Derived.Lib.SliceRun
import Derived.Deep.RegionLaw
import Derived.Shelf.RegionOpenPlain
import Derived.Test.YtmeejlgnhfkeaaaGreatDoorR29
namespace Go.Proofs.YtmeejlgnhfkeaaaGreatDoor
open Go.RowKit Go.Proofs.Tryz
set_option maxRecDepth 100000
set_option maxHeartbeats 8000000
def zerosT (n:Nat):List Value:=(Builtin.zeroCells (Value.agg #[.slice none 0 0,.int .i64 0,.int .i64 0]).cells n).toList
theorem zgz (n:Nat):(zerosT n).length=n * 3:=by
 unfold zerosT;rw [Array.length_toList,size_zeroCells];rfl
theorem zvd (n:Nat):∀ v∈zerosT n,v.oneCell'=true:=by
 intro v hv;unfold zerosT Builtin.zeroCells at hv;rw [Array.toList_map,List.mem_map] at hv;obtain ⟨i,_,rfl⟩:=hv;have h4:(Value.agg #[.slice none 0 0,.int .i64 0,.int .i64 0]).cells.size=3:=rfl;rw [h4];have:i % 3=0∨i % 3=1∨i % 3=2:=by omega
 rcases this with h | h | h<;>rw [h]<;>rfl
theorem zkk (w:World) (ty g o n c:Nat) (hn:0<n) (hc:∀ j,j<n * 3→(w.cell? ⟨g,o+j,none⟩).isSome=true) (hf:∀ j,j<n * 3→w.frozen? ⟨g,o+j,none⟩=false) :
  (Builtin.clear_ #[42] ty #[.slice (some ⟨g,o,none⟩) n c]).run Tryz.prog w=.ok (.tuple #[]) (w.setCells g o (zerosT n)):=by
 have hst:=run_storeCells_cells (P:=Tryz.prog) g o (zerosT n) 0 w (by rw [zgz];simpa using hc) (by rw [zgz];simpa using hf) (zvd n)
 simp only [Nat.add_zero] at hst;obtain ⟨m,rfl⟩:∃ m,n=m+1:=⟨n - 1,by omega⟩
 unfold zerosT at hst ⊢;simp [Builtin.clear_,run_underlying underlying42,hst]
theorem flatT_at {T:List Tq} {p:Nat} {u:Value} (h:(T.flatMap encTq)[p]?=some u):∃ q,T[p / 3]?=some q∧(encTq q)[p % 3]?=some u:=by
 induction T generalizing p with
 | nil=>simp at h
 | cons q r ih=>
  rw [List.flatMap_cons] at h;by_cases hp:p<3
  ·rw [List.getElem?_append_left (by rw [zat];exact hp)] at h
   exact ⟨q,by rw [show p / 3=0 by omega];rfl,by rw [show p % 3=p by omega];exact h⟩
  ·rw [List.getElem?_append_right (by rw [zat];omega),zat] at h
   obtain ⟨q',h1,h2⟩:=ih h;exact ⟨q',by rw [show p / 3=(p - 3) / 3+1 by omega];exact h1,by rw [show p % 3=(p - 3) % 3 by omega];exact h2⟩
theorem zws (T:List Tq):(T.flatMap encTq).length=T.length * 3:=by
 induction T with
 | nil=>rfl
 | cons q r ih=>rw [List.flatMap_cons,List.length_append,ih,zat,List.length_cons];omega
theorem zhb {T:List Tq} {j:Nat} {q:Tq} (h:T[j]?=some q) {i:Nat} {u:Value} (hu:(encTq q)[i]?=some u):(T.flatMap encTq)[j * 3+i]?=some u:=by
 have hi:i<3:=by have:=(List.getElem?_eq_some_iff.1 hu).1;rw [zat] at this;exact this
 induction T generalizing j with
 | nil=>simp at h
 | cons x r ih=>
  rw [List.flatMap_cons];cases j with
  | zero=>
   simp at h;subst h;rw [List.getElem?_append_left (by rw [zat];omega),Nat.zero_mul,Nat.zero_add];exact hu
  | succ j=>
   rw [List.getElem?_append_right (by rw [zat];omega),zat,show (j+1) * 3+i - 3=j * 3+i by omega]
   exact ih (by simpa using h)
theorem zzn (T:List Tq):∀ u∈T.flatMap encTq,u.oneCell'=true:=by
 intro u hu;obtain ⟨q,_,hq⟩:=List.mem_flatMap.1 hu;exact zcb q u hq
theorem delT_any (T:List Tq) (i m:Nat) (v:Value) (base:Nat) (w:World) (hT:T.length=i+1+m) (hl:T.length<1000000) (hown:w.ownsRow base 63 3 v T.length (T.flatMap encTq)) (R:Ending→World→Prop)
  (hR:∀ w' a c,Below base w w'→NewS base (.slice a (i+m) c)→SlcAt 3 encTq w' (.slice a (i+m) c) (T.eraseIdx i)→R (.returned (.slice a (i+m) c)) w') :
  Calls Tryz.prog 166 #[v,.int .i64 (i:Nat),.int .i64 ((i:Int)+1)] w R:=by
 have hlt:(T.eraseIdx i).length=i+m:=by rw [List.length_eraseIdx_of_lt (by omega)];omega
 rcases hown.2 with ⟨rfl,h0⟩ | ⟨g,cap,cur,rfl,hb,hh,hn,hm,hcs,htake⟩
 ·omega
 obtain ⟨cc,hcc⟩:∃ cc,cap=i+1+m+cc:=⟨cap - (i+1+m),by omega⟩
 have hsome:∀ j,j<cap * 3→(w.cell? ⟨g,j,none⟩).isSome=true:=fun j hj=>by
  rw [cellOf hh j (Array.getElem?_eq_getElem (by omega))];rfl
 have hfz:∀ j,w.frozen? ⟨g,j,none⟩=false:=frz hh;have hcell:∀ j u,(T.flatMap encTq)[j]?=some u→w.cell? ⟨g,j,none⟩=some u:=fun j u hj=>by
  rw [← htake] at hj;rw [List.getElem?_take] at hj
  split at hj
  ·exact cellOf hh j (by rw [← Array.getElem?_toList];exact hj)
  ·cases hj
 have hglt:=lt_of_block hh;obtain ⟨news,hnews⟩:∃ news,news=(T.drop (i+1)).flatMap encTq:=⟨_,rfl⟩;have hnl:news.length=m * 3:=by rw [hnews,zws,List.length_drop];omega
 have hng:∀ t u,news[t]?=some u→(T.flatMap encTq)[(i+1) * 3+t]?=some u:=fun t u ht=>by
  rw [hnews] at ht;obtain ⟨q,h1,h2⟩:=flatT_at ht;rw [List.getElem?_drop] at h1;have:=zhb h1 h2
  rwa [show (i+1+t / 3) * 3+t % 3=(i+1) * 3+t by omega] at this
 obtain ⟨A,hA,hsrc⟩:∃ A:Addr,(if m+cc=0 then (some (⟨g,0,none⟩:Addr)) else some ⟨g,(i+1) * 3,none⟩)=some A∧Hid (∀ t u,news[t]?=some u→w.drew.cell? (A.add t)=some u):=by
  by_cases h:m+cc=0
  ·refine ⟨⟨g,0,none⟩,by simp [h],fun t u hu=>?_⟩
   have h0:news.length=0:=by rw [hnl];omega
   rw [List.length_eq_zero_iff.1 h0] at hu;simp at hu
  ·refine ⟨⟨g,(i+1) * 3,none⟩,by rw [if_neg h],fun t u hu=>?_⟩
   rw [Addr.add_lit];exact hcell _ _ (hng t u hu)
 have s2:Hid (∀ u∈news,u.oneCell'=true):=by rw [hnews];exact zzn _
 have s3:Hid (∀ t,t<news.length→(w.drew.cell? ⟨g,0+i * 3+t,none⟩).isSome=true∧w.drew.frozen? ⟨g,0+i * 3+t,none⟩=false):=by
  intro t ht;rw [hnl] at ht;exact ⟨hsome _ (by omega),hfz _⟩
 obtain ⟨W1,hW1⟩:∃ W1,W1=w.drew.setCells g (0+i * 3) news:=⟨_,rfl⟩;have hW1s:∀ j,j<cap * 3→(W1.cell? ⟨g,j,none⟩).isSome=true:=fun j hj=>by rw [hW1];exact World.isSome_setCells g _ _ _ _ (hsome j hj)
 have hW1f:∀ j,W1.frozen? ⟨g,j,none⟩=false:=fun j=>by rw [hW1,World.frozen?_setCells];exact hfz j
 have hcl:∀ ty,(Builtin.clear_ #[42] ty #[.slice (some ⟨g,(i+m) * 3,none⟩) (i+1+m - (i+m)) (i+1+m+cc - (i+m))]).run Tryz.prog W1=.ok (.tuple #[]) (W1.setCells g ((i+m) * 3) (zerosT 1)):=fun ty=>by
  rw [show i+1+m - (i+m)=1 by omega]
  exact zkk W1 ty g ((i+m) * 3) 1 _ (by decide) (fun t ht=>hW1s _ (by omega)) (fun t _=>hW1f _)
 have hend:SlcAt 3 encTq (W1.setCells g ((i+m) * 3) (zerosT 1)) (.slice (some ⟨g,0,none⟩) (i+m) cap) (T.eraseIdx i):=by
  refine ⟨_,cap,by rw [hlt],by omega,hm,.inr ⟨g,0,rfl,by rw [World.size_setCells',hW1,World.size_setCells'];exact hglt,fun j x hx k u hu=>?_⟩⟩
  have hk:k<3:=by have:=(List.getElem?_eq_some_iff.1 hu).1;rw [zat] at this;exact this
  have hjl:j<i+m:=by have:=(List.getElem?_eq_some_iff.1 hx).1;omega
  rw [World.cell?_setCells_out _ _ _ _ _ (fun _ _=>.inl (by show 0+j * 3+k<_;omega)),hW1]
  rw [List.getElem?_eraseIdx] at hx
  split at hx
  ·rw [World.cell?_setCells_out _ _ _ _ _ (fun _ _=>.inl (by show 0+j * 3+k<_;omega))]
   rw [Nat.zero_add];exact hcell _ _ (zhb hx hu)
  ·have hq:=zhb hx hu;have hq2:news[(j - i) * 3+k]?=some u:=by
    rw [hnews];exact zhb (by rw [List.getElem?_drop,show i+1+(j - i)=j+1 by omega];exact hx) hu
   have hin:=World.cell?_setCells_in g news (0+i * 3) w.drew (fun t ht=>hsome _ (by omega)) ((j - i) * 3+k) (by rw [hnl];omega)
   rw [show 0+i * 3+((j - i) * 3+k)=0+j * 3+k by omega] at hin
   rw [hin,← hq2,List.getElem?_eq_getElem]
 have hbl:Below base w (W1.setCells g ((i+m) * 3) (zerosT 1)):=by
  rw [hW1];exact zcw hb _ _ (zcw hb _ _ (Below.drew (Below.refl _ _)))
 have HF:=jH (hR _ _ _ hbl (fun a n c e=>by injection e with e;injection e with e;rw [← e];exact hb) hend)
 have hW:Hid (W1=w.drew.setCells g (0+i * 3) news):=hW1;have HNL:=jH hnl;clear hW1 hW1s hW1f hend hbl hsome hfz hcell hng hnl hnews hcs htake hh hown hR;rw [hT] at hn hl ⊢;subst hcc;have hm2:i+1+m+cc≤9223372036854775807:=hm;obtain ⟨i0,hi0,hz0,hz1,hz2⟩:=info_parts zbz;have s1:Hid (news.length=m * 3):=HNL.out;have mixed:Tryz.prog.follows .mixedOrders=true:=by kernel_rfl
 have q1:(i:Int)≤(i:Int)+1+(m:Int)+(cc:Int):=by omega
 have q2:(i:Int)+1≤(i:Int)+1+(m:Int):=by omega
 have q3:(i:Int)+1≤(i:Int)+1+(m:Int)+(cc:Int):=by omega
 have q4:(0:Int)≤(i:Int)+1:=by omega
 by_cases hmc:m+cc=0
 ·obtain rfl:m=0:=by omega
  obtain rfl:cc=0:=by omega
  rw [if_pos rfl] at hA;injection hA with hA;subst hA;simp only [Nat.add_zero,Nat.add_sub_cancel_left] at hcl HF;have q5:(i:Int)≤(i:Int)+1:=by omega
  go_enter func166,ntmps166
  go_wp2_with fail
  go_region_law_o (refine step_append_room rfl (.tmp 22) (.tmp 25) 42 rfl 63 i0 3 underlying42 hi0 hz1 g 0 i (i+1) (by simp [Act.eval,Act.put]) ⟨g,0,none⟩ 0 0 news (by simp [Act.eval,Act.put]) s1.out hsrc.out s2.out (by omega) s3.out ?_;rw [← hW.out])
  go_wp2_with fail;exact HF.out
 ·rw [if_neg hmc] at hA;injection hA with hA;subst hA;have hm1:¬ (m=0∧cc=0):=by omega
  have hm3:¬ (i+1+m+cc=i+1):=by omega
  go_enter func166,ntmps166
  go_wp2_with fail
  go_region_law_o (refine step_append_room rfl (.tmp 22) (.tmp 25) 42 rfl 63 i0 3 underlying42 hi0 hz1 g 0 i (i+1+m+cc) (by simp [Act.eval,Act.put]) ⟨g,(i+1) * 3,none⟩ m (m+cc) news (by simp [Act.eval,Act.put];omega) s1.out hsrc.out s2.out (by omega) s3.out ?_;rw [← hW.out])
  go_wp2_with fail;exact HF.out
set_option maxRecDepth 100000
set_option maxHeartbeats 16000000
theorem Below.hidB {B:Nat} {a w:World} (h:Below B a w) (H:Nat→Bool):Below B (hideW H a) (hideW H w):=by
 refine ⟨h.os,h.tape,h.output,by rw [zav,zav];exact h.size,fun k hk=>?_⟩
 rw [zbk,zbk,h.block k hk]
theorem Chg.below {N B:Nat} {w w5 wr:World} (h:Chg N w w5) (b:Below B w5 wr) (hB:w.heap.size≤B):Chg N w wr:=by
 have h1:Below (hideW (fun k=>k == N) w).heap.size (hideW (fun k=>k == N) w) (hideW (fun k=>k == N) w5):=h;have h2:=Below.hidB b (fun k=>k == N);exact Below.trans h1 (Below.mono h2 (by rw [zav];exact hB))
def RowD (w:World) (g:Nat) (xs:List Int):Prop:=∀ k y,xs[k]?=some y→w.cell? ⟨g,k,none⟩=some (.int .i64 y)∧w.frozen? ⟨g,k,none⟩=false
def mixD (n:Int) (l:List Int) (j:Nat):List Int:=(l.take j).map (downI n)++l.drop j
theorem zpu {n:Int} {l:List Int} {j:Nat} {y:Int} (h:l[j]?=some y):(mixD n l j)[j]?=some y:=by
 have hj:=(List.getElem?_eq_some_iff.1 h).1;unfold mixD;rw [List.getElem?_append_right (by simp;omega),List.length_map,List.length_take,Nat.min_eq_left (by omega),Nat.sub_self,List.getElem?_drop,Nat.add_zero]
 exact h
theorem zpb {n:Int} {l:List Int} {j:Nat} {y:Int} (h:l[j]?=some y) (k:Nat):(mixD n l (j+1))[k]?=if k=j then some (downI n y) else (mixD n l j)[k]?:=by
 have hj:=(List.getElem?_eq_some_iff.1 h).1;unfold mixD;by_cases hk:k<j
 ·rw [if_neg (by omega),List.getElem?_append_left (by simp;omega),List.getElem?_append_left (by simp;omega),List.getElem?_map,List.getElem?_map,List.getElem?_take,List.getElem?_take,if_pos (by omega),if_pos hk]
 ·by_cases hkj:k=j
  ·subst hkj;rw [if_pos rfl,List.getElem?_append_left (by simp;omega),List.getElem?_map,List.getElem?_take,if_pos (by omega),h];rfl
  ·rw [if_neg hkj,List.getElem?_append_right (by simp;omega),List.getElem?_append_right (by simp;omega)]
   simp only [List.length_map,List.length_take,List.getElem?_drop];rw [Nat.min_eq_left (by omega),Nat.min_eq_left (by omega)]
   congr 1;omega
theorem mixD_end (n:Int) (l:List Int):mixD n l l.length=l.map (downI n):=by unfold mixD;rw [List.take_of_length_le (Nat.le_refl _),List.drop_length,List.append_nil]
theorem zwo (n:Int) (l:List Int):mixD n l 0=l:=by unfold mixD;simp
theorem znw {α β:Type} (f:α→β):∀ (l:List α) (i:Nat),(l.eraseIdx i).map f=(l.map f).eraseIdx i
 | [],_=>rfl
 | _ :: _,0=>rfl
 | x :: r,i+1=>by rw [List.eraseIdx_cons_succ,List.map_cons,List.map_cons,List.eraseIdx_cons_succ,znw f r i]
theorem RowD.skip {w:World} {g:Nat} {n:Int} {l:List Int} {j:Nat} {y:Int} (h:RowD w g (mixD n l j)) (hy:l[j]?=some y) (hn:¬ n<y):RowD w g (mixD n l (j+1)):=by
 intro k z hz;rw [zpb hy] at hz
 split at hz
 ·next e=>
  subst e;refine h _ _ ?_;rw [zpu hy,← hz];unfold downI;rw [if_neg hn]
 ·exact h k z hz
theorem RowD.put {w:World} {g:Nat} {n:Int} {l:List Int} {j:Nat} {y:Int} (h:RowD w g (mixD n l j)) (hy:l[j]?=some y) (hn:n<y):RowD (w.setCell ⟨g,j,none⟩ (.int .i64 (y - 1))) g (mixD n l (j+1)):=by
 intro k z hz;rw [zpb hy] at hz;have hj:=h j y (zpu hy)
 split at hz
 ·next e=>
  subst e;have e2:z=y - 1:=by rw [← Option.some.inj hz];unfold downI;rw [if_pos hn]
  subst e2;exact ⟨World.cell?_setCell_same _ _ _ (by rw [hj.1]),by rw [World.frozen?_setCell];exact hj.2⟩
 ·next e=>
  obtain ⟨h1,h2⟩:=h k z hz;exact ⟨by rw [World.cell?_setCell_other _ _ _ _ (by intro e2;injection e2 with _ e3;exact e e3.symm)];exact h1,by rw [World.frozen?_setCell];exact h2⟩
theorem zvp (H:Nat→Bool) (N:Nat) (n:Int) (s:Bn) (w:World) (h:SAt H N w s) (ok:OkB s) (R:Ending→World→Prop)
  (hR:∀ w',Chg N w w'→SAt H N w' (forgetB s n).2→R (.returned (errV (forgetB s n).1)) w') :
  Calls Tryz.prog 121 #[.pointer (some ⟨N,0,none⟩),.int .i64 n] w R:=by
 obtain ⟨V,hb,hs⟩:=h.blk;obtain ⟨c0,c1,c2,c3,c4,c5,c6⟩:=zas hb;have ht8:=ok.t8;have hlk8:s.lk.length<1000000:=by have:=ok.lk8;omega
 have HIN:=jH ok.inr;have HH:=jH h;have HB:=jH hb;have HS:=jH hs;have HR:=jH hR;have hNl:=lt_of_block hb;clear hR h hb hs ok;have hc:stCells V s=#[.slice V.pa s.progs.length V.pc,.slice V.ha s.hist.length V.hc,.slice V.ta s.tests.length V.tc,.slice V.la s.lk.length V.lc,.int .i64 s.fixes,.int .i64 s.checks,.slice V.oa s.orders.length V.oc]:=rfl
 go_enter func121,ntmps121
 by_cases hi0:n<0
 ·have hr:=HR.out w (zcn N w) (by unfold forgetB;rw [if_pos (.inl hi0)];exact HH.out)
  unfold forgetB at hr;rw [if_pos (.inl hi0)] at hr;have HF:=jH hr;have hi0z:decide (n<0)=true:=by rw [decide_eq_true_eq];exact hi0
  clear hr;go_wp2_with fail;exact HF.out
 have hi0z:decide (n<0)=false:=by rw [decide_eq_false_iff_not];exact hi0
 by_cases hil:(s.tests.length:Int)≤n
 ·have hr:=HR.out w (zcn N w) (by unfold forgetB;rw [if_pos (.inr hil)];exact HH.out)
  unfold forgetB at hr;rw [if_pos (.inr hil)] at hr;have HF:=jH hr;have hilz:decide (n≥(s.tests.length:Int))=true:=by rw [decide_eq_true_eq];exact hil
  clear hr;go_wp2_with fail;exact HF.out
 have hilz:decide (n≥(s.tests.length:Int))=false:=by rw [decide_eq_false_iff_not];exact hil
 obtain ⟨i,rfl⟩:∃ i:Nat,n=i:=⟨n.toNat,by omega⟩
 have hv:forgetB s (i:Int)=if s.lk.contains (i:Int) then (8,s) else (0,{ s with tests:=s.tests.eraseIdx i,lk:=s.lk.map (downI i) }):=by
  unfold forgetB;rw [if_neg (by omega),Int.toNat_natCast]
 rw [hv] at HR;clear hv;obtain ⟨T,hT,hTx⟩:=HS.out.ts;have hT8:T.length=s.tests.length:=by rw [← hTx];simp
 obtain ⟨m,hm⟩:∃ m,T.length=i+1+m:=⟨T.length - (i+1),by omega⟩
 have HT:=jH hT;have HTX:=jH hTx;have HM:=jH hm;have HT8:=jH hT8;have hm8:i+1+m≤8:=by omega
 clear hT hTx hm hT8;go_wp2_with fail;refine zfd s.lk (i:Int) _ _ HS.out.lk.unhide _ ?_;obtain ⟨q,hq⟩:∃ q,s.lk.contains (i:Int)=q:=⟨_,rfl⟩;rw [hq] at HR ⊢;clear hq;cases q with
 | true=>
  rw [if_pos rfl] at HR;have HF:=jH (HR.out w (zcn N w) HH.out);go_wp2_with fail;exact HF.out
 | false=>
  rw [if_neg (by decide)] at HR
  go_wp2_with fail;refine znc T _ _ HT.out.unhide.at_ (by rw [HM.out];omega) _ ?_
  intro w1 k1 hg1 hk1;have hq1:∃ a c,k1=.slice a T.length c:=by
   rcases hk1.2 with ⟨e,h0⟩ | ⟨g,cap,cur,e,_⟩
   ·exact ⟨none,0,by rw [e,h0]⟩
   ·exact ⟨_,cap,e⟩
  obtain ⟨ra,rc,rfl⟩:=hq1;have HK1:=jH hk1;have HG1:=jH hg1;have hb1:=hg1.blk HB.out;have HB1:=jH hb1;clear hg1 hk1 c0 c1 c2 c3 c4 c5 c6 hb1;go_wp2_with fail;refine delT_any T i m _ w.heap.size _ HM.out (by rw [HM.out];omega) HK1.out _ ?_
  intro w2 a2 p2 hb2 hn2 hs2;have HBE2:=jH hb2;have hg2:Grow w w2:=Below.trans (show Below w.heap.size w w1 from HG1.out) hb2;have HG2:=jH hg2;have HN2:=jH hn2;have HS2:=jH hs2;have hbN:=hg2.blk HB.out;have HBN:=jH hbN;obtain ⟨d0,d1,d2,d3,d4,d5,d6⟩:=zas hbN;have z2:=zac hbN 2;clear hb2 hn2 hs2 hg2;have hb3:=zau HBN.out 2 (.slice a2 (i+m) p2);rw [hc] at hb3;simp only [List.setIfInBounds_toArray,List.set_cons_zero,List.set_cons_succ] at hb3;have hc3:Chg N w (w2.setCell ⟨N,2,none⟩ (.slice a2 (i+m) p2)):=(Chg.of_grow HG2.out).setCell 2 _;have hh3:hideW H (w2.setCell ⟨N,2,none⟩ (.slice a2 (i+m) p2))=hideW H w2:=zak (a:=⟨N,2,none⟩) HH.out.hid.hH _;go_wp2_with fail;clear d0 d1 d2 d3 d4 d5 d6 z2;generalize w2.setCell ⟨N,2,none⟩ (.slice a2 (i+m) p2)=W3 at hb3 hc3 hh3 ⊢;have HB3:=jH hb3;have HC3:=jH hc3;have HH3:=jH hh3;have hz3:=hc3.sz;clear hb3 hc3 hh3 hbN;refine zgw s.lk _ _ (HS.out.lk.grow (HC3.out.hide HH.out.hid.hH)).unhide (by omega) _ ?_
  intro w4 k4 hg4 hk4;have hq1:∃ a c,k4=.slice a s.lk.length c:=by
   rcases hk4.2 with ⟨e,h0⟩ | ⟨g,cap,cur,e,_⟩
   ·exact ⟨none,0,by rw [e,h0]⟩
   ·exact ⟨_,cap,e⟩
  obtain ⟨ca,cc,rfl⟩:=hq1;have HK4:=jH hk4;have HG4:=jH hg4;have hb4:=hg4.blk HB3.out;have HB4:=jH hb4;obtain ⟨d0,d1,d2,d3,d4,d5,d6⟩:=st7 hb4;have z3:=zac hb4 3;have hz4:=hg4.sz;have hb5:=zau HB4.out 3 (.slice ca s.lk.length cc);simp only [List.setIfInBounds_toArray,List.set_cons_zero,List.set_cons_succ] at hb5;have hc5:Chg N w (w4.setCell ⟨N,3,none⟩ (.slice ca s.lk.length cc)):=(HC3.out.trans (Chg.of_grow HG4.out)).setCell 3 _;have hh5:hideW H (w4.setCell ⟨N,3,none⟩ (.slice ca s.lk.length cc))=hideW H w4:=zak (a:=⟨N,3,none⟩) HH.out.hid.hH _;have hk5:hideW (fun k=>k == N) (w4.setCell ⟨N,3,none⟩ (.slice ca s.lk.length cc))=hideW (fun k=>k == N) w4:=zak (a:=⟨N,3,none⟩) (by simp) _
  go_wp2_with fail;clear d0 d1 d2 d3 d4 d5 d6 z3;generalize w4.setCell ⟨N,3,none⟩ (.slice ca s.lk.length cc)=W5 at hb5 hc5 hh5 hk5 ⊢;have HB5:=jH hb5;have HC5:=jH hc5;have HH5:=jH hh5;have HKK5:=jH hk5;have hz5:=hc5.sz;clear hb5 hc5 hh5 hk5 hg4 hk4 hb4;have hNew:NewS W3.heap.size (.slice ca s.lk.length cc):=NewS.of_own (show Own 1 encI _ w4 _ s.lk from ⟨_,HK4.out⟩);have hcc:s.lk.length≤cc∧cc≤9223372036854775807:=by
   obtain ⟨_,c9,e,h1,h2,_⟩:=zaa zal HK4.out;injection e with e1 e2 e3;rw [e3];exact ⟨h1,h2⟩
  obtain ⟨g,hgb,hca,hgl,hrow⟩:∃ g,W3.heap.size≤g∧(s.lk≠[]→ca=some ⟨g,0,none⟩)∧(s.lk≠[]→g<W5.heap.size)∧RowD W5 g s.lk:=by
   rcases HK4.out.2 with ⟨e,h0⟩ | ⟨g,cap,cur,e,hbg,hh,hn9,_,hcs,htk⟩
   ·have h1:s.lk=[]:=List.eq_nil_of_length_eq_zero h0;refine ⟨W3.heap.size,Nat.le_refl _,fun h=>absurd h1 h,fun h=>absurd h1 h,?_⟩;rw [h1];intro k y hy;simp at hy
   ·injection e with e1 e2 e3;have hgN:((g == N):Bool)=false:=by simp only [beq_eq_false_iff_ne];omega
    have h5:W5.heap[g]?=some (.cells cur 3 (0,0)):=by
     have h9:=zdf (H:=fun k=>k == N) (w:=W5) (k:=g) hgN;rw [HKK5.out,zdf (H:=fun k=>k == N) (w:=w4) (k:=g) hgN] at h9;rw [← h9];exact hh
    refine ⟨g,hbg,fun _=>e1,fun _=>lt_of_block h5,fun k y hy=>⟨cellOf h5 k ?_,frz h5 k⟩⟩;have h6:(cur.toList.take (s.lk.length * 1))[k]?=some (.int .i64 y):=by rw [htk,flatI,List.getElem?_map,hy];rfl
    rw [List.getElem?_take] at h6
    split at h6
    ·rw [← Array.getElem?_toList];exact h6
    ·cases h6
  have hFIN:∀ wr,Below W3.heap.size W5 wr→IntsAt wr (.slice ca s.lk.length cc) (s.lk.map (downI i))→R (.returned (errV 0)) wr:=by
   intro wr hbr hli;have hcr:Chg N w wr:=HC5.out.below hbr hz3;have hgr:=hcr.hide HH.out.hid.hH;have hbN:wr.heap[N]?=some (.cells #[.slice V.pa s.progs.length V.pc,.slice V.ha s.hist.length V.hc,.slice a2 (i+m) p2,.slice ca s.lk.length cc,.int .i64 s.fixes,.int .i64 s.checks,.slice V.oa s.orders.length V.oc] 86 (0,0)):=by
    rw [hbr.block N (by omega)];exact HB5.out
   have hg2r:Grow (hideW H w2) (hideW H wr):=by
    have h1:Grow (hideW H w2) (hideW H W5):=by rw [HH5.out,← HH3.out];exact HG4.out.hid H
    refine Below.trans (show Below (hideW H w2).heap.size _ _ from h1) (Below.mono (Below.hidB hbr H) ?_);rw [← HH3.out,zav];exact Nat.le_refl _
   have hs9:=HS.out.grow hgr;have hel:(s.tests.eraseIdx i).length=i+m:=by rw [List.length_eraseIdx_of_lt (by have:=HT8.out;have:=HM.out;omega)];have:=HT8.out;have:=HM.out;omega
   refine HR.out wr hcr (HH.out.of_chg hcr (V':={ V with ta:=a2,tc:=p2,la:=ca,lc:=cc }) (by rw [hbN];unfold stCells;dsimp only;rw [hel,List.length_map]) ?_)
   refine ⟨hs9.pr,hs9.hi,⟨T.eraseIdx i,⟨?_,fun q hq=>(HT.out.ins q (List.mem_of_mem_eraseIdx hq)).grow hgr⟩,?_⟩,?_,hs9.od⟩
   ·dsimp only;rw [hel];exact (HS2.out.hide_new HN2.out (fun b hb=>HH.out.hid.new b hb)).grow hg2r
   ·rw [← HTX.out,znw]
   ·dsimp only;rw [List.length_map];exact SlcAt.hide_new hli hNew (fun b hb=>HH.out.hid.new b (by omega))
  have HFIN:=jH hFIN;have HNEW:=jH hNew;have HCA:=jH hca;have HGL:=jH hgl;have HROW:=jH hrow;obtain ⟨hcc1,hcc2⟩:=hcc;clear hFIN hNew hca hgl hrow
  go_loopw [53] (fun jv wr=>∃ j:Nat,j≤s.lk.length∧jv=.int .i64 j∧Below W3.heap.size W5 wr∧RowD wr g (mixD i s.lk j)) (fun jv _=>s.lk.length - (intOf jv).toNat)
  case atStart=>exact ⟨0,by omega,rfl,Below.refl _ _,by rw [zwo];exact HROW.out⟩
  case round=>
   obtain ⟨j,hj,rfl,hbr,hrow⟩:=hrel;have HBR:=jH hbr;have HRW:=jH hrow;clear hbr hrow;by_cases hjl:j<s.lk.length
   ·have hne:s.lk≠[]:=by intro e;rw [e] at hjl;simp at hjl
    obtain rfl:=HCA.out hne;obtain ⟨y,hy⟩:∃ y,s.lk[j]?=some y:=⟨_,List.getElem?_eq_getElem hjl⟩;have HY:=jH hy;obtain ⟨e0,f0⟩:=HRW.out j y (zpu hy);have hyr:=HIN.out y (List.mem_of_getElem? hy);have hbN:wr.heap[N]?=some (.cells #[.slice V.pa s.progs.length V.pc,.slice V.ha s.hist.length V.hc,.slice a2 (i+m) p2,.slice (some ⟨g,0,none⟩) s.lk.length cc,.int .i64 s.fixes,.int .i64 s.checks,.slice V.oa s.orders.length V.oc] 86 (0,0)):=by
     rw [HBR.out.block N (by omega)];exact HB5.out
    obtain ⟨d0,d1,d2,d3,d4,d5,d6⟩:=st7 hbN;have hjz:(j:Int)<(s.lk.length:Int):=by omega
    clear hy hbN hne;by_cases hyn:(i:Int)<y
    ·have qw:IntKind.i64.wrap (y - 1)=y - 1:=IntWalk.i64_in _ (by omega)
     go_wp2_with fail;go_roundw
     case rel=>exact ⟨j+1,by omega,by go_num,Below.setCell HBR.out hgb _,HRW.out.put HY.out hyn⟩
     case measure=>simp [intOf];omega
    ·go_wp2_with fail;go_roundw
     case rel=>exact ⟨j+1,by omega,by go_num,HBR.out,HRW.out.skip HY.out hyn⟩
     case measure=>simp [intOf];omega
   ·have hje:j=s.lk.length:=by omega
    subst hje;have hli:IntsAt wr (.slice ca s.lk.length cc) (s.lk.map (downI i)):=by
     have h1:=HRW.out;rw [mixD_end] at h1;by_cases hne:s.lk=[]
     ·refine ⟨ca,cc,by rw [List.length_map],by rw [List.length_map];exact hcc1,hcc2,.inl ⟨by rw [hne];rfl,fun e=>?_⟩⟩
      obtain ⟨a9,c9,e9,_,_,h9⟩:=zaa zal HK4.out;injection e9 with e1 e2 e3;rcases h9 with ⟨_,h9⟩ | ⟨b9,o9,h9,_⟩
      ·rw [e3];exact h9 (by rw [← e1];exact e)
      ·rw [← e1,e] at h9;cases h9
     ·obtain rfl:=HCA.out hne;have h2:=zia (w:=wr) (b:=g) (c:=cc) (xs:=s.lk.map (downI i)) (by rw [List.length_map];exact hcc1) hcc2 (Nat.lt_of_lt_of_le (HGL.out hne) HBR.out.size) (fun k y hk=>(h1 k y hk).1)
      rw [List.length_map] at h2;exact h2
    have HF:=jH (HFIN.out wr HBR.out hli);clear hli;go_wp2_with fail;exact HF.out
set_option maxRecDepth 100000
set_option maxHeartbeats 16000000
def numF (k:Nat):Nat:=if k=0 then 5 else if k=2 then 6 else if k=3 then 1 else if k=4 then 1 else 0
theorem exec_any (H:Nat→Bool) (N k:Nat) (l:List Int) (lv:Value) (s:Bn) (w:World) (hl:IntsAt w lv l) (hk:k≤6) (hln:l.length=numF k) (hlN:∀ bb oo n c,lv=.slice (some ⟨bb,oo,none⟩) n c→bb≠N) (h:SAt H N w s) (ok:OkB s) (R:Ending→World→Prop)
  (hR:∀ w',Chg N w w'→SAt H N w' (execB s k l).2→R (.returned (errV (execB s k l).1)) w') :
  Calls Tryz.prog 70 #[.pointer (some ⟨N,0,none⟩),.agg #[.int .i64 k,lv]] w R:=by
 have hbx:=heap_alloc_new w (.cells #[.int .i64 k,lv] 123);have hgx:=(Grow.refl w).alloc (.cells #[.int .i64 k,lv] 123);obtain ⟨b0,b1⟩:=box2 hbx;have hli:=hl;obtain ⟨la,lc,rfl,l1,l2,jk⟩:=hli;have HR:=jH hR;have HH:=jH (h.grow hgx);have HL:=jH (hl.grow hgx);have HOKB:=jH ok;have HGX:=jH hgx;have HLN:=jH hlN;clear hR h hl ok jk hlN hbx hgx;have hfin:∀ (r:Int × Bn),execB s k l=r→∀ w',Chg N (w.alloc (.cells #[.int .i64 k,.slice la l.length lc] 123)) w'→SAt H N w' r.2→R (.returned (errV r.1)) w':=fun r e w' hc hs=>by
  have:=HR.out w' ((Chg.of_grow HGX.out).trans hc);rw [e] at this;exact this hs
 have HFIN:=jH hfin;clear hfin;by_cases hk0:k=0
 ·subst hk0;obtain ⟨x0,x1,x2,x3,x4,hle⟩:∃ x0 x1 x2 x3 x4,l=[x0,x1,x2,x3,x4]:=by
   match l,hln with
   | [a0,a1,a2,a3,a4],_=>exact ⟨a0,a1,a2,a3,a4,rfl⟩
  have he:execB s 0 l=putB s x0 ⟨x1,x2,x3,x4⟩:=by subst hle;rfl
  have hF:=HFIN.out _ he;obtain ⟨res,hres⟩:∃ q,(putB s x0 ⟨x1,x2,x3,x4⟩).1=q:=⟨_,rfl⟩;rw [hres] at hF;have HF:=jH hF;have HRES:=jH hres;clear he hF hres hln hk;have HLE:=jH hle;clear hle
  go_enter func70,ntmps70
  go_wp2_with fail;refine put_any H N l x0 x1 x2 x3 x4 _ s _ HL.out HLE.out HLN.out HH.out HOKB.out _ ?_;intro w5 hc5 hs5;have HG:=jH (HF.out w5 hc5 hs5);rw [HRES.out];obtain ⟨ev,hev⟩:∃ q,errV res=q:=⟨_,rfl⟩;rw [hev] at HG ⊢;clear hev hs5 hc5;go_wp2_with fail;exact HG.out
 by_cases hk1:k=1
 ·subst hk1;have he:execB s 1 l=undoB s:=rfl;have hF:=HFIN.out _ he;obtain ⟨res,hres⟩:∃ q,(undoB s).1=q:=⟨_,rfl⟩;rw [hres] at hF;have HF:=jH hF;have HRES:=jH hres;clear he hF hres hln hk
  go_enter func70,ntmps70
  go_wp2_with fail;refine undo_any H N s _ HH.out HOKB.out _ ?_;intro w5 hc5 hs5;have HG:=jH (HF.out w5 hc5 hs5);rw [HRES.out];obtain ⟨ev,hev⟩:∃ q,errV res=q:=⟨_,rfl⟩;rw [hev] at HG ⊢;clear hev hs5 hc5;go_wp2_with fail;exact HG.out
 by_cases hk2:k=2
 ·subst hk2;obtain ⟨x0,x1,x2,x3,x4,x5,hle⟩:∃ x0 x1 x2 x3 x4 x5,l=[x0,x1,x2,x3,x4,x5]:=by
   match l,hln with
   | [a0,a1,a2,a3,a4,a5],_=>exact ⟨a0,a1,a2,a3,a4,a5,rfl⟩
  have he:execB s 2 l=testB s [x0,x1,x2,x3] x4 x5:=by subst hle;rfl
  have hF:=HFIN.out _ he;obtain ⟨res,hres⟩:∃ q,(testB s [x0,x1,x2,x3] x4 x5).1=q:=⟨_,rfl⟩;rw [hres] at hF;have HF:=jH hF;have HRES:=jH hres;clear he hF hres hln hk;have HLE:=jH hle;clear hle
  go_enter func70,ntmps70
  go_wp2_with fail;refine test_any H N l x0 x1 x2 x3 x4 x5 _ s _ HL.out HLE.out HH.out HOKB.out _ ?_;intro w5 hc5 hs5;have HG:=jH (HF.out w5 hc5 hs5);rw [HRES.out];obtain ⟨ev,hev⟩:∃ q,errV res=q:=⟨_,rfl⟩;rw [hev] at HG ⊢;clear hev hs5 hc5;go_wp2_with fail;exact HG.out
 by_cases hk3:k=3
 ·subst hk3;obtain ⟨x0,hle⟩:∃ x0,l=[x0]:=by
   match l,hln with
   | [a0],_=>exact ⟨a0,rfl⟩
  have he:execB s 3 l=forgetB s x0:=by subst hle;rfl
  have hF:=HFIN.out _ he;obtain ⟨res,hres⟩:∃ q,(forgetB s x0).1=q:=⟨_,rfl⟩;rw [hres] at hF;have HF:=jH hF;have HRES:=jH hres;clear he hF hres hln hk;obtain ⟨lb,lo,rfl,hlb,y0⟩:=zcu HL.out (k:=0) (x:=x0) (by rw [hle];rfl)
  rw [Nat.add_zero] at y0;subst hle;have y1:(w.alloc (.cells #[.int .i64 3,.slice (some ⟨lb,lo,none⟩) 1 lc] 123)).cell? ⟨lb,lo,none⟩=some (.int .i64 x0):=y0;clear y0
  go_enter func70,ntmps70
  go_wp2_with fail;refine zvp H N x0 s _ HH.out HOKB.out _ ?_;intro w5 hc5 hs5;have HG:=jH (HF.out w5 hc5 hs5);rw [HRES.out];obtain ⟨ev,hev⟩:∃ q,errV res=q:=⟨_,rfl⟩;rw [hev] at HG ⊢;clear hev hs5 hc5;go_wp2_with fail;exact HG.out
 by_cases hk4:k=4
 ·subst hk4;obtain ⟨x0,hle⟩:∃ x0,l=[x0]:=by
   match l,hln with
   | [a0],_=>exact ⟨a0,rfl⟩
  have he:execB s 4 l=lockB s x0:=by subst hle;rfl
  have hF:=HFIN.out _ he;obtain ⟨res,hres⟩:∃ q,(lockB s x0).1=q:=⟨_,rfl⟩;rw [hres] at hF;have HF:=jH hF;have HRES:=jH hres;clear he hF hres hln hk;obtain ⟨lb,lo,rfl,hlb,y0⟩:=zcu HL.out (k:=0) (x:=x0) (by rw [hle];rfl)
  rw [Nat.add_zero] at y0;subst hle;have y1:(w.alloc (.cells #[.int .i64 4,.slice (some ⟨lb,lo,none⟩) 1 lc] 123)).cell? ⟨lb,lo,none⟩=some (.int .i64 x0):=y0;clear y0
  go_enter func70,ntmps70
  go_wp2_with fail;refine lock_any H N x0 s _ HH.out HOKB.out _ ?_;intro w5 hc5 hs5;have HG:=jH (HF.out w5 hc5 hs5);rw [HRES.out];obtain ⟨ev,hev⟩:∃ q,errV res=q:=⟨_,rfl⟩;rw [hev] at HG ⊢;clear hev hs5 hc5;go_wp2_with fail;exact HG.out
 by_cases hk5:k=5
 ·subst hk5;have he:execB s 5 l=fixBn s:=rfl;have hF:=HFIN.out _ he;obtain ⟨res,hres⟩:∃ q,(fixBn s).1=q:=⟨_,rfl⟩;rw [hres] at hF;have HF:=jH hF;have HRES:=jH hres;clear he hF hres hln hk
  go_enter func70,ntmps70
  go_wp2_with fail;refine fix_any H N s _ HH.out HOKB.out _ ?_;intro w5 hc5 hs5;have HG:=jH (HF.out w5 hc5 hs5);rw [HRES.out];obtain ⟨ev,hev⟩:∃ q,errV res=q:=⟨_,rfl⟩;rw [hev] at HG ⊢;clear hev hs5 hc5;go_wp2_with fail;exact HG.out
 obtain rfl:k=6:=by omega
 have he:execB s 6 l=verifyB s:=rfl;have hF:=HFIN.out _ he;obtain ⟨res,hres⟩:∃ q,(verifyB s).1=q:=⟨_,rfl⟩;rw [hres] at hF;have HF:=jH hF;have HRES:=jH hres;clear he hF hres hln hk
 go_enter func70,ntmps70
 go_wp2_with fail;refine ztj H N s _ HH.out HOKB.out _ ?_;intro w5 hc5 hs5;have HG:=jH (HF.out w5 hc5 hs5);rw [HRES.out];obtain ⟨ev,hev⟩:∃ q,errV res=q:=⟨_,rfl⟩;rw [hev] at HG ⊢;clear hev hs5 hc5;go_wp2_with fail;exact HG.out
end Go.Proofs.YtmeejlgnhfkeaaaGreatDoor
