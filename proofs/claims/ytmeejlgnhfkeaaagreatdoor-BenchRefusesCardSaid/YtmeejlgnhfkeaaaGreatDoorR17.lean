/- Parts. -/
import Derived.Test.YtmeejlgnhfkeaaaGreatDoorR09
import Derived.Test.YtmeejlgnhfkeaaaGreatDoorR16
import Derived.Test.YtmeejlgnhfkeaaaGreatDoorR12
import Derived.Test.YtmeejlgnhfkeaaaGreatDoorR13
import Derived.Test.YtmeejlgnhfkeaaaGreatDoorR11
import Derived.Test.YtmeejlgnhfkeaaaGreatDoorR04
import Derived.Test.YtmeejlgnhfkeaaaGreatDoorR15
import Derived.Test.YtmeejlgnhfkeaaaGreatDoorR08
import Derived.Test.YtmeejlgnhfkeaaaGreatDoorR02
import Derived.Test.YtmeejlgnhfkeaaaGreatDoorR45
namespace Go.Proofs.YtmeejlgnhfkeaaaGreatDoor
open Go.RowKit
theorem zoz {p:List Ln} {l:Ln} {kind:Int} (hl:l.ok=true) (hk:0≤kind) (hk2:kind≤2):(candL p l kind).length≤1000:=by
 have h1:allR.length≤1000:=by decide +kernel
 rw [zxn hl hk hk2];have:=List.length_filter_le (fun x=>inC p l kind x && !decide (x=l)) allR;unfold candR;omega
theorem ztk (p:List Ln) (ts:List Tst) (at_:Int) (C:List Ln):(fixE p ts at_ C).map Ed.l=C.filter (fixB p ts at_):=by
 unfold fixE;rw [List.map_map];exact List.map_id _
def goodR (p:List Ln) (at_:Int) (x:Ln) (ts:List Tst):Bool:=allPass (setAll p [⟨at_,x⟩]) ts
def fixR (p:List Ln) (ts:List Tst) (at_ kind:Int):List Ln:=(candR p (lineAt p at_) kind).filter fun x=>goodR p at_ x ts
def sgtE (p:List Ln) (ts:List Tst) (kind:Int):Int:=if chkT p ts=0 then (if inB kind 0 2 then (if allPass p ts then 8 else 0) else 1) else chkT p ts
theorem zji {at_:Int} {x:Ln} (h0:0≤at_) (h1:at_<8) (hx:x.ok=true):edsOK [⟨at_,x⟩]=true:=by
 refine zid (k:=1) (fun i hi=>?_) (by simp)
 have:i=0:=by omega
 subst this;refine (zgd (e:=⟨at_,x⟩) rfl).2 ⟨⟨h0,h1⟩,?_,hx⟩
 show (-1:Int)<at_
 omega
theorem znv {p:List Ln} {ts:List Tst} {at_:Int} {x:Ln} (hp:valP p=0) (ht:valT ts=0) (h0:0≤at_) (h1:at_<p.length) (hx:x.ok=true):chkX p [⟨at_,x⟩] ts=0:=by
 have h8:=(zba.1 hp).1;refine zdn.2 ⟨hp,zdm.2 ⟨by simp,zji h0 (by omega) hx⟩,ht,?_⟩
 unfold offB;simp;omega
theorem fixB_eq {p:List Ln} {ts:List Tst} {at_:Int} {x:Ln} (hp:valP p=0) (ht:valT ts=0) (h0:0≤at_) (h1:at_<p.length) (hx:x.ok=true):fixB p ts at_ x=goodR p at_ x ts:=by
 have h8:=(zba.1 hp).1;unfold fixB goodR;rw [decide_eq_true (znv hp ht h0 h1 hx),Bool.true_and,zen (zji h0 (by omega) hx)]
 rfl
theorem goodR_ok {p:List Ln} {at_:Int} {x:Ln} (hp:valP p=0) (h0:0≤at_) (h1:at_<p.length) (hx:x.ok=true):valP (setAll p [⟨at_,x⟩])=0:=by
 have h8:=(zba.1 hp).1;rw [zen (zji h0 (by omega) hx)]
 refine zmh hp fun e he=>?_;simp at he;subst he;exact hx
theorem zjg {p:List Ln} {at_:Int} (hp:valP p=0) (h0:0≤at_) (h1:at_<p.length):(lineAt p at_).ok=true:=by
 unfold lineAt;rw [List.getElem?_eq_getElem (show at_.toNat<p.length by omega)]
 exact (zba.1 hp).2 _ (List.getElem_mem _)
theorem zmq {p:List Ln} {l x:Ln} {kind:Int} (h:x∈candR p l kind):x.ok=true:=zey.1 (List.mem_filter.1 h).1
theorem zzp (p:List Ln) (l:Ln) (kind:Int):(candR p l kind).length≤1000:=by
 have h1:allR.length≤1000:=by decide +kernel
 have:=List.length_filter_le (fun x=>inC p l kind x && !decide (x=l)) allR;unfold candR;omega
def candAt (p:List Ln) (kind:Int) (n:Nat):List Ln:=candL p (lineAt p n) kind
def everyN (p:List Ln) (ts:List Tst) (C:Nat→List Ln) (k:Nat):List Ed:=(List.range k).flatMap fun n:Nat=>fixE p ts n (C n)
theorem zgs (p:List Ln) (ts:List Tst) (C:Nat→List Ln) (k:Nat):everyN p ts C (k+1)=everyN p ts C k++fixE p ts k (C k):=by
 unfold everyN;rw [List.range_succ,List.flatMap_append];simp
theorem zim {p:List Ln} {ts:List Tst} {C:Nat→List Ln} (hC:∀ n,n<p.length→(C n).length≤1000):∀ k,k≤p.length→(everyN p ts C k).length≤k * 1000
 | 0,_=>by simp [everyN]
 | k+1,hk=>by
  rw [zgs,List.length_append];have:=zim hC k (by omega) (p:=p) (ts:=ts)
  have:=hC k (by omega)
  have:=znm p ts k (C k);omega
theorem fixE_R {p:List Ln} {ts:List Tst} {kind:Int} (hp:valP p=0) (ht:valT ts=0) (k0:0≤kind) (k2:kind≤2) {n:Nat} (hn:n<p.length):(fixE p ts n (candAt p kind n)).map Ed.l=fixR p ts n kind:=by
 rw [ztk];unfold candAt fixR;rw [zxn (zjg hp (by omega) (by omega)) k0 k2]
 exact List.filter_congr fun x hx=>fixB_eq hp ht (by omega) (by omega) (zmq hx)
theorem znd {p:List Ln} {ts:List Tst} {kind:Int}:sgtE p ts kind=0↔(valP p=0∧valT ts=0)∧(0≤kind∧kind≤2)∧allPass p ts=false:=by
 unfold sgtE;rw [← zef];by_cases h1:chkT p ts=0
 ·cases h2:inB kind 0 2 with
  | false=>have:=zbq.1 h2;simp [h1];omega
  | true=>have:=zbd.1 h2;cases h3:allPass p ts<;>simp [h1]<;>omega
 ·simp [h1]
open Go.Proofs.Tryz
set_option maxHeartbeats 8000000
set_option maxRecDepth 100000
open Go.Sort (Holds putRow)
theorem zlw (p:List Ln) (ts:List Tst) (kind:Int) (pv tv:Value) (w:World) (hp:LinesAt w pv p) (ht:TestsAt w tv ts) (R:Ending→World→Prop)
  (hR:∀ w',Grow w w'→R (.returned (.int .i64 (sgtE p ts kind))) w') :
  Calls Tryz.prog 204 #[pv,tv,.int .i64 kind] w R:=by
 have HP:=jH hp;have HT:=jH ht;have hc:sgtE p ts kind=if chkT p ts=0 then (if inB kind 0 2 then (if allPass p ts then 8 else 0) else 1) else chkT p ts:=rfl;rw [hc] at hR;have HR:=jH hR;obtain ⟨e,he⟩:∃ e,chkT p ts=e:=⟨_,rfl⟩;obtain ⟨b,hb⟩:∃ b,inB kind 0 2=b:=⟨_,rfl⟩;rw [he,hb] at HR;have HE:=jH he;have HB:=jH hb;obtain ⟨pa,pc,rfl,_⟩:=hp;obtain ⟨⟨ta,tc,rfl,_⟩,_⟩:=ht;clear hR hc he hb;by_cases z1:e=0;rotate_left
 ·rw [if_neg z1] at HR;have t1:(e != 0)=true:=by simpa using z1
  clear z1
  go_enter func204,ntmps204
  go_wp2_with fail;refine zfs p ts _ _ _ HP.out HT.out _ ?_;intro w1 hg1;rw [HE.out];have HG1:=jH hg1;clear hg1;go_wp2_with fail;exact HR.out w1 HG1.out
 subst z1;rw [if_pos rfl] at HR;cases b with
 | false=>
  rw [if_neg (by decide)] at HR
  go_enter func204,ntmps204
  go_wp2_with fail;refine zfs p ts _ _ _ HP.out HT.out _ ?_;intro w1 hg1;rw [HE.out];have HG1:=jH hg1;clear hg1;go_wp2_with fail;refine zby _ _ _ _ _ ?_;rw [HB.out];go_wp2_with fail;exact HR.out w1 HG1.out
 | true=>
  rw [if_pos rfl] at HR
  go_enter func204,ntmps204
  go_wp2_with fail;refine zfs p ts _ _ _ HP.out HT.out _ ?_;intro w1 hg1;rw [HE.out];have HG1:=jH hg1;clear hg1;go_wp2_with fail;refine zby _ _ _ _ _ ?_;rw [HB.out];go_wp2_with fail;refine zqp p ts _ _ _ (HP.out.grow HG1.out) (HT.out.grow HG1.out) HE.out _ ?_;intro w2 hg2;generalize (if allPass p ts then (8:Int) else 0)=q at HR ⊢;have HF:=jH (HR.out w2 (HG1.out.trans hg2));clear hg2;go_wp2_with fail;exact HF.out
theorem cand0_at (p:List Ln) (pv:Value) (n:Nat) (W:World) (hval:valP p=0) (hn:n<p.length) (hp:LinesAt W pv p) (R':Ending→World→Prop) (hR':∀ W' v,Grow W W'→LinesAt W' v (candAt p 0 n)→R' (.returned v) W') :
  Calls Tryz.prog 275 #[pv,.int .i64 n,.iface 285 (.agg #[])] W R':=by
 obtain ⟨⟨op,d,a,b⟩,hx⟩:∃ l,p[n]?=some l:=⟨_,List.getElem?_eq_getElem hn⟩;have hl:lineAt p (n:Int)=⟨op,d,a,b⟩:=by unfold lineAt;rw [show ((n:Int)).toNat=n by omega,hx];rfl
 have hok:vL op d a b=true:=(zba.1 hval).2 _ (List.mem_of_getElem? hx);have h8:=(zba.1 hval).1;unfold candAt at hR';rw [hl] at hR';exact zzd p n op d a b _ _ hp hx hok R' hR'
theorem cand1_at (p:List Ln) (pv:Value) (n:Nat) (W:World) (hval:valP p=0) (hn:n<p.length) (hp:LinesAt W pv p) (R':Ending→World→Prop) (hR':∀ W' v,Grow W W'→LinesAt W' v (candAt p 1 n)→R' (.returned v) W') :
  Calls Tryz.prog 275 #[pv,.int .i64 n,.iface 286 (.agg #[])] W R':=by
 obtain ⟨⟨op,d,a,b⟩,hx⟩:∃ l,p[n]?=some l:=⟨_,List.getElem?_eq_getElem hn⟩;have hl:lineAt p (n:Int)=⟨op,d,a,b⟩:=by unfold lineAt;rw [show ((n:Int)).toNat=n by omega,hx];rfl
 have hok:vL op d a b=true:=(zba.1 hval).2 _ (List.mem_of_getElem? hx);have h8:=(zba.1 hval).1;unfold candAt at hR';rw [hl] at hR';exact zzh p n op d a b _ _ hp hx (by omega) R' hR'
theorem cand2_at (p:List Ln) (pv:Value) (n:Nat) (W:World) (hval:valP p=0) (hn:n<p.length) (hp:LinesAt W pv p) (R':Ending→World→Prop) (hR':∀ W' v,Grow W W'→LinesAt W' v (candAt p 2 n)→R' (.returned v) W') :
  Calls Tryz.prog 275 #[pv,.int .i64 n,.iface 287 (.agg #[])] W R':=by
 obtain ⟨⟨op,d,a,b⟩,hx⟩:∃ l,p[n]?=some l:=⟨_,List.getElem?_eq_getElem hn⟩;have hl:lineAt p (n:Int)=⟨op,d,a,b⟩:=by unfold lineAt;rw [show ((n:Int)).toNat=n by omega,hx];rfl
 have hok:vL op d a b=true:=(zba.1 hval).2 _ (List.mem_of_getElem? hx);have h8:=(zba.1 hval).1;unfold candAt at hR';rw [hl] at hR';exact zyt p n op d a b _ _ hp hx  R' hR'
theorem zub {p:List Ln} {kind:Int} (hval:valP p=0) (k0:0≤kind) (k2:kind≤2):∀ n:Nat,n<p.length→(candAt p kind n).length≤1000:=fun _ hn=>
 zoz (zjg hval (by omega) (by omega)) k0 k2
theorem every_any (p:List Ln) (ts:List Tst) (kv:Value) (C:Nat→List Ln) (pv tv:Value) (w:World) (hp:LinesAt w pv p) (ht:TestsAt w tv ts) (hp8:p.length≤8) (hC:∀ n,n<p.length→(C n).length≤1000)
  (hcand:∀ (n:Nat) (W:World),n<p.length→LinesAt W pv p→∀ R':Ending→World→Prop,(∀ W' v,Grow W W'→LinesAt W' v (C n)→R' (.returned v) W')→Calls Tryz.prog 275 #[pv,.int .i64 n,kv] W R') (R:Ending→World→Prop)
  (hR:∀ w' v,Grow w w'→Own 5 encE w.heap.size w' v (everyN p ts C p.length)→R (.returned v) w') :
  Calls Tryz.prog 240 #[pv,tv,kv] w R:=by
 have HP:=jH hp;have HT:=jH ht;have HR:=jH hR;have HC:=jH hcand;have HL:=jH hC;obtain ⟨pa,pc,rfl,p1,p2,_⟩:=hp;obtain ⟨⟨ta,tc,rfl,_⟩,_⟩:=ht;clear hR hcand hC
 go_enter func240,ntmps240
 go_wp2_with fail
 go_loopw [7,8,11] (fun out _ i wr=>∃ k:Nat,k≤p.length∧i=.int .i64 k∧Grow w wr∧wr.ownsRow w.heap.size 60 5 out (everyN p ts C k).length ((everyN p ts C k).flatMap encE)) (fun _ _ i _=>p.length - (intOf i).toNat)
 case atStart=>exact ⟨0,Nat.zero_le _,rfl,Grow.refl _,World.ownsRow_nil _ _ _ _⟩
 case round=>
  obtain ⟨k,hk,rfl,hg,how⟩:=hrel;have HG:=jH hg;have HOW:=jH how;have hzw:=hg.sz;clear hg how;by_cases hlt:k<p.length
  ·have hlt2:(k:Int)<(p.length:Int):=by omega
   have HS:=jH (zgs p ts C k);have hLk:=HL.out k hlt;have HLB:=jH (show (everyN p ts C k).length+(fixE p ts k (C k)).length<100000000000 by have:=zim HL.out k (by omega) (ts:=ts);have:=znm p ts k (C k);omega)
   have HCK:=jH (HC.out k wr hlt (HP.out.grow HG.out));go_wp2_with fail;refine zxw p ts k kv (C k) _ _ _ (HP.out.grow HG.out) (HT.out.grow HG.out) (by omega) HCK.out _ ?_
   intro w2 v2 hg2 hv2;have HV2:=jH (hv2.slc zbh);have HG2:=jH hg2;have hsl:=hv2.slc zbh;obtain ⟨a2,c2,rfl,_⟩:=hsl;clear hg2 hv2;go_wp2_with (at_builtin;refine zay _ rfl (.tmp 14) (.tmp 19) 58 rfl w.heap.size 60 underlying58 zpp rfl (by decide) (by decide) encE zbh zhj _ (everyN p ts C k) rfl (HG2.out.owns HOW.out) _ (fixE p ts k (C k)) rfl HV2.out HLB.out (by have:=HG.out.sz;have:=HG2.out.sz;omega) ?_;intro out2 w3 hown2 hgr2)
   have HG3:=jH (show Grow w w3 from zae HOW.out hgr2 (Nat.le_refl _) (by have:=HG.out.sz;have:=HG2.out.sz;omega) (HG.out.trans HG2.out))
   have HO2:=jH hown2;clear hown2 hgr2;go_roundw
   case rel=>exact ⟨k+1,by omega,by go_num,HG3.out,by rw [HS.out];exact HO2.out⟩
   case measure=>simp [intOf];omega
  ·have hkn:k=p.length:=by omega
   have HO2:=HOW.out;rw [hkn] at HO2;have HF:=jH (HR.out _ _ HG.out ⟨_,HO2⟩);clear HO2 hkn;go_wp2_with fail;exact HF.out
set_option maxHeartbeats 4000000
structure Lst where
 a:Option Addr
 n:Nat
 c:Nat
 x:List Ed
abbrev Lst.v (t:Lst):Value:=.slice t.a t.n t.c
def encW (t:Lst):List Value:=[t.v]
theorem zsk (t:Lst):(encW t).length=1:=rfl
structure ListsAt (w:World) (v:Value) (L:List Lst):Prop where
 at_:SlcAt 1 encW w v L
 ins:∀ t∈L,EditsAt w t.v t.x
theorem ListsAt.grow {w w':World} {v:Value} {L:List Lst} (h:ListsAt w v L) (g:Grow w w'):ListsAt w' v L:=⟨h.at_.grow g,fun t ht=>(h.ins t ht).grow g⟩
theorem ztg {w:World} {a:Option Addr} {n c:Nat} {L:List Lst} (h:SlcAt 1 encW w (.slice a n c) L) {k:Nat} {t:Lst} (hx:L[k]?=some t):∃ b o,a=some ⟨b,o,none⟩∧b<w.heap.size∧w.cell? ⟨b,o+k,none⟩=some t.v:=by
 obtain ⟨_,_,e,_,_,h⟩:=h;cases e;obtain ⟨b,o,rfl,hb,hc⟩:=h.resolve_left (by intro h0;rw [h0.1] at hx;simp at hx)
 exact ⟨b,o,rfl,hb,by simpa using hc k t hx 0 _ rfl⟩
def FirstMin (S:List Int) (j:Nat) (m:Int):Prop:=S[j]?=some m∧∀ (i:Nat) (s:Int),S[i]?=some s→m≤s∧(i<j→m<s)
theorem FirstMin.uniq {S:List Int} {j j':Nat} {m m':Int} (h:FirstMin S j m) (h':FirstMin S j' m'):j=j'∧m=m':=by
 have a:=h.2 j' m' h'.1;have b:=h'.2 j m h.1;refine ⟨?_,by omega⟩
 by_cases h1:j=j'
 ·exact h1
 ·have:j<j'∨j'<j:=by omega
  rcases this with q | q
  ·have:=b.2 q;omega
  ·have:=a.2 q;omega
theorem FirstMin.step {S:List Int} {k j:Nat} {m s:Int} (h:FirstMin (S.take k) j m) (hs:S[k]?=some s):(s<m→FirstMin (S.take (k+1)) k s)∧(¬ s<m→FirstMin (S.take (k+1)) j m):=by
 have hk:k<S.length:=(List.getElem?_eq_some_iff.1 hs).1;have hj:j<k:=by
  have:=(List.getElem?_eq_some_iff.1 h.1).1;rw [List.length_take] at this;omega
 have key:∀ (i:Nat) (t:Int),(S.take (k+1))[i]?=some t→(i<k∧(S.take k)[i]?=some t)∨(i=k∧t=s):=by
  intro i t ht;rw [List.getElem?_take] at ht
  split at ht
  ·next hi=>
   by_cases e:i=k
   ·subst e;rw [hs] at ht;exact .inr ⟨rfl,(Option.some.inj ht).symm⟩
   ·exact .inl ⟨by omega,by rw [List.getElem?_take,if_pos (by omega)];exact ht⟩
  ·cases ht
 constructor
 ·intro hlt;refine ⟨by rw [List.getElem?_take,if_pos (by omega)];exact hs,fun i t ht=>?_⟩
  rcases key i t ht with ⟨hi,h2⟩ | ⟨rfl,rfl⟩
  ·have:=h.2 i t h2;exact ⟨by omega,fun _=>by omega⟩
  ·exact ⟨by omega,fun e=>by omega⟩
 ·intro hlt;have h1:=h.1;rw [List.getElem?_take,if_pos hj] at h1;refine ⟨by rw [List.getElem?_take,if_pos (by omega)];exact h1,fun i t ht=>?_⟩
  rcases key i t ht with ⟨hi,h2⟩ | ⟨rfl,rfl⟩
  ·exact h.2 i t h2
  ·exact ⟨by omega,fun e=>by omega⟩
theorem FirstMin.one {S:List Int} {m:Int} (h:S[0]?=some m):FirstMin (S.take 1) 0 m:=by
 refine ⟨by rw [List.getElem?_take,if_pos (by omega)];exact h,fun i s hs=>?_⟩
 rw [List.getElem?_take] at hs
 split at hs
 ·next hi=>
  have:i=0:=by omega
  subst this;rw [h] at hs;cases hs;exact ⟨by omega,fun e=>by omega⟩
 ·cases hs
def CmpE (g:Nat) (cb:Array Value) (w:World) (sz:List Ed→Int):Prop:=
 ∀ (t u:Lst) (W:World),Grow w W→EditsAt W t.v t.x→EditsAt W u.v u.x→∀ R:Ending→World→Prop,(∀ W',Grow W W'→R (.returned (.int .i64 (cmpI (sz t.x) (sz u.x)))) W')→Calls Tryz.prog g (#[t.v,u.v]++cb) W R
theorem cmpI_lt {x y:Int}:cmpI x y<0↔x<y:=by unfold cmpI;split<;>(try split)<;>omega
theorem zvs (p:List Ln) (t u:Lst) (pv:Value) (b:Nat) (w:World) (hp:LinesAt w pv p) (ht:EditsAt w t.v t.x) (hu:EditsAt w u.v u.x) (hb:w.heap[b]?=some (.cells #[pv] 22 (0,0))) (R:Ending→World→Prop)
  (hR:∀ w',Grow w w'→R (.returned (.int .i64 (cmpI (sizeE p t.x) (sizeE p u.x)))) w') :
  Calls Tryz.prog 262 #[t.v,u.v,.pointer (some ⟨b,0,none⟩)] w R:=by
 have HP:=jH hp;have HT:=jH ht;have HU:=jH hu;have HR:=jH hR;obtain ⟨s,hs⟩:∃ s,sizeE p t.x=s:=⟨_,rfl⟩;obtain ⟨s',hs'⟩:∃ s,sizeE p u.x=s:=⟨_,rfl⟩;rw [hs,hs'] at HR;have HS:=jH hs;have HS2:=jH hs';obtain ⟨pa,pc,rfl,_⟩:=hp;obtain ⟨ta,tn,tc,tx⟩:=t;obtain ⟨ua,un,uc,ux⟩:=u;obtain ⟨_,_,hv,_⟩:=ht;obtain ⟨_,_,hv2,_⟩:=hu;dsimp only [Lst.v] at hv hv2;cases hv;cases hv2;dsimp only at HT HU HS HS2 ⊢;have e0:=box1 hb;have hz:=lt_of_block hb;clear hR hs hs' hb
 go_enter func262,ntmps262
 go_wp2_with fail;refine wp_region_held_drew (S:=fun X=>X.cell? ⟨b,0,none⟩=some (.slice pa p.length pc)∧Grow w X) (by kernel_rfl) ⟨e0,(Grow.refl w).drew⟩ (fun hH=>?_)
 refine tkA 0 (.slice pa p.length pc) rfl ?_ hH ?_
 ·intro w9 hw9;obtain ⟨d0,dg⟩:=hw9;go_simp
 simp only [nrm];refine tkA 1 (.slice ta tx.length tc) rfl ?_ hH ?_
 ·intro w9 hw9;obtain ⟨d0,dg⟩:=hw9;go_simp
 simp only [nrm];refine tkA 3 (.slice pa p.length pc) rfl ?_ hH ?_
 ·intro w9 hw9;obtain ⟨d0,dg⟩:=hw9;go_simp
 simp only [nrm];refine tkA 4 (.slice ua ux.length uc) rfl ?_ hH ?_
 ·intro w9 hw9;obtain ⟨d0,dg⟩:=hw9;go_simp
 simp only [nrm];refine tk1 2 rfl fun K hK=>?_;go_simp;refine zrw p tx _ _ _ (HP.out.grow hH.2) (HT.out.grow hH.2) _ ?_;intro w8 hg8;rw [HS.out];go_wp2_with fail;refine hK.out _ _ ⟨hg8.cell hH.1,hH.2.trans hg8⟩ ?_;clear hK K hH;intro hH;refine tk1 5 rfl fun K hK=>?_;go_simp;refine zrw p ux _ _ _ (HP.out.grow hH.2) (HU.out.grow hH.2) _ ?_;intro w8 hg8;rw [HS2.out];go_wp2_with fail;refine hK.out _ _ ⟨hg8.cell hH.1,hH.2.trans hg8⟩ ?_;clear hK K hH;intro hH;refine tk1 6 rfl fun K hK=>?_;go_simp;refine zni s s' _ _ ?_;go_wp2_with fail;refine hK.out _ _ hH ?_;clear hK K hH;intro hH;refine tkA 7 (.int .i64 (cmpI s s')) rfl ?_ hH ?_
 ·intro w9 hw9;go_simp
 simp only [nrm];refine wpAnyH_done (by kernel_rfl) ?_ _
 have HF:=jH (HR.out _ hH.2);go_wp2_with fail;exact HF.out
theorem zpl (g:Nat) (cb:Array Value) (eg:Enters Tryz.prog g) (sz:List Ed→Int) (L:List Lst) (v:Value) (w:World) (hL:ListsAt w v L) (h0:0<L.length) (hc:CmpE g cb w sz) (R:Ending→World→Prop)
  (hR:∀ w' (j:Nat) t,Grow w w'→L[j]?=some t→FirstMin (L.map fun t=>sz t.x) j (sz t.x)→R (.returned t.v) w') :
  Calls Tryz.prog 261 #[v,.func (.func g) #[] cb] w R:=by
 have HL:=jH hL;have HR:=jH hR;have HC:=jH hc;obtain ⟨⟨a,c,rfl,h1,h2,_⟩,_⟩:=hL;have hm:L.length≤9223372036854775807:=by omega
 obtain ⟨⟨ta,tn,tc,tx⟩,ht⟩:∃ t,L[0]?=some t:=⟨_,List.getElem?_eq_getElem h0⟩;obtain ⟨b,o,rfl,hb,e0⟩:=ztg HL.out.at_ ht;dsimp only [Lst.v] at e0;simp only [Nat.add_zero] at e0;have HT:=jH ht;have hl1:¬ (L.length:Int)<1:=by omega
 have hl2:(0:Int)<(L.length:Int):=by omega
 unfold Enters at eg;clear hR hc ht
 go_enter func261,ntmps261
 go_wp2_with fail
 go_loopw [5,6] (fun m i wr=>∃ (k j:Nat) (t:Lst),1≤k∧k≤L.length∧i=.int .i64 k∧m=.slice t.a t.n t.c∧L[j]?=some t∧FirstMin ((L.map fun t=>sz t.x).take k) j (sz t.x)∧Grow w wr) (fun _ i _=>L.length - (intOf i).toNat)
 case atStart=>exact ⟨1,0,⟨ta,tn,tc,tx⟩,by omega,by omega,rfl,rfl,HT.out,FirstMin.one (by rw [List.getElem?_map,HT.out];rfl),Grow.refl _⟩
 case round=>
  obtain ⟨k,j,⟨ma,mn,mc,mx⟩,hk1,hk,rfl,rfl,hj,hfm,hg⟩:=hrel;have HJ:=jH hj;have HFM:=jH hfm;have HG:=jH hg;clear hj hfm hg e0;by_cases hlt:k<L.length
  ·obtain ⟨⟨ua,un,uc,ux⟩,hu⟩:∃ t,L[k]?=some t:=⟨_,List.getElem?_eq_getElem hlt⟩;obtain ⟨_,_,e,hb2,e1⟩:=ztg (HL.out.grow HG.out).at_ hu;cases e;dsimp only [Lst.v] at e1;have hk2:(k:Int)<(L.length:Int):=by omega
   have HU:=jH hu;obtain ⟨h3,h4⟩:=HFM.out.step (s:=sz ux) (by rw [List.getElem?_map,hu];rfl)
   have HIU:=jH ((HL.out.grow HG.out).ins _ (List.mem_of_getElem? hu));have HIM:=jH ((HL.out.grow HG.out).ins _ (List.mem_of_getElem? HJ.out));have H3:=jH h3;have H4:=jH h4;have hci:=cmpI_lt (x:=sz ux) (y:=sz mx);have HCC:=jH (HC.out ⟨ua,un,uc,ux⟩ ⟨ma,mn,mc,mx⟩ wr HG.out HIU.out HIM.out);dsimp only at HCC;generalize cmpI (sz ux) (sz mx)=q at hci HCC;clear hu h3 h4;by_cases hq:q<0
   ·have h5:=H3.out (hci.1 hq);have H5:=jH h5;clear h5 hci;go_wp2_with fail;refine HCC.out _ ?_;intro w1 hg1;have e2:=hg1.cell e1;have hb3:b<w1.heap.size:=Nat.lt_of_lt_of_le hb2 hg1.sz;have HG2:=jH (HG.out.trans hg1);clear hg1 e1;go_wp2_with fail;go_roundw
    case rel=>exact ⟨k+1,k,⟨ua,un,uc,ux⟩,by omega,by omega,by go_num,rfl,HU.out,H5.out,HG2.out⟩
    case measure=>simp [intOf];omega
   ·have h5:=H4.out (fun h=>hq (hci.2 h));have H5:=jH h5;clear h5 hci;go_wp2_with fail;refine HCC.out _ ?_;intro w1 hg1;have HG2:=jH (HG.out.trans hg1);clear hg1 e1;go_wp2_with fail;go_roundw
    case rel=>exact ⟨k+1,j,⟨ma,mn,mc,mx⟩,by omega,by omega,by go_num,rfl,HJ.out,H5.out,HG2.out⟩
    case measure=>simp [intOf];omega
  ·have hkn:k=L.length:=by omega
   have hfm:=HFM.out;rw [List.take_of_length_le (by rw [List.length_map];omega)] at hfm
   have HF:=jH (HR.out wr j ⟨ma,mn,mc,mx⟩ HG.out HJ.out hfm);clear hfm hkn;go_wp2_with fail;exact HF.out
theorem ziu (p:List Ln) (L:List Lst) (pv v:Value) (w:World) (hp:LinesAt w pv p) (hL:ListsAt w v L) (R:Ending→World→Prop)
  (hR0:L=[]→∀ w',Grow w w'→R (.returned (.tuple #[.slice none 0 0,.bool false])) w')
  (hR1:∀ w' (j:Nat) t,Grow w w'→L[j]?=some t→FirstMin (L.map fun t=>sizeE p t.x) j (sizeE p t.x)→R (.returned (.tuple #[t.v,.bool true])) w') :
  Calls Tryz.prog 241 #[pv,v] w R:=by
 have HP:=jH hp;have HL:=jH hL;have HR0:=jH hR0;have HR1:=jH hR1;obtain ⟨pa,pc,rfl,_⟩:=hp;obtain ⟨⟨a,c,rfl,h1,h2,_⟩,_⟩:=hL;have eg:Enters Tryz.prog 262:=enters_of func262 (by kernel_rfl) rfl
 have EG:=jH eg;clear hR0 hR1 eg;by_cases h0:L.length=0
 ·have hn:L=[]:=List.length_eq_zero_iff.1 h0;subst hn;have HF:=jH (HR0.out rfl)
  go_enter func241,ntmps241
  go_wp2_with fail;exact HF.out _ ((Grow.refl w).alloc _)
 ·have t1:((L.length:Int) == 0)=false:=by simpa using (by omega:¬ (L.length:Int)=0)
  go_enter func241,ntmps241
  go_wp2_with fail;have hb:=heap_alloc_new w (.cells #[.slice pa p.length pc] 22);have hg:=(Grow.refl w).alloc (.cells #[.slice pa p.length pc] 22);generalize w.alloc (.cells #[.slice pa p.length pc] 22)=W at hb hg ⊢;have HB:=jH hb;have HG:=jH hg;have hcmp:CmpE 262 #[.pointer (some ⟨w.heap.size,0,none⟩)] W (sizeE p):=fun t u X hgX ht hu R hR=>
   zvs p t u _ _ X (HP.out.grow (HG.out.trans hgX)) ht hu (hgX.blk HB.out) R hR
  clear hb hg;refine zpl 262 _ EG.out (sizeE p) L _ _ (HL.out.grow HG.out) (by omega) hcmp _ ?_
  intro w1 j t hg1 ht hfm;have HF:=jH (HR1.out w1 j t (HG.out.trans hg1) ht hfm);clear hcmp hg1 ht hfm;go_wp2_with fail;exact HF.out
set_option maxRecDepth 100000
set_option maxHeartbeats 8000000
theorem zrv:(Tryz.prog.info? 58).map (fun i=>(i.zero,i.size,i.bytes))=some (some (.slice none 0 0),1,24):=by kernel_rfl
theorem encW_one (t:Lst):∀ u∈encW t,u.oneCell'=true:=by
 intro u hu;unfold encW at hu;simp only [List.mem_cons,List.not_mem_nil,or_false] at hu;subst hu
 rfl
def EdBox (w:World) (t:Lst):Prop:=∃ b e,t=⟨some ⟨b,0,none⟩,1,1,[e]⟩∧w.heap[b]?=some (.cells (encE e).toArray 60 (0,0))
theorem EdBox.grow {w w':World} {t:Lst} (h:EdBox w t) (g:Grow w w'):EdBox w' t:=by
 obtain ⟨b,e,ht,hb⟩:=h;exact ⟨b,e,ht,g.blk hb⟩
theorem EdBox.kept {w w':World} {t:Lst} {v:Value} {base n:Nat} {ys:List Value} (h:EdBox w t) (ho:w.ownsRow base 58 1 v n ys) (hg:w.grownBy w' v.ownBlock):EdBox w' t:=by
 obtain ⟨b,e,ht,hb⟩:=h;refine ⟨b,e,ht,?_⟩;have hne:some b≠v.ownBlock:=by
  intro he;rcases ho.2 with ⟨hv,_⟩ | ⟨g,cap,cur,hv,_,hh,_⟩
  ·subst hv;simp [Value.ownBlock] at he
  ·subst hv;have hbg:b=g:=by simpa [Value.ownBlock] using he
   subst hbg;rw [hb] at hh;simp at hh
 rw [hg.block b (lt_of_block hb) hne];exact hb
theorem EdBox.edits {w:World} {t:Lst} (h:EdBox w t):EditsAt w t.v t.x:=by
 obtain ⟨b,e,rfl,hb⟩:=h;refine ⟨_,1,rfl,Nat.le_refl _,by omega,.inr ⟨b,0,rfl,lt_of_block hb,?_⟩⟩
 intro j x hj i u hu;cases j with
 | succ j=>simp at hj
 | zero=>
  simp at hj;subst hj;rw [show 0+0 * 5+i=i by omega,World.cell?]
  simp only [hb];simpa using hu
def size1 (p:List Ln) (e:Ed):Int:=sizeE p [e]
theorem zic (p:List Ln) (ts:List Tst) (kv:Value) (C:Nat→List Ln) (pv tv:Value) (w:World) (hp:LinesAt w pv p) (ht:TestsAt w tv ts) (hp8:p.length≤8) (hC:∀ n,n<p.length→(C n).length≤1000)
  (hcand:∀ (n:Nat) (W:World),n<p.length→LinesAt W pv p→∀ R':Ending→World→Prop,(∀ W' v,Grow W W'→LinesAt W' v (C n)→R' (.returned v) W')→Calls Tryz.prog 275 #[pv,.int .i64 n,kv] W R') (R:Ending→World→Prop)
  (hR0:everyN p ts C p.length=[]→∀ w',Grow w w'→R (.returned (.tuple #[.slice none 0 0,.bool false])) w')
  (hR1:∀ w' v (j:Nat) e,Grow w w'→(everyN p ts C p.length)[j]?=some e→FirstMin ((everyN p ts C p.length).map (size1 p)) j (size1 p e)→EditsAt w' v [e]→NewS w.heap.size v→R (.returned (.tuple #[v,.bool true])) w') :
  Calls Tryz.prog 206 #[pv,tv,kv] w R:=by
 have HP:=jH hp;have HT:=jH ht;have hlen:=zim (ts:=ts) hC p.length (Nat.le_refl _);have HC:=jH hcand;have HL:=jH hC;obtain ⟨E,hE⟩:∃ E,everyN p ts C p.length=E:=⟨_,rfl⟩;rw [hE] at hR0 hR1 hlen;have HE:=jH hE;have HR0:=jH hR0;have HR1:=jH hR1;obtain ⟨pa,pc,rfl,p1,p2,_⟩:=hp;obtain ⟨⟨ta,tc,rfl,_⟩,_⟩:=ht;clear hR0 hR1 hcand hC hE
 go_enter func206,ntmps206
 go_wp2_with fail;refine every_any p ts kv C _ _ _ HP.out HT.out hp8 HL.out HC.out _ ?_;intro w3 v3 hg3 hv3;have hs3:=hv3.slc zbh;rw [HE.out] at hs3;have HS3:=jH hs3;obtain ⟨a3,c3,rfl,s1,s2,_⟩:=hs3;have HG3:=jH hg3;clear hg3 hv3;go_wp2_with fail
 go_loopw [8,10,16] (fun out _ i wr=>∃ (k:Nat) (L:List Lst),k≤E.length∧i=.int .i64 k∧Grow w3 wr∧L.map Lst.x=(E.take k).map (fun e=>[e])∧(∀ t∈L,EdBox wr t∧NewS w.heap.size t.v)∧wr.ownsRow w3.heap.size 58 1 out L.length (L.flatMap encW)) (fun _ _ i _=>E.length - (intOf i).toNat)
 case atStart=>exact ⟨0,[],Nat.zero_le _,rfl,Grow.refl _,rfl,by simp,World.ownsRow_nil _ _ _ _⟩
 case round=>
  obtain ⟨k,L,hk,rfl,hg,hm,hin,how⟩:=hrel;have HG:=jH hg;have HOW:=jH how;have HM:=jH hm;have HIN:=jH hin;have hzw:=hg.sz;have hLk:L.length=(E.take k).length:=by have:=congrArg List.length hm;simpa using this
  rw [List.length_take] at hLk;clear hg how hm hin;by_cases hlt:k<E.length
  ·obtain ⟨⟨t,o1,d1,a1',b1⟩,hx⟩:∃ x,E[k]?=some x:=⟨_,List.getElem?_eq_getElem hlt⟩;obtain ⟨gb,o,rfl,hgb,y0,y1,y2,y3,y4⟩:=zci (HS3.out.grow HG.out) hx;have HTK:=jH (show (E.take (k+1)).map (fun e=>[e])=(E.take k).map (fun e=>[e])++[[⟨t,⟨o1,d1,a1',b1⟩⟩]] by rw [List.take_add_one,hx,List.map_append];rfl)
   have HLB:=jH (show L.length<100000000000 by omega)
   have hgb1:=(Grow.refl wr).alloc (.cells #[.int .i64 t,.int .i64 o1,.int .i64 d1,.int .i64 a1',.int .i64 b1] 60);clear hx hLk;go_wp2_with (at_builtin;refine zad _ rfl (.tmp 20) (.tmp 23) 44 rfl w3.heap.size 58 underlying44 zrv rfl (by decide) (by decide) encW zsk encW_one _ L rfl (((hgb1.alloc _).alloc _).owns HOW.out) _ (⟨some ⟨wr.heap.size+1,0,none⟩,1,1,[⟨t,⟨o1,d1,a1',b1⟩⟩]⟩:Lst) 1 rfl (newsG _ _ (by simp) (encW ⟨some ⟨wr.heap.size+1,0,none⟩,1,1,[⟨t,⟨o1,d1,a1',b1⟩⟩]⟩) _) HLB.out (by simp;omega) ?_;intro out2 w4 hown2 hgr2)
   have hgr4:=zae HOW.out hgr2 (Nat.le_refl _) (by simp;omega) (HG.out.trans ((hgb1.alloc _).alloc _))
   have hown3:=((hgb1.alloc (.cells #[.int .i64 t,.int .i64 o1,.int .i64 d1,.int .i64 a1',.int .i64 b1] 60)).alloc (.cells #[.slice (some ⟨wr.heap.size+1,0,none⟩) 1 1] 58)).owns HOW.out;have hnew:EdBox w4 ⟨some ⟨wr.heap.size+1,0,none⟩,1,1,[⟨t,⟨o1,d1,a1',b1⟩⟩]⟩:=by
    refine EdBox.kept ⟨_,⟨t,⟨o1,d1,a1',b1⟩⟩,rfl,?_⟩ hown3 hgr2;exact ((Grow.refl _).alloc _).blk (zco wr _ _)
   have hold:∀ t∈L,EdBox w4 t∧NewS w.heap.size t.v:=fun t ht=>⟨EdBox.kept ((HIN.out t ht).1.grow ((hgb1.alloc _).alloc _)) hown3 hgr2,(HIN.out t ht).2⟩;have HG4:=jH (show Grow w3 w4 from hgr4);have HO2:=jH hown2;have HNEW:=jH hnew;have HOLD:=jH hold;clear hown2 hgr2 hgr4 hnew hold hown3;go_roundw
   case rel=>exact ⟨k+1,L++[⟨some ⟨wr.heap.size+1,0,none⟩,1,1,[⟨t,⟨o1,d1,a1',b1⟩⟩]⟩],by omega,by go_num,HG4.out,by rw [HTK.out,List.map_append,HM.out];rfl,by
    intro u hu;rcases List.mem_append.1 hu with hu | hu
    ·exact HOLD.out u hu
    ·simp at hu;subst hu;exact ⟨HNEW.out,fun a n c e=>by cases e;have h1:=HG3.out.sz;dsimp only;omega⟩,HO2.out⟩
   case measure=>simp [intOf];omega
  ·have hkn:k=E.length:=by omega
   have hm:=HM.out;rw [hkn,List.take_length] at hm;have HM2:=jH hm;have hs:=zaa zsk HOW.out;have HLS:=jH (ListsAt.mk hs fun t ht=>(HIN.out t ht).1.edits);obtain ⟨oa,oc,rfl,_⟩:=hs;clear hm hkn hLk;go_wp2_with fail;refine ziu p L _ _ _ (HP.out.grow (HG3.out.trans HG.out)) HLS.out _ ?_ ?_
   ·intro h0 w5 hg5;have hE0:E=[]:=by
     have:=HM2.out;rw [h0] at this;have:=congrArg List.length this;simp at this;exact List.length_eq_zero_iff.1 this.symm
    have HF:=jH (HR0.out hE0 w5 (HG3.out.trans (HG.out.trans hg5)));clear hg5 h0 hE0;go_wp2_with fail;exact HF.out
   ·intro w5 j u hg5 hu hfm;have hEu:∃ e,E[j]?=some e∧u.x=[e]:=by
     have h1:(L.map Lst.x)[j]?=some u.x:=by rw [List.getElem?_map,hu];rfl
     rw [HM2.out,List.getElem?_map] at h1;cases hj:E[j]? with
     | none=>rw [hj] at h1;cases h1
     | some e=>rw [hj] at h1;exact ⟨e,rfl,(Option.some.inj h1).symm⟩
    obtain ⟨e,he,hue⟩:=hEu;have hmap:(L.map fun t=>sizeE p t.x)=E.map (size1 p):=by
     have:=congrArg (List.map (sizeE p)) HM2.out;rw [List.map_map,List.map_map] at this;exact this
    rw [hmap,hue] at hfm;have hI:=(HIN.out u (List.mem_of_getElem? hu)).1.edits;have hNu:=(HIN.out u (List.mem_of_getElem? hu)).2;rw [hue] at hI;have HF:=jH (HR1.out w5 u.v j e (HG3.out.trans (HG.out.trans hg5)) he hfm (hI.grow hg5) hNu);obtain ⟨ua,un,uc,ux⟩:=u;dsimp only [Lst.v] at HF ⊢;clear hg5 hu hfm he hue hmap hI hNu;go_wp2_with fail;exact HF.out
def SnglP (p:List Ln) (ts:List Tst) (kind:Int) (e:Ed) (ok:Bool):Prop:=
 (ok=false∧e=⟨0,⟨0,0,0,0⟩⟩∧(sgtE p ts kind≠0∨everyN p ts (candAt p kind) p.length=[])) ∨
 (ok=true∧sgtE p ts kind=0∧∃ j,(everyN p ts (candAt p kind) p.length)[j]?=some e∧FirstMin ((everyN p ts (candAt p kind) p.length).map (size1 p)) j (size1 p e))
theorem SnglP.uniq {p:List Ln} {ts:List Tst} {kind:Int} {e e':Ed} {ok ok':Bool} (h:SnglP p ts kind e ok) (h':SnglP p ts kind e' ok'):e=e'∧ok=ok':=by
 rcases h with ⟨rfl,rfl,h1⟩ | ⟨rfl,h1,j,h2,h3⟩<;>rcases h' with ⟨rfl,rfl,g1⟩ | ⟨rfl,g1,j',g2,g3⟩
 ·exact ⟨rfl,rfl⟩
 ·rcases h1 with h1 | h1
  ·exact absurd g1 h1
  ·rw [h1] at g2;simp at g2
 ·rcases g1 with g1 | g1
  ·exact absurd h1 g1
  ·rw [g1] at h2;simp at h2
 ·obtain ⟨rfl,_⟩:=h3.uniq g3;rw [h2] at g2;exact ⟨Option.some.inj g2,rfl⟩
theorem zty {B:Nat} {a w:World} {g:Nat} (h:Below B a w) (hg:B≤g) (o0 o1 o2 o3 o4:Nat) (v0 v1 v2 v3 v4:Value):Below B a (((((w.setCell ⟨g,o0,none⟩ v0).setCell ⟨g,o1,none⟩ v1).setCell ⟨g,o2,none⟩ v2).setCell ⟨g,o3,none⟩ v3).setCell ⟨g,o4,none⟩ v4):=
 Below.setCell (Below.setCell (Below.setCell (Below.setCell (Below.setCell h hg _) hg _) hg _) hg _) hg _
set_option maxRecDepth 100000
set_option maxHeartbeats 8000000
def Gw (w X:World):Prop:=∃ (q:Nat) (os:Array Obj),X=Go.Sort.grow (w.drewN q) os
theorem ztu (w:World) (os:Array Obj):∀ q,(Go.Sort.grow w os).drewN q=Go.Sort.grow (w.drewN q) os:=fun _=>rfl
theorem Gw.refl (w:World):Gw w w:=⟨0,#[],by simp [Go.Sort.grow];rfl⟩
theorem zwl (w:World) (a b:Nat):(w.drewN a).drewN b=w.drewN (a+b):=by
 show ({ w with drawn:=w.drawn+a+b }:World)={ w with drawn:=w.drawn+(a+b) }
 rw [Nat.add_assoc]
theorem Gw.trans {w X Y:World} (h:Gw w X) (k:Gw X Y):Gw w Y:=by
 obtain ⟨a,os,rfl⟩:=h;obtain ⟨b,os',rfl⟩:=k;exact ⟨a+b,os++os',by rw [ztu,Go.Sort.grow_grow,zwl]⟩
theorem Gw.drew (w:World):Gw w w.drew:=⟨1,#[],by simp [Go.Sort.grow];rfl⟩
theorem Gw.alloc (w:World) (o:Obj):Gw w (w.alloc o):=by
 refine ⟨0,#[o],?_⟩;rw [Go.Sort.alloc_eq_grow];rfl
theorem Gw.g {w X:World} (h:Gw w X):Grow w X:=by
 obtain ⟨q,os,rfl⟩:=h;exact zgq os ((Grow.refl w).drewN q) (by show w.heap.size≤w.heap.size;omega)
theorem keep10 {X Y:World} {a0 a1 a2 a3 a4 a5 a6 a7 a8 a9:Addr} {v0 v1 v2 v3 v4 v5 v6 v7 v8 v9:Value} (g:Grow X Y) (h:X.cell? a0=some v0∧X.cell? a1=some v1∧X.cell? a2=some v2∧X.cell? a3=some v3∧X.cell? a4=some v4∧X.cell? a5=some v5∧X.cell? a6=some v6∧X.cell? a7=some v7∧X.cell? a8=some v8∧X.cell? a9=some v9):Y.cell? a0=some v0∧Y.cell? a1=some v1∧Y.cell? a2=some v2∧Y.cell? a3=some v3∧Y.cell? a4=some v4∧Y.cell? a5=some v5∧Y.cell? a6=some v6∧Y.cell? a7=some v7∧Y.cell? a8=some v8∧Y.cell? a9=some v9:=
 ⟨g.cell h.1,g.cell h.2.1,g.cell h.2.2.1,g.cell h.2.2.2.1,g.cell h.2.2.2.2.1,g.cell h.2.2.2.2.2.1,g.cell h.2.2.2.2.2.2.1,g.cell h.2.2.2.2.2.2.2.1,g.cell h.2.2.2.2.2.2.2.2.1,g.cell h.2.2.2.2.2.2.2.2.2⟩
theorem zix (t op d a b t' op' d' a' b':Int) (w:World) (R:Ending→World→Prop) (hR:∀ w':World,Gw w w'→R (.returned (.int .i64 (cmpE ⟨t,⟨op,d,a,b⟩⟩ ⟨t',⟨op',d',a',b'⟩⟩))) w') :
  Calls Tryz.prog 267 #[.agg #[.int .i64 t,.int .i64 op,.int .i64 d,.int .i64 a,.int .i64 b],.agg #[.int .i64 t',.int .i64 op',.int .i64 d',.int .i64 a',.int .i64 b']] w R:=by
 have HR:=jH hR;have hc:cmpE ⟨t,⟨op,d,a,b⟩⟩ ⟨t',⟨op',d',a',b'⟩⟩=orI [cmpI t t',cmpL ⟨op,d,a,b⟩ ⟨op',d',a',b'⟩]:=rfl;rw [hc] at HR;obtain ⟨c0,h0⟩:∃ c,cmpI t t'=c:=⟨_,rfl⟩;obtain ⟨c1,h1⟩:∃ c,cmpL ⟨op,d,a,b⟩ ⟨op',d',a',b'⟩=c:=⟨_,rfl⟩;rw [h0,h1] at HR;have H0:=jH h0;have H1:=jH h1;clear hR hc h0 h1
 go_enter func267,ntmps267
 go_wp2_with fail;have hb0:=zbx w (.cells #[.int .i64 t,.int .i64 op,.int .i64 d,.int .i64 a,.int .i64 b] 60) (.cells #[.int .i64 t',.int .i64 op',.int .i64 d',.int .i64 a',.int .i64 b'] 60);have hb1:=zco w (.cells #[.int .i64 t,.int .i64 op,.int .i64 d,.int .i64 a,.int .i64 b] 60) (.cells #[.int .i64 t',.int .i64 op',.int .i64 d',.int .i64 a',.int .i64 b'] 60);have hg:Gw w ((w.alloc (.cells #[.int .i64 t,.int .i64 op,.int .i64 d,.int .i64 a,.int .i64 b] 60)).alloc (.cells #[.int .i64 t',.int .i64 op',.int .i64 d',.int .i64 a',.int .i64 b'] 60)):=(Gw.alloc _ _).trans (Gw.alloc _ _);have hsz:((w.alloc (.cells #[.int .i64 t,.int .i64 op,.int .i64 d,.int .i64 a,.int .i64 b] 60)).alloc (.cells #[.int .i64 t',.int .i64 op',.int .i64 d',.int .i64 a',.int .i64 b'] 60)).heap.size=w.heap.size+2:=by simp
 generalize (w.alloc (.cells #[.int .i64 t,.int .i64 op,.int .i64 d,.int .i64 a,.int .i64 b] 60)).alloc (.cells #[.int .i64 t',.int .i64 op',.int .i64 d',.int .i64 a',.int .i64 b'] 60)=W at hb0 hb1 hg hsz ⊢;obtain ⟨e0,e1,e2,e3,e4⟩:=box5 hb0;obtain ⟨f0,f1,f2,f3,f4⟩:=box5 hb1;have hz:w.heap.size+1<W.heap.size:=by omega
 have HG:=jH hg;clear hb0 hb1 hg;refine wp_region_held_drew (S:=fun X=>(X.cell? ⟨w.heap.size,0,none⟩=some (.int .i64 t)∧X.cell? ⟨w.heap.size,1,none⟩=some (.int .i64 op)∧X.cell? ⟨w.heap.size,2,none⟩=some (.int .i64 d)∧X.cell? ⟨w.heap.size,3,none⟩=some (.int .i64 a)∧X.cell? ⟨w.heap.size,4,none⟩=some (.int .i64 b)∧X.cell? ⟨w.heap.size+1,0,none⟩=some (.int .i64 t')∧X.cell? ⟨w.heap.size+1,1,none⟩=some (.int .i64 op')∧X.cell? ⟨w.heap.size+1,2,none⟩=some (.int .i64 d')∧X.cell? ⟨w.heap.size+1,3,none⟩=some (.int .i64 a')∧X.cell? ⟨w.heap.size+1,4,none⟩=some (.int .i64 b'))∧Gw W X) (by kernel_rfl) ⟨⟨e0,e1,e2,e3,e4,f0,f1,f2,f3,f4⟩,Gw.drew W⟩ (fun hH=>?_)
 refine tkA 0 (.pointer (some ⟨w.heap.size,0,none⟩)) rfl ?_ hH ?_
 ·intro w9 hw9;obtain ⟨⟨d0,d1,d2,d3,d4,d5,d6,d7,d8,d9⟩,dg⟩:=hw9;go_simp
 simp only [nrm];refine tkA 1 (.int .i64 t) rfl ?_ hH ?_
 ·intro w9 hw9;obtain ⟨⟨d0,d1,d2,d3,d4,d5,d6,d7,d8,d9⟩,dg⟩:=hw9;go_simp
 simp only [nrm];refine tkA 2 (.pointer (some ⟨w.heap.size+1,0,none⟩)) rfl ?_ hH ?_
 ·intro w9 hw9;obtain ⟨⟨d0,d1,d2,d3,d4,d5,d6,d7,d8,d9⟩,dg⟩:=hw9;go_simp
 simp only [nrm];refine tkA 3 (.int .i64 t') rfl ?_ hH ?_
 ·intro w9 hw9;obtain ⟨⟨d0,d1,d2,d3,d4,d5,d6,d7,d8,d9⟩,dg⟩:=hw9;go_simp
 simp only [nrm];refine tkA 5 (.pointer (some ⟨w.heap.size,1,none⟩)) rfl ?_ hH ?_
 ·intro w9 hw9;obtain ⟨⟨d0,d1,d2,d3,d4,d5,d6,d7,d8,d9⟩,dg⟩:=hw9;go_simp
 simp only [nrm];refine tkA 6 (.agg #[.int .i64 op,.int .i64 d,.int .i64 a,.int .i64 b]) rfl ?_ hH ?_
 ·intro w9 hw9;obtain ⟨⟨d0,d1,d2,d3,d4,d5,d6,d7,d8,d9⟩,dg⟩:=hw9;go_simp
 simp only [nrm];refine tkA 7 (.pointer (some ⟨w.heap.size+1,1,none⟩)) rfl ?_ hH ?_
 ·intro w9 hw9;obtain ⟨⟨d0,d1,d2,d3,d4,d5,d6,d7,d8,d9⟩,dg⟩:=hw9;go_simp
 simp only [nrm];refine tkA 8 (.agg #[.int .i64 op',.int .i64 d',.int .i64 a',.int .i64 b']) rfl ?_ hH ?_
 ·intro w9 hw9;obtain ⟨⟨d0,d1,d2,d3,d4,d5,d6,d7,d8,d9⟩,dg⟩:=hw9;go_simp
 simp only [nrm];refine tk1 4 rfl fun K hK=>?_;go_simp;refine zni _ _ _ _ ?_;rw [H0.out];go_wp2_with fail;refine hK.out _ _ hH ?_;clear hK K hH;intro hH;refine tk1 9 rfl fun K hK=>?_;go_simp;refine zjr _ _ _ _ _ _ _ _ _ _ ?_;intro w8 hg8;rw [H1.out];have hg9:Gw _ w8:=hg8;go_wp2_with fail;refine hK.out _ _ ⟨(keep10 (Gw.g hg9) hH.1),hH.2.trans hg9⟩ ?_;clear hK K hH;intro hH;refine tk1 10 rfl fun K hK=>?_;go_simp;refine hK.out _ _ ⟨(keep10 (Gw.g (Gw.alloc _ _)) hH.1),hH.2.trans (Gw.alloc _ _)⟩ ?_;clear hK K hH;intro hH;refine tk1 11 rfl fun K hK=>?_;go_simp;refine zxq [c0,c1] _ _ ?_ _ ?_
 ·exact zaa zal (xs:=[c0,c1]) (World.ownsRow_lit w8 #[.int .i64 c0,.int .i64 c1] 2 (Nat.le_refl _) (by simp [maxLen]) rfl)
 go_wp2_with fail;refine hK.out _ _ hH ?_;clear hK K hH;intro hH;refine tkA 12 (.int .i64 (orI [c0,c1])) rfl ?_ hH ?_
 ·intro w9 hw9;obtain ⟨⟨d0,d1,d2,d3,d4,d5,d6,d7,d8,d9⟩,dg⟩:=hw9;go_simp
 simp only [nrm];refine wpAnyH_done (by kernel_rfl) ?_ _
 have HF:=jH (HR.out _ (HG.out.trans hH.2));go_wp2_with fail;exact HF.out
def mutM (p:List Ln) (k:Nat):List Ed:=(List.range k).flatMap fun n:Nat=>(tmpl (lineAt p n)).map (Ed.mk n)
theorem zhd (p:List Ln) (k:Nat):mutM p (k+1)=mutM p k++(tmpl (lineAt p k)).map (Ed.mk k):=by
 unfold mutM;rw [List.range_succ,List.flatMap_append];simp
theorem tmpl_asc (l:Ln):(tmpl l).Pairwise ltP:=by
 unfold tmpl
 split
 ·exact List.Pairwise.nil
 ·exact (zgr _).1
theorem zrx {p:List Ln} {k:Nat} {e:Ed}:e∈mutM p k↔∃ n x,n<k∧e=⟨((n:Nat):Int),x⟩∧x∈tmpl (lineAt p n):=by
 unfold mutM;rw [List.mem_flatMap];constructor
 ·rintro ⟨n,hn,he⟩;obtain ⟨x,hx,rfl⟩:=List.mem_map.1 he;exact ⟨n,x,List.mem_range.1 hn,rfl,hx⟩
 ·rintro ⟨n,x,hn,rfl,hx⟩;exact ⟨n,List.mem_range.2 hn,List.mem_map.2 ⟨x,hx,rfl⟩⟩
theorem zrz (p:List Ln):∀ k,(mutM p k).Pairwise ltE
 | 0=>List.Pairwise.nil
 | k+1=>by
  rw [zhd,List.pairwise_append];refine ⟨zrz p k,?_,?_⟩
  ·rw [List.pairwise_map];exact (tmpl_asc _).imp fun {a b} h=>.inr ⟨rfl,h⟩
  ·intro a ha b hb;obtain ⟨n,x,hn,rfl,_⟩:=zrx.1 ha;obtain ⟨y,_,rfl⟩:=List.mem_map.1 hb;exact .inl (by dsimp only;omega)
theorem zsw {l:Ln} (hl:l.ok=true):(tmpl l).length≤1000:=zoz (p:=[]) (kind:=0) hl (by decide) (by decide)
theorem znf {p:List Ln} (hp:valP p=0):∀ k,k≤p.length→(mutM p k).length≤k * 1000
 | 0,_=>by simp [mutM]
 | k+1,hk=>by
  rw [zhd,List.length_append,List.length_map];have:=znf hp k (by omega)
  have:=zsw (zjg (at_:=(k:Int)) hp (by omega) (by omega))
  omega
theorem zqx {l x:Ln} (h:x∈tmpl l):x.ok=true:=by
 unfold tmpl at h
 split at h
 ·cases h
 ·unfold validL at h;rw [zjd] at h;have:=(List.mem_filter.1 h).2;simp at this;exact this.2
theorem rawT_len (l:Ln):(rawT l).length≤20:=by
 have h1:(fldL l.op).length≤3:=by unfold fldL;split<;>(try split)<;>(try split)<;>(try split)<;>simp
 have h2:((fldL l.op).flatMap (fun k=>[setF l k 0,setF l k 1,setF l k 2,setF l k 3])).length≤12:=by
  rw [List.length_flatMap];have:∀ xs:List Nat,((xs.map fun k=>[setF l k 0,setF l k 1,setF l k 2,setF l k 3].length).sum)=xs.length * 4:=by
   intro xs;induction xs with
   | nil=>rfl
   | cons x r ih=>rw [List.map_cons,List.sum_cons,ih,List.length_cons];simp;omega
  rw [this];omega
 unfold rawT;rw [List.length_append,List.length_append,List.length_append];have h3:(if 3≤l.op then [(⟨l.op,l.d,l.b,l.a⟩:Ln)] else []).length≤1:=by split<;>simp
 have h4:(if 3≤l.op∧l.op≤6 then [(⟨3,l.d,l.a,l.b⟩:Ln),⟨4,l.d,l.a,l.b⟩,⟨5,l.d,l.a,l.b⟩,⟨6,l.d,l.a,l.b⟩] else []).length≤4:=by split<;>simp
 simp only [List.length_cons,List.length_nil];omega
theorem zuz (l:Ln):(tmpl l).length≤20:=by
 unfold tmpl
 split
 ·simp
 ·unfold validL;exact Nat.le_trans (zrm _) (Nat.le_trans (List.length_filter_le _ _) (rawT_len l))
theorem zlx (p:List Ln):∀ k,(mutM p k).length≤k * 20
 | 0=>by simp [mutM]
 | k+1=>by
  rw [zhd,List.length_append,List.length_map];have:=zlx p k;have:=zuz (lineAt p (k:Int));omega
set_option maxHeartbeats 4000000
theorem zvw (xs:List Int) (x:Int) (v:Value) (w:World) (hv:IntsAt w v xs) (R:Ending→World→Prop)
  (hR1:∀ (k:Nat),xs.contains x=true→R (.returned (.int .i64 (k:Int))) w) (hR2:xs.contains x=false→R (.returned (.int .i64 (-1))) w) :
  Calls Tryz.prog 144 #[v,.int .i64 x] w R:=by
 have HV:=jH hv;obtain ⟨va,vc,rfl,v1,v2,_⟩:=hv;have HR1:=jH hR1;have HR2:=jH hR2;have hm:xs.length≤9223372036854775807:=by omega
 clear hR1 hR2
 go_enter func144,ntmps144
 go_wp2_with fail
 go_loopw [5,8] (fun _ i wr=>∃ k:Nat,k≤xs.length∧i=.int .i64 k∧wr=w∧∀ y∈xs.take k,(x == y)=false) (fun _ i _=>xs.length - (intOf i).toNat)
 case atStart=>exact ⟨0,Nat.zero_le _,rfl,rfl,by simp⟩
 case round=>
  obtain ⟨k,hk,rfl,rfl,hno⟩:=hrel;have HNO:=jH hno;clear hno;by_cases hlt:k<xs.length
  ·obtain ⟨y,hy⟩:∃ y,xs[k]?=some y:=⟨_,List.getElem?_eq_getElem hlt⟩;obtain ⟨b,o,rfl,hb,e0⟩:=zcu HV.out hy;have hk2:(k:Int)<(xs.length:Int):=by omega
   have HY:=jH hy;clear hy;cases hxy:(x == y) with
   | true=>
    have HF:=jH (HR1.out k (by rw [List.contains_iff_mem];have:=beq_iff_eq.1 hxy;subst this;exact List.mem_of_getElem? HY.out))
    go_wp2_with fail;exact HF.out
   | false=>
    have HX:=jH hxy;go_wp2_with fail;go_roundw
    case rel=>
     refine ⟨k+1,by omega,by go_num,by first | trivial | rfl,fun z hz=>?_⟩
     rw [List.take_add_one,HY.out] at hz;rcases List.mem_append.1 hz with hz | hz
     ·exact HNO.out z hz
     ·simp at hz;subst hz;exact HX.out
    case measure=>simp [intOf];omega
  ·have hc:xs.contains x=false:=by
    rw [← Bool.not_eq_true,List.contains_iff_mem];intro h;have:=HNO.out x (by rw [List.take_of_length_le (by omega)];exact h)
    simp at this
   have HF:=jH (HR2.out hc);clear hc;go_wp2_with fail;exact HF.out
theorem zfd (xs:List Int) (x:Int) (v:Value) (w:World) (hv:IntsAt w v xs) (R:Ending→World→Prop) (hR:R (.returned (.bool (xs.contains x))) w) :
  Calls Tryz.prog 94 #[v,.int .i64 x] w R:=by
 have HR:=jH hR;have HV:=jH hv;obtain ⟨va,vc,rfl,v1,v2,_⟩:=hv;clear hR
 go_enter func94,ntmps94
 go_wp2_with fail;refine zvw xs x _ _ HV.out _ ?_ ?_
 ·intro k hc;have HF:=HR.out;rw [hc] at HF;have HF2:=jH HF;have hk:(k:Int)≥0:=by omega
  clear HF HR;go_wp2_with fail;exact HF2.out
 ·intro hc;have HF:=HR.out;rw [hc] at HF;have HF2:=jH HF;clear HF HR;go_wp2_with fail;exact HF2.out
def RowI (w:World) (g:Nat) (xs:List Int):Prop:=∀ (j:Nat) (x:Int),xs[j]?=some x→w.cell? ⟨g,j,none⟩=some (.int .i64 x)∧w.frozen? ⟨g,j,none⟩=false
theorem RowI.grow {w w':World} {g:Nat} {xs:List Int} (h:RowI w g xs) (hg:Grow w w') (hb:g<w.heap.size):RowI w' g xs:=fun j x hj=>⟨hg.cell (h j x hj).1,(hg.cellsB.2 g _ hb).trans (h j x hj).2⟩
theorem RowI.of_own {w:World} {base:Nat} {e:TypeId} {g n cap:Nat} {xs:List Int} (h:w.ownsRow base e 1 (.slice (some ⟨g,0,none⟩) n cap) xs.length (xs.flatMap encI)):RowI w g xs:=by
 intro j x hj;obtain ⟨_,_,e1,_,_,h4⟩:=zaa zal h;cases e1;rcases h4 with ⟨h4,_⟩ | ⟨b,o,e2,_,hc⟩
 ·rw [h4] at hj;simp at hj
 ·cases e2;refine ⟨by have:=hc j x hj 0 _ rfl;simpa using this,?_⟩
  exact zbn h _
theorem RowI.set {w:World} {g:Nat} {xs:List Int} (h:RowI w g xs) {k:Nat} (hk:k<xs.length) (x:Int):RowI (w.setCell ⟨g,k,none⟩ (.int .i64 x)) g (xs.set k x):=by
 intro j y hj;rw [World.frozen?_setCell];by_cases e:j=k
 ·subst e;rw [List.getElem?_set_self hk] at hj;cases hj;obtain ⟨h1,h2⟩:=h j _ (List.getElem?_eq_getElem hk);exact ⟨World.cell?_setCell_same (h:=h1) ..,h2⟩
 ·rw [List.getElem?_set_ne (fun e2=>e e2.symm)] at hj;obtain ⟨h1,h2⟩:=h j y hj;exact ⟨(World.cell?_setCell_other (h:=by intro e3;cases e3;exact e rfl) ..).trans h1,h2⟩
def zerosI (n:Nat):List Value:=(Builtin.zeroCells (Value.int .i64 0).cells n).toList
theorem RowI.cleared {w:World} {g:Nat} {ys:List Int} (h:RowI w g ys) (k n:Nat):RowI (w.setCells g k (zerosI n)) g (ys.take k):=by
 intro j x hj;rw [List.getElem?_take] at hj
 split at hj
 ·next hjk=>
  obtain ⟨h1,h2⟩:=h j x hj;rw [World.frozen?_setCells,World.cell?_setCells_out g (zerosI n) k w ⟨g,j,none⟩ (fun _ _=>.inl (by dsimp only;omega))]
  exact ⟨h1,h2⟩
 ·cases hj
theorem RowI.isSome {w:World} {g:Nat} {ys:List Int} (h:RowI w g ys) {t:Nat} (ht:t<ys.length):(w.cell? ⟨g,t,none⟩).isSome=true∧w.frozen? ⟨g,t,none⟩=false:=by
 obtain ⟨h1,h2⟩:=h t _ (List.getElem?_eq_getElem ht);exact ⟨by rw [h1];rfl,h2⟩
def PredW (g:Nat) (cb:Array Value) (pr:Int→Bool) (Inv:World→Prop):Prop:=
 ∀ (x:Int) (W:World),Inv W→∀ R:Ending→World→Prop,(∀ W',Grow W W'→R (.returned (.bool (pr x))) W')→Calls Tryz.prog g (#[.int .i64 x]++cb) W R
theorem zpj (f:Nat) (cb:Array Value) (eg:Enters Tryz.prog f) (pr:Int→Bool) (Inv:World→Prop) (hI:∀ W W',Inv W→Grow W W'→Inv W') (hp:PredW f cb pr Inv) (xs:List Int) (v:Value) (w:World) (hv:IntsAt w v xs) (hi:Inv w) (R:Ending→World→Prop)
  (hR1:∀ w' (k:Nat) x,Grow w w'→xs[k]?=some x→pr x=true→(∀ y∈xs.take k,pr y=false)→R (.returned (.int .i64 (k:Int))) w')
  (hR2:∀ w',Grow w w'→(∀ y∈xs,pr y=false)→R (.returned (.int .i64 (-1))) w') :
  Calls Tryz.prog 143 #[v,.func (.func f) #[] cb] w R:=by
 have HV:=jH hv;have HI:=jH hI;have HP:=jH hp;have HI0:=jH hi;have HR1:=jH hR1;have HR2:=jH hR2;obtain ⟨va,vc,rfl,v1,v2,_⟩:=hv;have hm:xs.length≤9223372036854775807:=by omega
 unfold Enters at eg;clear hR1 hR2 hI hp hi
 go_enter func143,ntmps143
 go_wp2_with fail
 go_loopw [5,8] (fun _ i wr=>∃ k:Nat,k≤xs.length∧i=.int .i64 k∧Grow w wr∧∀ y∈xs.take k,pr y=false) (fun _ i _=>xs.length - (intOf i).toNat)
 case atStart=>exact ⟨0,Nat.zero_le _,rfl,Grow.refl _,by simp⟩
 case round=>
  obtain ⟨k,hk,rfl,hg,hno⟩:=hrel;have HG:=jH hg;have HNO:=jH hno;clear hg hno;by_cases hlt:k<xs.length
  ·obtain ⟨y,hy⟩:∃ y,xs[k]?=some y:=⟨_,List.getElem?_eq_getElem hlt⟩;obtain ⟨b,o,rfl,hb,e0⟩:=zcu (HV.out.grow HG.out) hy;have hk2:(k:Int)<(xs.length:Int):=by omega
   have HY:=jH hy;clear hy;cases hpy:pr y with
   | true=>
    have HPY:=jH hpy;clear hpy;go_wp2_with fail;refine HP.out y _ (HI.out _ _ HI0.out HG.out) _ ?_;intro w1 hg1;rw [HPY.out];have HF:=jH (HR1.out w1 k y (HG.out.trans hg1) HY.out HPY.out HNO.out);clear hg1;go_wp2_with fail;exact HF.out
   | false=>
    have HPY:=jH hpy;clear hpy;go_wp2_with fail;refine HP.out y _ (HI.out _ _ HI0.out HG.out) _ ?_;intro w1 hg1;rw [HPY.out];have HG1:=jH (HG.out.trans hg1);clear hg1;go_wp2_with fail;go_roundw
    case rel=>
     refine ⟨k+1,by omega,by go_num,HG1.out,fun z hz=>?_⟩
     rw [List.take_add_one,HY.out] at hz;rcases List.mem_append.1 hz with hz | hz
     ·exact HNO.out z hz
     ·simp at hz;subst hz;exact HPY.out
    case measure=>simp [intOf];omega
  ·have HF:=jH (HR2.out wr HG.out (fun y hy=>HNO.out y (by rw [List.take_of_length_le (by omega)];exact hy)))
   go_wp2_with fail;exact HF.out
set_option maxHeartbeats 4000000
theorem zir (p:List Ln) (ts:List Tst) (kind:Int) (pv tv:Value) (w:World) (hp:LinesAt w pv p) (ht:TestsAt w tv ts) (R:Ending→World→Prop)
  (hR:∀ w',Grow w w'→R (.returned (.int .i64 (sgtE p ts kind))) w') :
  Calls Tryz.prog 172 #[pv,tv,.int .i64 kind] w R:=by
 have HP:=jH hp;have HT:=jH ht;have hc:sgtE p ts kind=if chkT p ts=0 then (if inB kind 0 2 then (if ts.all (passM p) then 8 else 0) else 1) else chkT p ts:=rfl;rw [hc] at hR;have HR:=jH hR;obtain ⟨e,he⟩:∃ e,chkT p ts=e:=⟨_,rfl⟩;rw [he] at HR;have hok:=fun h:e=0=>zef.1 (he.trans h);have HE:=jH he;obtain ⟨pa,pc,rfl,_⟩:=hp;obtain ⟨⟨ta,tc,rfl,_⟩,_⟩:=ht;clear hR hc he;by_cases z1:e=0;rotate_left
 ·rw [if_neg z1] at HR;have t1:(e != 0)=true:=by simpa using z1
  clear hok z1
  go_enter func172,ntmps172
  go_wp2_with fail;refine zdh p ts _ _ _ HP.out HT.out _ ?_;intro w1 hg1;rw [HE.out];have HG1:=jH hg1;clear hg1;go_wp2_with fail;exact HR.out w1 HG1.out
 obtain ⟨hv,hvt⟩:=hok z1;subst z1;rw [if_pos rfl] at HR;have HV:=jH hv;have HVT:=jH hvt;clear hok hv hvt;by_cases k0:kind<0
 ·rw [zbq.2 (by omega),if_neg (by decide)] at HR
  go_enter func172,ntmps172
  go_wp2_with fail;refine zdh p ts _ _ _ HP.out HT.out _ ?_;intro w1 hg1;rw [HE.out];have HG1:=jH hg1;clear hg1;go_wp2_with fail;exact HR.out w1 HG1.out
 by_cases k2:2<kind
 ·rw [zbq.2 (by omega),if_neg (by decide)] at HR
  go_enter func172,ntmps172
  go_wp2_with fail;refine zdh p ts _ _ _ HP.out HT.out _ ?_;intro w1 hg1;rw [HE.out];have HG1:=jH hg1;clear hg1;go_wp2_with fail;exact HR.out w1 HG1.out
 rw [zbd.2 (by omega),if_pos rfl] at HR
 cases g:ts.all (passM p) with
 | true=>
  rw [g] at HR;have H3:=jH g;clear g
  go_enter func172,ntmps172
  go_wp2_with fail;refine zdh p ts _ _ _ HP.out HT.out _ ?_;intro w1 hg1;rw [HE.out];have HG1:=jH hg1;clear hg1;go_wp2_with fail;refine zeh p ts _ _ _ (HP.out.grow HG1.out) (HT.out.grow HG1.out) HV.out HVT.out _ ?_;intro w2 hg2;rw [H3.out];have HF:=jH (HR.out w2 (HG1.out.trans hg2));clear hg2;go_wp2_with fail;exact HF.out
 | false=>
  rw [g] at HR;have H3:=jH g;clear g
  go_enter func172,ntmps172
  go_wp2_with fail;refine zdh p ts _ _ _ HP.out HT.out _ ?_;intro w1 hg1;rw [HE.out];have HG1:=jH hg1;clear hg1;go_wp2_with fail;refine zeh p ts _ _ _ (HP.out.grow HG1.out) (HT.out.grow HG1.out) HV.out HVT.out _ ?_;intro w2 hg2;rw [H3.out];have HF:=jH (HR.out w2 (HG1.out.trans hg2));clear hg2;go_wp2_with fail;exact HF.out
end Go.Proofs.YtmeejlgnhfkeaaaGreatDoor
