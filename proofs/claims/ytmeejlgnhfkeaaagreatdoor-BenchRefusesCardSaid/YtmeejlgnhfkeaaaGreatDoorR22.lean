/- Parts. -/
import Derived.Test.YtmeejlgnhfkeaaaGreatDoorR21
import Derived.Test.YtmeejlgnhfkeaaaGreatDoorR17
import Derived.Test.YtmeejlgnhfkeaaaGreatDoorR11
import Derived.Test.YtmeejlgnhfkeaaaGreatDoorR16
import Derived.Test.YtmeejlgnhfkeaaaGreatDoorR18
import Derived.Test.YtmeejlgnhfkeaaaGreatDoorR19
import Derived.Test.YtmeejlgnhfkeaaaGreatDoorR10
import Derived.Shelf.Strings.Split
import Derived.Lib.AtoiAllCases
import Derived.Lib.ItoaNum
namespace Go.Proofs.YtmeejlgnhfkeaaaGreatDoor
open Go.RowKit
def blank:ByteArray:=⟨#[32]⟩
def wordsB (t:ByteArray):List ByteArray:=Lib.splitB blank 0 (Lib.countB t blank) t
def wPut:ByteArray:=⟨#[112,117,116]⟩
def wUndo:ByteArray:=⟨#[117,110,100,111]⟩
def wTest:ByteArray:=⟨#[116,101,115,116]⟩
def wForget:ByteArray:=⟨#[102,111,114,103,101,116]⟩
def wLock:ByteArray:=⟨#[108,111,99,107]⟩
def wFix:ByteArray:=⟨#[102,105,120]⟩
def wCheck:ByteArray:=⟨#[99,104,101,99,107]⟩
def formB (w:ByteArray):Option (Nat × Nat):=
 if w=wPut then some (0,5) else if w=wUndo then some (1,0) else if w=wTest then some (2,6) else if w=wForget then some (3,1) else if w=wLock then some (4,1) else if w=wFix then some (5,0) else if w=wCheck then some (6,0) else none
def numW (w:ByteArray):Option Int:=
 match Lib.atoiAll w.data.toList with
 | .ok n=>if Lib.itoa n=w.data.toList∧-999≤n∧n≤999 then some n else none
 | _=>none
def numsW:List ByteArray→Option (List Int)
 | []=>some []
 | w :: r=>match numW w with
  | none=>none
  | some n=>(numsW r).map (n :: ·)
def parseB (t:ByteArray):Option (Nat × List Int):=
 match wordsB t with
 | []=>none
 | w :: ws=>match formB w with
  | none=>none
  | some (k,n)=>if 30<t.size∨ws.length≠n then none else (numsW ws).map (k,·)
theorem zfv:∀ {ws:List ByteArray} {ns:List Int},numsW ws=some ns→ns.length=ws.length
 | [],ns,h=>by simp [numsW] at h;subst h;rfl
 | w :: r,ns,h=>by
  unfold numsW at h;cases hw:numW w with
  | none=>rw [hw] at h;cases h
  | some n=>
   rw [hw] at h;cases hr:numsW r with
   | none=>rw [hr] at h;cases h
   | some l=>rw [hr] at h;simp at h;subst h;simp [zfv hr]
structure Bn where
 progs:List (List Ln)
 hist:List (List Ed)
 tests:List Tst
 lk:List Int
 fixes:Int
 checks:Int
 orders:List ByteArray
def Bn.prog (s:Bn):List Ln:=(s.progs[s.progs.length - 1]?).getD []
def newB (p:List Ln):Bn:=⟨[p],[],[],[],0,0,[]⟩
def failB (p:List Ln) (ts:List Tst):List Int:=ifOK (chkT p ts) (whereL (fun t=>!passM p t) ts)
def brkB (p:List Ln) (ts:List Tst) (lk:List Int):Bool:=(failB p ts).any fun k=>lk.contains k
def doE (p:List Ln) (x:List Ed):Int:=chkX p x []
def repairB (s:Bn) (x:List Ed):Int × Bn:=
 if s.hist.length=8 then (3,s)
 else if doE s.prog x≠0 then (doE s.prog x,s)
 else if brkB (doM s.prog x) s.tests s.lk then (6,s)
 else (0,{ s with progs:=s.progs++[doM s.prog x],hist:=s.hist++[x] })
def putB (s:Bn) (i:Int) (l:Ln):Int × Bn:=
 if i<0∨(s.prog.length:Int)≤i then (4,s)
 else if l.ok=false then (1,s)
 else if lineAt s.prog i=l then (5,s)
 else repairB s [⟨i,l⟩]
def undoB (s:Bn):Int × Bn:=
 if s.hist.length=0 then (8,s)
 else if brkB ((s.progs[s.hist.length - 1]?).getD []) s.tests s.lk then (6,s)
 else (0,{ s with progs:=s.progs.take s.hist.length,hist:=s.hist.take (s.hist.length - 1) })
def testB (s:Bn) (xs:List Int) (o wt:Int):Int × Bn:=
 if valT [⟨.nilIface,xs,o,wt⟩]≠0 then (valT [⟨.nilIface,xs,o,wt⟩],s)
 else if s.tests.length=8 then (3,s)
 else (0,{ s with tests:=s.tests++[⟨.nilIface,xs,o,wt⟩] })
def downI (n k:Int):Int:=if n<k then k - 1 else k
def forgetB (s:Bn) (n:Int):Int × Bn:=
 if n<0∨(s.tests.length:Int)≤n then (4,s)
 else if s.lk.contains n then (8,s)
 else (0,{ s with tests:=s.tests.eraseIdx n.toNat,lk:=s.lk.map (downI n) })
def rankI (l:List Int) (n:Int):Nat:=(l.filter (·<n)).length
def lockB (s:Bn) (n:Int):Int × Bn:=
 if n<0∨(s.tests.length:Int)≤n then (4,s)
 else if s.lk.contains n then (5,s)
 else if (failB s.prog s.tests).contains n then (8,s)
 else (0,{ s with lk:=s.lk.take (rankI s.lk n)++n :: s.lk.drop (rankI s.lk n) })
open Classical in
noncomputable def fixX (p:List Ln) (ts:List Tst):Option (List Ed):=
 if h:∃ x n,RepP p ts x n true then some h.choose else none
theorem zql {p:List Ln} {ts:List Tst} {x:List Ed} {n:Int} {ok:Bool} (h:RepP p ts x n ok):fixX p ts=if ok then some x else none:=by
 unfold fixX;cases ok with
 | true=>
  have hx:∃ x n,RepP p ts x n true:=⟨x,n,h⟩;rw [dif_pos hx];obtain ⟨n',hn'⟩:=hx.choose_spec;rw [(hn'.uniq h).1];rfl
 | false=>
  rw [dif_neg];rfl;rintro ⟨x',n',h'⟩;have:=(h'.uniq h).2.2;cases this
noncomputable def fixBn (s:Bn):Int × Bn:=
 if (failB s.prog s.tests).length=0 then (8,s)
 else if s.hist.length=8 then (3,s)
 else match fixX s.prog s.tests with
  | none=>(4,s)
  | some x=>if (repairB s x).1≠0 then ((repairB s x).1,s) else (0,{ (repairB s x).2 with fixes:=(repairB s x).2.fixes+1 })
def verifyB (s:Bn):Int × Bn:=
 if s.tests.length=0 then (8,s)
 else if 0<(failB s.prog s.tests).length then (7,s)
 else (0,{ s with checks:=s.checks+1 })
def nth (l:List Int) (k:Nat):Int:=(l[k]?).getD 0
noncomputable def execB (s:Bn) (k:Nat) (l:List Int):Int × Bn:=
 if k=0 then putB s (nth l 0) ⟨nth l 1,nth l 2,nth l 3,nth l 4⟩
 else if k=1 then undoB s
 else if k=2 then testB s (l.take 4) (nth l 4) (nth l 5)
 else if k=3 then forgetB s (nth l 0)
 else if k=4 then lockB s (nth l 0)
 else if k=5 then fixBn s
 else verifyB s
noncomputable def doB (s:Bn) (t:ByteArray):Int × Bn:=
 match parseB t with
 | none=>(2,s)
 | some (k,l)=>
  if 80≤s.orders.length then (3,s)
  else if (execB s k l).1≠0 then ((execB s k l).1,s)
  else (0,{ (execB s k l).2 with orders:=(execB s k l).2.orders++[t] })
noncomputable def dosB (s:Bn):List ByteArray→Bn
 | []=>s
 | t :: r=>dosB (doB s t).2 r
theorem zhh {p:List Ln} {ts:List Tst} (h:chkT p ts=0):failB p ts=whereL (fun t=>!passM p t) ts:=by unfold failB;rw [h];rfl
theorem zer {p:List Ln} {ts:List Tst} (h:chkT p ts=0) {k:Nat} {t:Tst} (hk:ts[k]?=some t):(k:Int)∈failB p ts↔passM p t=false:=by
 rw [zhh h,zil];constructor
 ·rintro ⟨k',t',e,ht,hf⟩;have:k'=k:=by omega
  subst this;rw [hk] at ht;obtain rfl:=Option.some.inj ht;simpa using hf
 ·intro hf;exact ⟨k,t,rfl,hk,by rw [hf];rfl⟩
structure OkB (s:Bn):Prop where
 len:s.progs.length=s.hist.length+1
 val:∀ p∈s.progs,valP p=0
 step:∀ i p x q,s.progs[i]?=some p→s.hist[i]?=some x→s.progs[i+1]?=some q→chkX p x []=0∧q=doM p x
 h8:s.hist.length≤8
 tst:valT s.tests=0
 asc:s.lk.Pairwise (·<·)
 inr:∀ k∈s.lk,0≤k∧k<(s.tests.length:Int)
 pass:∀ k∈s.lk,∀ t,s.tests[k.toNat]?=some t→passM s.prog t=true
 ord:s.orders.length≤80
 fx:0≤s.fixes∧s.fixes≤(s.orders.length:Int)
 ck:0≤s.checks∧s.checks≤(s.orders.length:Int)
 txt:∀ t∈s.orders,(parseB t).isSome=true
theorem OkB.new {p:List Ln} (h:valP p=0):OkB (newB p) where
 len:=rfl
 val:=by intro q hq;simp [newB] at hq;subst hq;exact h
 step:=by intro i p x q _ h;simp [newB] at h
 h8:=by simp [newB]
 tst:=rfl
 asc:=by simp [newB]
 inr:=by simp [newB]
 pass:=by simp [newB]
 ord:=by simp [newB]
 fx:=by simp [newB]
 ck:=by simp [newB]
 txt:=by simp [newB]
theorem OkB.ne {s:Bn} (h:OkB s):s.progs[s.hist.length]?=some s.prog:=by
 unfold Bn.prog;rw [h.len,Nat.add_sub_cancel];have:s.hist.length<s.progs.length:=by have:=h.len;omega
 rw [List.getElem?_eq_getElem this];rfl
theorem OkB.valp {s:Bn} (h:OkB s):valP s.prog=0:=h.val _ (List.mem_of_getElem? h.ne)
theorem OkB.chk {s:Bn} (h:OkB s):chkT s.prog s.tests=0:=zef.2 ⟨h.valp,h.tst⟩
theorem OkB.t8 {s:Bn} (h:OkB s):s.tests.length≤8:=(zcs.1 h.tst).1
theorem OkB.holds {s:Bn} (h:OkB s):brkB s.prog s.tests s.lk=false:=by
 unfold brkB;rw [← Bool.not_eq_true,List.any_eq_true];rintro ⟨k,hk,hc⟩;have hm:=List.contains_iff_mem.1 hc;obtain ⟨h0,h1⟩:=h.inr k hm;obtain ⟨t,ht⟩:∃ t,s.tests[k.toNat]?=some t:=⟨_,List.getElem?_eq_getElem (by omega)⟩
 have h2:=h.pass k hm t ht;have h3:=(zer h.chk ht).1 (by rw [show ((k.toNat:Nat):Int)=k by omega];exact hk)
 rw [h2] at h3;cases h3
theorem zna {p:List Ln} {ts:List Tst} {lk:List Int} (hc:chkT p ts=0) (h:brkB p ts lk=false):∀ k∈lk,0≤k→∀ t,ts[k.toNat]?=some t→passM p t=true:=by
 intro k hk h0 t ht;cases hp:passM p t with
 | true=>rfl
 | false=>
  have hm:=(zer hc ht).2 hp;rw [show ((k.toNat:Nat):Int)=k by omega] at hm
  have:brkB p ts lk=true:=by
   unfold brkB;exact List.any_eq_true.2 ⟨k,hm,List.contains_iff_mem.2 hk⟩
  rw [h] at this;cases this
theorem prog_snoc (s:Bn) (q:List Ln) (x:List Ed):({ s with progs:=s.progs++[q],hist:=s.hist++[x] }:Bn).prog=q:=by
 unfold Bn.prog;simp
theorem OkB.repair {s:Bn} (h:OkB s) {x:List Ed} (h8:s.hist.length≠8) (he:doE s.prog x=0) (hb:brkB (doM s.prog x) s.tests s.lk=false) :
  OkB { s with progs:=s.progs++[doM s.prog x],hist:=s.hist++[x] }:=by
 have hx:=zdn.1 he;have hval:valP (doM s.prog x)=0:=by
  refine zmh h.valp ?_;intro e hm;obtain ⟨k,hk⟩:=List.getElem?_of_mem hm;exact (zde (zdm.1 hx.2.1).2 hk).2.2
 refine ⟨?_,?_,?_,?_,h.tst,h.asc,h.inr,?_,h.ord,h.fx,h.ck,h.txt⟩
 ·simp [h.len]
 ·intro p hp;rcases List.mem_append.1 hp with hp | hp
  ·exact h.val p hp
  ·simp at hp;subst hp;exact hval
 ·intro i p y q h1 h2 h3;by_cases hi:i<s.hist.length
  ·rw [List.getElem?_append_left hi] at h2;rw [List.getElem?_append_left (by have:=h.len;omega)] at h1 h3
   exact h.step i p y q h1 h2 h3
  ·have hi2:i=s.hist.length:=by
    have:=(List.getElem?_eq_some_iff.1 h2).1;simp at this;omega
   subst hi2;rw [List.getElem?_append_left (by have:=h.len;omega),h.ne] at h1
   obtain rfl:=Option.some.inj h1;rw [List.getElem?_append_right (by omega)] at h2
   simp at h2;subst h2;rw [List.getElem?_append_right (by have:=h.len;omega),h.len] at h3
   simp at h3;exact ⟨he,h3.symm⟩
 ·simp;have:=h.h8;omega
 ·intro k hk t ht;rw [prog_snoc];exact zna (zef.2 ⟨hval,h.tst⟩) hb k hk (h.inr k hk).1 t ht
theorem OkB.repairB {s:Bn} (h:OkB s) (x:List Ed):OkB (repairB s x).2:=by
 unfold Go.Proofs.YtmeejlgnhfkeaaaGreatDoor.repairB
 split
 ·exact h
 ·split
  ·exact h
  ·split
   ·exact h
   ·next h1 h2 h3=>exact h.repair h1 (by simpa using h2) (by simpa using h3)
theorem OkB.put {s:Bn} (h:OkB s) (i:Int) (l:Ln):OkB (putB s i l).2:=by
 unfold putB
 repeat' split
 all_goals first | exact h | exact h.repairB _
theorem OkB.undo {s:Bn} (h:OkB s):OkB (undoB s).2:=by
 unfold undoB
 split
 ·exact h
 ·split
  ·exact h
  ·next h1 h2=>
   have hl:=h.len;have hpg:({ s with progs:=s.progs.take s.hist.length,hist:=s.hist.take (s.hist.length - 1) }:Bn).prog=(s.progs[s.hist.length - 1]?).getD []:=by
    unfold Bn.prog;simp only [List.length_take];rw [show min s.hist.length s.progs.length - 1=s.hist.length - 1 by omega,List.getElem?_take,if_pos (by omega)]
   have hm:((s.progs[s.hist.length - 1]?).getD [])∈s.progs:=by
    rw [List.getElem?_eq_getElem (by omega)];exact List.getElem_mem _
   refine ⟨?_,?_,?_,?_,h.tst,h.asc,h.inr,?_,h.ord,h.fx,h.ck,h.txt⟩
   ·simp;omega
   ·intro p hp;exact h.val p (List.mem_of_mem_take hp)
   ·intro i p x q e1 e2 e3;rw [List.getElem?_take] at e1 e2 e3
    split at e1<;>split at e2<;>split at e3<;>first | exact h.step i p x q e1 e2 e3 | simp_all
   ·simp;have:=h.h8;omega
   ·intro k hk t ht;rw [hpg];exact zna (zef.2 ⟨h.val _ hm,h.tst⟩) (by simpa using h2) k hk (h.inr k hk).1 t ht
theorem OkB.test {s:Bn} (h:OkB s) (xs:List Int) (o wt:Int):OkB (testB s xs o wt).2:=by
 unfold testB
 split
 ·exact h
 ·split
  ·exact h
  ·next h1 h2=>
   have h1':valT [⟨.nilIface,xs,o,wt⟩]=0:=by simpa using h1
   obtain ⟨_,hok⟩:=zcs.1 h1';refine ⟨h.len,h.val,h.step,h.h8,?_,h.asc,?_,?_,h.ord,h.fx,h.ck,h.txt⟩
   ·refine zcs.2 ⟨by simp;have:=h.t8;omega,fun t ht=>?_⟩
    rcases List.mem_append.1 ht with ht | ht
    ·exact (zcs.1 h.tst).2 t ht
    ·exact hok t ht
   ·intro k hk;obtain ⟨a,b⟩:=h.inr k hk;simp;omega
   ·intro k hk t ht;obtain ⟨a,b⟩:=h.inr k hk;simp only at ht;rw [List.getElem?_append_left (by omega)] at ht
    exact h.pass k hk t ht
theorem OkB.forget {s:Bn} (h:OkB s) (n:Int):OkB (forgetB s n).2:=by
 unfold forgetB
 split
 ·exact h
 ·split
  ·exact h
  ·next h1 h2=>
   have h1':0≤n∧n<(s.tests.length:Int):=by omega
   have hn:∀ k∈s.lk,k≠n:=fun k hk e=>h2 (List.contains_iff_mem.2 (e ▸ hk));have hlen:(s.tests.eraseIdx n.toNat).length=s.tests.length - 1:=by rw [List.length_eraseIdx,if_pos (by omega)]
   refine ⟨h.len,h.val,h.step,h.h8,?_,?_,?_,?_,h.ord,h.fx,h.ck,h.txt⟩
   ·refine zcs.2 ⟨?_,fun t ht=>(zcs.1 h.tst).2 t (List.mem_of_mem_eraseIdx ht)⟩;simp only;rw [hlen];have:=h.t8;omega
   ·simp only;rw [List.pairwise_map];refine h.asc.imp_of_mem ?_;intro a b ha hb hab;have:=hn a ha;have:=hn b hb;unfold downI
    split<;>split<;>omega
   ·intro k hk;simp only [List.mem_map] at hk;obtain ⟨j,hj,rfl⟩:=hk;obtain ⟨a,b⟩:=h.inr j hj;have:=hn j hj;simp only;rw [hlen];unfold downI
    split<;>omega
   ·intro k hk t ht;simp only [List.mem_map] at hk;obtain ⟨j,hj,rfl⟩:=hk;obtain ⟨a,b⟩:=h.inr j hj;have hjn:=hn j hj;refine h.pass j hj t ?_;simp only at ht;rw [List.getElem?_eraseIdx] at ht;unfold downI at ht
    split at ht
    ·next hlt=>
     rw [if_neg (by omega),show (j - 1).toNat+1=j.toNat by omega] at ht
     exact ht
    ·next hlt=>
     rw [if_pos (by omega)] at ht
     exact ht
theorem OkB.lock {s:Bn} (h:OkB s) (n:Int):OkB (lockB s n).2:=by
 unfold lockB
 split
 ·exact h
 ·split
  ·exact h
  ·split
   ·exact h
   ·next h1 h2 h3=>
    have h1':0≤n∧n<(s.tests.length:Int):=by omega
    have hn:n ∉ s.lk:=fun e=>h2 (List.contains_iff_mem.2 e);have hsp:∀ k,k∈s.lk.take (rankI s.lk n)++n :: s.lk.drop (rankI s.lk n)↔k=n∨k∈s.lk:=by
     intro k;rw [List.mem_append,List.mem_cons];constructor
     ·rintro (e | e | e)
      ·exact .inr (List.mem_of_mem_take e)
      ·exact .inl e
      ·exact .inr (List.mem_of_mem_drop e)
     ·rintro (e | e)
      ·exact .inr (.inl e)
      ·rw [← List.take_append_drop (rankI s.lk n) s.lk] at e;rcases List.mem_append.1 e with e | e
       ·exact .inl e
       ·exact .inr (.inr e)
    refine ⟨h.len,h.val,h.step,h.h8,h.tst,?_,?_,?_,h.ord,h.fx,h.ck,h.txt⟩
    ·have hs:∀ l:List Int,l.Pairwise (·<·)→n ∉ l→(l.take (rankI l n)++n :: l.drop (rankI l n)).Pairwise (·<·):=by
      intro l
      induction l with
      | nil=>intro _ _;simp
      | cons a r ih=>
       intro hp hm;rw [List.pairwise_cons] at hp;simp only [List.mem_cons,not_or] at hm;by_cases ha:a<n
       ·have hr:rankI (a :: r) n=rankI r n+1:=by unfold rankI;rw [List.filter_cons,if_pos (by simpa using ha)];rfl
        rw [hr,List.take_succ_cons,List.drop_succ_cons,List.cons_append,List.pairwise_cons];refine ⟨fun b hb=>?_,ih hp.2 hm.2⟩;rcases List.mem_append.1 hb with hb | hb
        ·exact hp.1 b (List.mem_of_mem_take hb)
        ·rcases List.mem_cons.1 hb with rfl | hb
         ·exact ha
         ·exact hp.1 b (List.mem_of_mem_drop hb)
       ·have hr:rankI (a :: r) n=0:=by
         unfold rankI;rw [List.length_eq_zero_iff,List.filter_eq_nil_iff];intro b hb;rcases List.mem_cons.1 hb with rfl | hb
         ·simpa using ha
         ·have:=hp.1 b hb;simp;omega
        rw [hr,List.take_zero,List.drop_zero,List.nil_append,List.pairwise_cons];refine ⟨fun b hb=>?_,List.pairwise_cons.2 hp⟩;rcases List.mem_cons.1 hb with rfl | hb
        ·omega
        ·have:=hp.1 b hb;omega
     exact hs _ h.asc hn
    ·intro k hk;rcases (hsp k).1 hk with rfl | hk
     ·exact h1'
     ·exact h.inr k hk
    ·intro k hk t ht;rcases (hsp k).1 hk with rfl | hk
     ·show passM s.prog t=true
      cases hp:passM s.prog t with
      | true=>rfl
      | false=>
       have hm:=(zer h.chk ht).2 hp;rw [show ((k.toNat:Nat):Int)=k by omega] at hm
       exact absurd (List.contains_iff_mem.2 hm) (by simpa using h3)
     ·exact h.pass k hk t ht
theorem OkB.count {s:Bn} (h:OkB s) {f c:Int} {o:List ByteArray} (ho:o.length≤80) (hf:0≤f∧f≤(o.length:Int)) (hc:0≤c∧c≤(o.length:Int)) (ht:∀ t∈o,(parseB t).isSome=true):OkB { s with fixes:=f,checks:=c,orders:=o }:=
 ⟨h.len,h.val,h.step,h.h8,h.tst,h.asc,h.inr,h.pass,ho,hf,hc,ht⟩
theorem ziq (s:Bn) (x:List Ed):(repairB s x).2.fixes=s.fixes∧(repairB s x).2.checks=s.checks∧(repairB s x).2.orders=s.orders∧(repairB s x).2.tests=s.tests∧(repairB s x).2.lk=s.lk:=by
 unfold repairB
 repeat' split
 all_goals exact ⟨rfl,rfl,rfl,rfl,rfl⟩
theorem zes (s:Bn) (k:Nat) (l:List Int):(execB s k l).2.orders=s.orders∧(s.fixes≤(execB s k l).2.fixes∧(execB s k l).2.fixes≤s.fixes+1)∧(s.checks≤(execB s k l).2.checks∧(execB s k l).2.checks≤s.checks+1):=by
 have hr:=fun x=>ziq s x;unfold execB putB undoB testB forgetB lockB fixBn verifyB
 repeat' split
 all_goals first
  | exact ⟨rfl,⟨Int.le_refl _,by dsimp only;omega⟩,⟨Int.le_refl _,by dsimp only;omega⟩⟩
  | (refine ⟨(hr _).2.2.1,?_,?_⟩<;>first | (rw [(hr _).1];omega) | (rw [(hr _).2.1];omega) | (dsimp only;rw [(hr _).1];omega) | (dsimp only;rw [(hr _).2.1];omega))
  | (refine ⟨rfl,?_,?_⟩<;>dsimp only<;>omega)
theorem OkB.exec {s:Bn} (h:OkB s) (k:Nat) (l:List Int) (ho:s.orders.length<80) (t:ByteArray) (ht:(parseB t).isSome=true):OkB { (execB s k l).2 with orders:=(execB s k l).2.orders++[t] }:=by
 obtain ⟨e1,e2,e3⟩:=zes s k l;have hb:∃ f c,OkB { (execB s k l).2 with fixes:=f,checks:=c }:=by
  unfold execB
  repeat' split
  ·exact ⟨_,_,h.put _ _⟩
  ·exact ⟨_,_,h.undo⟩
  ·exact ⟨_,_,h.test _ _ _⟩
  ·exact ⟨_,_,h.forget _⟩
  ·exact ⟨_,_,h.lock _⟩
  ·unfold fixBn
   repeat' split
   ·exact ⟨_,_,h⟩
   ·exact ⟨_,_,h⟩
   ·exact ⟨_,_,h⟩
   ·exact ⟨_,_,h⟩
   ·exact ⟨_,_,h.repairB _⟩
  ·unfold verifyB
   repeat' split
   ·exact ⟨_,_,h⟩
   ·exact ⟨_,_,h⟩
   ·exact ⟨_,_,h⟩
 obtain ⟨f,c,hb⟩:=hb;obtain ⟨f0,f1⟩:=h.fx;obtain ⟨c0,c1⟩:=h.ck;have hl:((execB s k l).2.orders++[t]).length=s.orders.length+1:=by rw [e1];simp
 refine hb.count (by rw [hl];omega) (by rw [hl];omega) (by rw [hl];omega) ?_
 intro u hu;rw [e1] at hu;rcases List.mem_append.1 hu with hu | hu
 ·exact h.txt u hu
 ·simp at hu;subst hu;exact ht
theorem OkB.do {s:Bn} (h:OkB s) (t:ByteArray):OkB (doB s t).2:=by
 unfold doB
 split
 ·exact h
 ·next k l hp=>
  split
  ·exact h
  ·split
   ·exact h
   ·next h1 _=>exact h.exec k l (by omega) t (by rw [hp];rfl)
theorem doB_err {s:Bn} {t:ByteArray} (h:(doB s t).1≠0):(doB s t).2=s:=by
 unfold doB at h ⊢
 repeat' split
 all_goals first | rfl | (exfalso;simp_all)
theorem doB_ok {s:Bn} {t:ByteArray} (h:(doB s t).1=0):(doB s t).2.orders=s.orders++[t]:=by
 unfold doB at h ⊢
 split at h
 ·cases h
 ·split at h
  ·cases h
  ·split at h
   ·next h2=>exact absurd h h2
   ·next k l hp h1 h2=>
    rw [if_neg h1,if_neg h2]
    show (execB s k l).2.orders++[t]=_
    rw [(zes s k l).1]
theorem zke (s:Bn) (a b:List ByteArray):dosB s (a++b)=dosB (dosB s a) b:=by
 induction a generalizing s with
 | nil=>rfl
 | cons t r ih=>exact ih _
theorem OkB.dos {s:Bn} (h:OkB s):∀ l,OkB (dosB s l)
 | []=>h
 | t :: r=>(h.do t).dos r
def RepB (p:List Ln) (s:Bn):Prop:=dosB (newB p) s.orders=s∧∀ k t,s.orders[k]?=some t→(doB (dosB (newB p) (s.orders.take k)) t).1=0
theorem RepB.new (p:List Ln):RepB p (newB p):=⟨rfl,by intro k t h;simp [newB] at h⟩
theorem RepB.do {p:List Ln} {s:Bn} (h:RepB p s) (t:ByteArray):RepB p (doB s t).2:=by
 by_cases he:(doB s t).1=0
 ·have ho:=doB_ok he;refine ⟨?_,fun k u hu=>?_⟩
  ·rw [ho,zke,h.1];rfl
  ·rw [ho] at hu ⊢;by_cases hk:k<s.orders.length
   ·rw [List.getElem?_append_left hk] at hu;rw [List.take_append_of_le_length (by omega)]
    exact h.2 k u hu
   ·have hk2:k=s.orders.length:=by
     have:=(List.getElem?_eq_some_iff.1 hu).1;simp at this;omega
    subst hk2;rw [List.getElem?_append_right (by omega)] at hu
    simp at hu;subst hu;rw [List.take_append_of_le_length (by omega),List.take_length,h.1]
    exact he
 ·rw [doB_err he];exact h
set_option maxRecDepth 100000
def digN (n:Int) (c:UInt8):Int:=10 * n+((c.toNat:Int) - 48)
def docN (l:List UInt8):Option Int:=
 let sg:Int:=if l.head?=some 45 then -1 else 1
 let ds:=if l.head?=some 45 then l.tail else l
 if ds.length<1∨3<ds.length then none
 else if ds.all (fun c=>decide (48≤c∧c≤57))=false then none
 else if Lib.itoa (sg * ds.foldl digN 0)=l then some (sg * ds.foldl digN 0) else none
theorem doc_all:∀ k:Fin 1999,docN (Lib.itoa ((k.val:Int) - 999))=some ((k.val:Int) - 999):=by decide +kernel
def okIs (e:Lib.NumEnd Int) (n:Int):Bool:=match e with | .ok v=>decide (v=n) | _=>false
theorem atoi_all:∀ k:Fin 1999,okIs (Lib.atoiAll (Lib.itoa ((k.val:Int) - 999))) ((k.val:Int) - 999)=true:=by decide +kernel
theorem num_at (n:Int) (h0 : -999≤n) (h1:n≤999):Lib.atoiAll (Lib.itoa n)=.ok n∧docN (Lib.itoa n)=some n:=by
 have hk:(n+999).toNat<1999:=by omega
 have e:(((n+999).toNat:Nat):Int) - 999=n:=by omega
 have a:=atoi_all ⟨_,hk⟩;have b:=doc_all ⟨_,hk⟩;dsimp only at a b;rw [e] at a b;refine ⟨?_,b⟩;unfold okIs at a
 split at a
 ·next v hv=>rw [hv,of_decide_eq_true a]
 ·cases a
theorem zfi {c:UInt8} (h:decide (48≤c∧c≤57)=true):0≤(c.toNat:Int) - 48∧(c.toNat:Int) - 48≤9:=by
 have h1:=of_decide_eq_true h;have h2:(48:UInt8).toNat≤c.toNat:=UInt8.le_iff_toNat_le.1 h1.1;have h3:c.toNat≤(57:UInt8).toNat:=UInt8.le_iff_toNat_le.1 h1.2;have e1:(48:UInt8).toNat=48:=rfl;have e2:(57:UInt8).toNat=57:=rfl;omega
theorem digs_bd {l:List UInt8} (h1:¬ (l.length<1∨3<l.length)) (h2:l.all (fun c=>decide (48≤c∧c≤57))=true):0≤l.foldl digN 0∧l.foldl digN 0≤999:=by
 rw [List.all_eq_true] at h2;rcases l with _ | ⟨a,_ | ⟨b,_ | ⟨c,_ | ⟨d,l⟩⟩⟩⟩
 ·simp at h1
 ·have:=zfi (h2 a (by simp));simp only [List.foldl,digN];omega
 ·have:=zfi (h2 a (by simp));have:=zfi (h2 b (by simp));simp only [List.foldl,digN];omega
 ·have:=zfi (h2 a (by simp));have:=zfi (h2 b (by simp));have:=zfi (h2 c (by simp));simp only [List.foldl,digN];omega
 ·simp at h1
theorem doc_num (w:ByteArray):docN w.data.toList=numW w:=by
 cases hd:docN w.data.toList with
 | some v=>
  have hv:Lib.itoa v=w.data.toList∧-999≤v∧v≤999:=by
   unfold docN at hd;dsimp only at hd;generalize (if w.data.toList.head?=some 45 then w.data.toList.tail else w.data.toList)=ds at hd;generalize hs:(if w.data.toList.head?=some 45 then (-1:Int) else 1)=sg at hd;have hsg:sg=-1∨sg=1:=by rw [← hs];split<;>simp
   by_cases c1:ds.length<1∨3<ds.length
   ·rw [if_pos c1] at hd;cases hd
   rw [if_neg c1] at hd;by_cases c2:ds.all (fun c=>decide (48≤c∧c≤57))=false
   ·rw [if_pos c2] at hd;cases hd
   rw [if_neg c2] at hd;have hb:=digs_bd c1 (by simpa using c2)
   by_cases hi:Lib.itoa (sg * ds.foldl digN 0)=w.data.toList
   ·rw [if_pos hi] at hd;have e:=Option.some.inj hd;rw [e] at hi;refine ⟨hi,?_⟩;rw [← e];rcases hsg with rfl | rfl<;>omega
   ·rw [if_neg hi] at hd;cases hd
  have ha:=(num_at v hv.2.1 hv.2.2).1;rw [hv.1] at ha;unfold numW;rw [ha];dsimp only;rw [if_pos hv]
 | none=>
  cases hn:numW w with
  | none=>rfl
  | some n=>
   exfalso
   unfold numW at hn
   split at hn
   ·split at hn
    ·next h=>
     have hb:=(num_at _ h.2.1 h.2.2).2;rw [h.1,hd] at hb;cases hb
    ·cases hn
   ·cases hn
end Go.Proofs.YtmeejlgnhfkeaaaGreatDoor
