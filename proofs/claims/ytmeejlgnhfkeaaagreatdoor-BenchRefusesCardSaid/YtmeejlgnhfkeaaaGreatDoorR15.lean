/- Parts. -/
import Derived.Test.YtmeejlgnhfkeaaaGreatDoorR12
import Derived.Test.YtmeejlgnhfkeaaaGreatDoorR10
import Derived.Test.YtmeejlgnhfkeaaaGreatDoorR08
import Derived.Test.YtmeejlgnhfkeaaaGreatDoorR13
import Derived.Test.YtmeejlgnhfkeaaaGreatDoorR14
import Derived.Deep.QuietTactic
import Derived.BigQuiet
namespace Go.Proofs.YtmeejlgnhfkeaaaGreatDoor
open Go.RowKit Go.Proofs.Tryz
set_option maxHeartbeats 1000000
theorem zug (xs:List Ln) (g cap B:Nat) (w:World) (hrow:RowL w g 0 xs) (hg:g<w.heap.size) (hB:B≤g) (hn:xs.length<4611686018427387904) (R:Ending→World→Prop)
  (hR:∀ w' ys,Below B w w'→g<w'.heap.size→RowL w' g 0 ys→ys.length=xs.length→(∀ x,x∈ys↔x∈xs)→WeakL ys→R (.returned (.tuple #[])) w') :
  Calls Tryz.prog 298 #[.slice (some ⟨g,0,none⟩) xs.length cap,.func (.func 282) #[] #[]] w R:=by
 have eg:∀ args w,(callFunc 282 args).run Tryz.prog w=.ok (.enter 282 args) w:=enters_of func282 (by kernel_rfl) rfl
 have hcon:=AnyQ.slices_SortFunc Tryz.sortLn 4 Tryz.isAgg57 Tryz.sizeOf57 encL zab (fun x v hv=>zaj x v hv) cmpL swoL 282 #[] g 0 cap xs.toArray w eg (zzi g 0 _ w) hrow.holds hg (by simpa using hn)
 change Calls Tryz.prog 298 _ _ _ at hcon;rw [show xs.toArray.size=xs.length by simp] at hcon
 refine hcon.mono ?_;rintro e w' ⟨rfl,d',n,os,⟨hsz,_,hperm⟩,hs,rfl⟩;have hsz':d'.size=xs.length:=by simpa using hsz
 have hall:d'.toList.Perm xs:=by
  have h1:(d'.extract 0 xs.length).toList=d'.toList:=by rw [← hsz'];simp
  have h2:((xs.toArray).extract 0 xs.length).toList=xs:=by simp
  rw [h1,h2] at hperm;exact hperm
 have hbel:Below B w (sortWorldK encL 4 w g 0 n d' os):=by
  unfold sortWorldK;refine zgq os (zei id w n g 0 (Go.Sort.flatK encL 4 d') hB) ?_;have:=(zei id w n g 0 (Go.Sort.flatK encL 4 d') hB).size;have hz:w.heap.size≤(Go.Sort.putRowK encL 4 (Go.Sort.ahead w n) g 0 d').heap.size:=by
   show w.heap.size≤(w.heap.modify g _).size;simp
  omega
 have hlt:g<(sortWorldK encL 4 w g 0 n d' os).heap.size:=by
  have:=size_sortWorldK_c encL 4 w g 0 n d' os;omega
 have hhold:RowL (sortWorldK encL 4 w g 0 n d' os) g 0 d'.toList:=by
  refine RowL.of_holds ?_;have:=holdsK_sortWorldK_c encL 4 w g 0 xs.toArray d' n os hrow.holds hg (by simpa using hsz')
  simpa using this
 refine hR _ d'.toList hbel hlt hhold (by simpa using hsz') (fun x=>hall.mem_iff) ?_
 unfold WeakL;rw [List.pairwise_iff_getElem];intro i j hi hj hij;have hj':j<d'.size:=by simpa using hj
 have:=hs i j (Nat.zero_le _) hij (by rw [← hsz'];exact hj')
 have h2:decide (cmpL d'[j]! d'[i]!<0)=false:=this;rw [zkq] at h2;have h3:=of_decide_eq_false h2;rw [getElem!_pos d' j hj',getElem!_pos d' i (by omega)] at h3
 simpa using h3
def zerosL (n:Nat):List Value:=(Builtin.zeroCells (Value.agg #[.int .i64 0,.int .i64 0,.int .i64 0,.int .i64 0]).cells n).toList
theorem zhs (n:Nat):(zerosL n).length=n * 4:=by
 unfold zerosL;rw [Array.length_toList,size_zeroCells];rfl
theorem zvk (n:Nat):∀ v∈zerosL n,v.oneCell'=true:=by
 intro v hv;unfold zerosL Builtin.zeroCells at hv;rw [Array.toList_map,List.mem_map] at hv;obtain ⟨i,_,rfl⟩:=hv;have h4:(Value.agg #[.int .i64 0,.int .i64 0,.int .i64 0,.int .i64 0]).cells.size=4:=rfl;rw [h4];have:i % 4=0∨i % 4=1∨i % 4=2∨i % 4=3:=by omega
 rcases this with h | h | h | h<;>rw [h]<;>rfl
theorem zfm (w:World) (ty g o n c:Nat) (hn:0<n) (hc:∀ j,j<n * 4→(w.cell? ⟨g,o+j,none⟩).isSome=true) (hf:∀ j,j<n * 4→w.frozen? ⟨g,o+j,none⟩=false) :
  (Builtin.clear_ #[22] ty #[.slice (some ⟨g,o,none⟩) n c]).run Tryz.prog w=.ok (.tuple #[]) (w.setCells g o (zerosL n)):=by
 have hst:=run_storeCells_cells (P:=Tryz.prog) g o (zerosL n) 0 w (by rw [zhs];simpa using hc) (by rw [zhs];simpa using hf) (zvk n)
 simp only [Nat.add_zero] at hst;obtain ⟨m,rfl⟩:∃ m,n=m+1:=⟨n - 1,by omega⟩
 unfold zerosL at hst ⊢;simp [Builtin.clear_,run_underlying underlying22,hst]
theorem RowL.cleared {w:World} {g:Nat} {ys:List Ln} (h:RowL w g 0 ys) (k n:Nat):RowL (w.setCells g (k * 4) (zerosL n)) g 0 (ys.take k):=by
 intro j l hj i u hu;have hi:i<4:=by have:=(List.getElem?_eq_some_iff.1 hu).1;rw [zab] at this;exact this
 rw [List.getElem?_take] at hj
 split at hj
 ·next hjk=>
  obtain ⟨h1,h2⟩:=h j l hj i u hu;rw [World.frozen?_setCells,World.cell?_setCells_out g (zerosL n) (k * 4) w ⟨g,0+j * 4+i,none⟩ (fun _ _=>.inl (by dsimp only;omega))]
  exact ⟨h1,h2⟩
 ·cases hj
theorem RowL.isSome {w:World} {g:Nat} {ys:List Ln} (h:RowL w g 0 ys) {t:Nat} (ht:t<ys.length * 4):(w.cell? ⟨g,t,none⟩).isSome=true∧w.frozen? ⟨g,t,none⟩=false:=by
 have hq:t / 4<ys.length:=by omega
 obtain ⟨h1,h2⟩:=h (t / 4) _ (List.getElem?_eq_getElem hq) (t % 4) _ (encL_get! _ _ (Nat.mod_lt _ (by omega)))
 rw [show 0+t / 4 * 4+t % 4=t by omega] at h1 h2
 exact ⟨by rw [h1];rfl,h2⟩
theorem zej {B:Nat} {a:World} (g:Nat) (hB:B≤g):∀ (vs:List Value) (o:Nat) (w:World),Below B a w→Below B a (w.setCells g o vs)
 | [],_,_,h=>h
 | _ :: r,o,_,h=>zej g hB r (o+1) _ (Below.setCell h hB _)
theorem size_setCells' (g:Nat):∀ (vs:List Value) (o:Nat) (w:World),(w.setCells g o vs).heap.size=w.heap.size
 | [],_,_=>rfl
 | _ :: r,_,_=>by rw [World.setCells,size_setCells' g r,World.size_setCell]
set_option maxRecDepth 100000
set_option maxHeartbeats 16000000
theorem RowL.at0 {w:World} {g:Nat} {xs:List Ln} (h:RowL w g 0 xs) {k:Nat} {op d a b:Int} (hk:xs[k]?=some ⟨op,d,a,b⟩) :
  (w.cell? ⟨g,k * 4,none⟩=some (.int .i64 op)∧w.cell? ⟨g,k * 4+1,none⟩=some (.int .i64 d)∧w.cell? ⟨g,k * 4+2,none⟩=some (.int .i64 a)∧w.cell? ⟨g,k * 4+3,none⟩=some (.int .i64 b)) ∧
  (w.frozen? ⟨g,k * 4,none⟩=false∧w.frozen? ⟨g,k * 4+1,none⟩=false∧w.frozen? ⟨g,k * 4+2,none⟩=false∧w.frozen? ⟨g,k * 4+3,none⟩=false):=by
 have:=h.at hk;simpa using this
theorem RowL.atOff {w:World} {g:Nat} {xs:List Ln} (h:RowL w g 0 xs) {p q:Nat} {op d a b:Int} (hk:xs[p+q]?=some ⟨op,d,a,b⟩) :
  w.cell? ⟨g,p * 4+q * 4,none⟩=some (.int .i64 op)∧w.cell? ⟨g,p * 4+q * 4+1,none⟩=some (.int .i64 d)∧w.cell? ⟨g,p * 4+q * 4+2,none⟩=some (.int .i64 a)∧w.cell? ⟨g,p * 4+q * 4+3,none⟩=some (.int .i64 b):=by
 have:=(h.at0 hk).1;rw [show (p+q) * 4=p * 4+q * 4 by omega] at this
 exact this
theorem RowL.set0 {w:World} {g:Nat} {xs:List Ln} (h:RowL w g 0 xs) {k:Nat} (hk:k<xs.length) (l:Ln):RowL (storeL w g (k * 4) l) g 0 (xs.set k l):=by
 have:=h.set hk l
 rwa [Nat.zero_add] at this
theorem zmv (xs:List Ln) (g n cap B:Nat) (w:World) (hn:xs.length=n) (hrow:RowL w g 0 xs) (hg:g<w.heap.size) (hB:B≤g) (hcap:n≤cap) (hm:cap≤9223372036854775807) (R:Ending→World→Prop)
  (hR:∀ w',Below B w w'→g<w'.heap.size→RowL w' g 0 (compL xs)→R (.returned (.slice (some ⟨g,0,none⟩) (compL xs).length cap)) w') :
  Calls Tryz.prog 299 #[.slice (some ⟨g,0,none⟩) n cap] w R:=by
 have HN:=jH hn;have HROW:=jH hrow;have HR:=jH hR;clear hrow hR hn;by_cases h2:n<2
 ·have hc:compL xs=xs:=by
   have hl:=HN.out
   match xs,hl with
   | [],_=>rfl
   | [x],_=>rfl
   | x :: y :: r,hl=>simp at hl;omega
  have hf:=HR.out w (Below.refl _ _) hg (by rw [hc];exact HROW.out)
  rw [hc,HN.out] at hf;have HF:=jH hf;clear hf hc
  go_enter func299,ntmps299
  go_wp2_with fail;exact HF.out
 ·have h2i:¬ (n:Int)<2:=by omega
  have hnm:n≤9223372036854775807:=by omega
  go_enter func299,ntmps299
  go_wp2_with fail
  go_loopw [3] (fun i wr=>∃ k:Nat,1≤k∧k≤n∧i=.int .i64 k∧Below B w wr∧g<wr.heap.size∧RowL wr g 0 xs∧∀ j x y,j+1<k→xs[j]?=some x→xs[j+1]?=some y→y≠x) (fun i _=>n - (intOf i).toNat)
  case atStart=>exact ⟨1,Nat.le_refl _,by omega,rfl,Below.refl _ _,hg,HROW.out,fun j x y hj=>by omega⟩
  case round=>
   obtain ⟨k,hk1,hk,rfl,hb,hgw,hrw,hno⟩:=hrel;have HB:=jH hb;have HRW:=jH hrw;have HNO:=jH hno;clear hb hrw hno;by_cases hlt:k<n
   ·obtain ⟨j,hj⟩:∃ j,k=j+1:=⟨k - 1,by omega⟩
    have hjk:(k:Int) - 1=(j:Int):=by omega
    have qw:IntKind.i64.wrap ((k:Int) - 1)=(j:Int):=by rw [hjk];exact IntWalk.i64_in _ (by omega)
    have hjn:j<n:=by omega
    have hjn2:(j:Int)<(n:Int):=by omega
    have hkn2:(k:Int)<(n:Int):=by omega
    have hj0:(0:Int)≤(j:Int):=by omega
    have hk0:(0:Int)≤(k:Int):=by omega
    have HJ:=jH hj;obtain ⟨⟨op,d,a,b⟩,hy⟩:∃ y,xs[k]?=some y:=⟨_,List.getElem?_eq_getElem (by rw [HN.out];exact hlt)⟩
    obtain ⟨⟨op',d',a',b'⟩,hx⟩:∃ x,xs[j]?=some x:=⟨_,List.getElem?_eq_getElem (by rw [HN.out];exact hjn)⟩
    obtain ⟨⟨c0,c1,c2,c3⟩,_⟩:=HRW.out.at0 hy;obtain ⟨⟨e0,e1,e2,e3⟩,_⟩:=HRW.out.at0 hx;have HX:=jH hx;have HY:=jH hy;clear hj hx hy;by_cases hxy:(⟨op,d,a,b⟩:Ln)=⟨op',d',a',b'⟩
    ·cases hxy;obtain ⟨n2,rfl⟩:∃ n2,n=k+n2:=⟨n - k,by omega⟩
     obtain ⟨cc,rfl⟩:∃ cc,cap=k+cc:=⟨cap - k,by omega⟩
     have hst:compL (xs.take (k+1))=xs.take k:=by
      rw [HJ.out,zig (HX.out) (HJ.out ▸ HY.out),if_pos rfl,List.append_nil];exact zea (j+1) (by rw [HN.out];omega) (fun i x y hi hx hy=>HNO.out i x y (by have:=HJ.out;omega) hx hy)
     have HST:=jH hst;have hn20:0<n2:=by omega
     clear hst;go_wp2_with (go_quiet (fail))
     go_loopw [3,5] (fun kw k2 wr=>∃ (m q:Nat) (ys:List Ln),kw=.int .i64 m∧k2=.int .i64 q∧1≤q∧q≤n2∧m<k+q∧Below B w wr∧g<wr.heap.size∧RowL wr g 0 ys∧ys.length=k+n2∧ys.take m=compL (xs.take (k+q))∧m≤(compL (xs.take (k+q))).length∧ys.drop (k+q - 1)=xs.drop (k+q - 1)) (fun _ k2 _=>n2 - (intOf k2).toNat)
     case atStart=>
      refine ⟨k,1,xs,rfl,rfl,Nat.le_refl _,by omega,by omega,below_drewN HB.out _,by simpa using hgw,HRW.out.grow ((Grow.refl _).drewN _) hgw,HN.out,HST.out.symm,?_,rfl⟩
      rw [HST.out,List.length_take,HN.out];omega
     case round=>
      obtain ⟨m,q,ys,rfl,rfl,hq1,hq,hmq,hb2,hgw2,hrw2,hyl,htk,hml,hdr⟩:=hrel;have HB2:=jH hb2;have HRW2:=jH hrw2;have HYL:=jH hyl;have HTK:=jH htk;have HML:=jH hml;have HDR:=jH hdr;clear hb2 hrw2 hyl htk hml hdr c0 c1 c2 c3 e0 e1 e2 e3;by_cases hql:q<n2
      ·obtain ⟨t,ht⟩:∃ t,q=t+1:=⟨q - 1,by omega⟩
       have hqt:(q:Int) - 1=(t:Int):=by omega
       have qw2:IntKind.i64.wrap ((q:Int) - 1)=(t:Int):=by rw [hqt];exact IntWalk.i64_in _ (by omega)
       have htn:t<n2:=by omega
       have htn2:(t:Int)<(n2:Int):=by omega
       have hqn2:(q:Int)<(n2:Int):=by omega
       have ht0:(0:Int)≤(t:Int):=by omega
       have hq0:(0:Int)≤(q:Int):=by omega
       have hmn:m<k+n2:=by omega
       have hmn2:(m:Int)<((k+n2:Nat):Int):=by omega
       have hmn3:(m:Int)<(k:Int)+(n2:Int):=by omega
       have HT:=jH ht;clear ht;obtain ⟨⟨op,d,a,b⟩,hy⟩:∃ y,xs[k+q]?=some y:=⟨_,List.getElem?_eq_getElem (by rw [HN.out];omega)⟩
       obtain ⟨⟨op',d',a',b'⟩,hx⟩:∃ x,xs[k+t]?=some x:=⟨_,List.getElem?_eq_getElem (by rw [HN.out];omega)⟩
       have hy2:ys[k+q]?=some ⟨op,d,a,b⟩:=by
        have h:=congrArg (fun l=>l[1]?) HDR.out;simp only [List.getElem?_drop] at h;rw [show k+q - 1+1=k+q by omega] at h
        rw [h];exact hy
       have hx2:ys[k+t]?=some ⟨op',d',a',b'⟩:=by
        have h:=congrArg (fun l=>l[0]?) HDR.out;simp only [List.getElem?_drop] at h;have:=HT.out;rw [show k+q - 1+0=k+t by omega] at h
        rw [h];exact hx
       obtain ⟨c0,c1,c2,c3⟩:=HRW2.out.atOff hy2;obtain ⟨e0,e1,e2,e3⟩:=HRW2.out.atOff hx2;have hsn:=zig (k:=k+t) (by exact hx) (by have:=HT.out;rw [show k+t+1=k+q by omega];exact hy)
       rw [show k+t+2=k+(q+1) by have:=HT.out;omega,show k+t+1=k+q by have:=HT.out;omega] at hsn
       have HSN:=jH hsn;clear hy hx hy2 hx2 hsn;have hdr1:ys.drop (k+(q+1) - 1)=xs.drop (k+(q+1) - 1):=by
        have h:=congrArg (fun l=>l.drop 1) HDR.out;simp only [List.drop_drop] at h;rw [show k+q - 1+1=k+(q+1) - 1 by omega] at h
        exact h
       have HDR1:=jH hdr1;clear hdr1;by_cases hxy:(⟨op,d,a,b⟩:Ln)=⟨op',d',a',b'⟩
       ·cases hxy;go_wp2_with (go_quiet (fail));go_roundw
        case rel=>
         refine ⟨m,q+1,ys,rfl,by go_num,by omega,by omega,by omega,below_drewN HB2.out _,by simpa using hgw2,HRW2.out.grow ((Grow.refl _).drewN _) hgw2,HYL.out,?_,?_,HDR1.out⟩
         ·rw [HSN.out,if_pos rfl,List.append_nil];exact HTK.out
         ·rw [HSN.out,if_pos rfl,List.append_nil];exact HML.out
        case measure=>simp [intOf];omega
       ·have HXY:=jH hxy;obtain ⟨⟨mop,md,ma,mb⟩,hmy⟩:∃ y,ys[m]?=some y:=⟨_,List.getElem?_eq_getElem (by rw [HYL.out];exact hmn)⟩
        obtain ⟨⟨m0,m1,m2,m3⟩,⟨z0,z1,z2,z3⟩⟩:=HRW2.out.at0 hmy;clear hxy hmy;by_cases gq0:op=op';rotate_left
        ·have tq1:(op == op')=false:=by simpa using gq0
         have tq2:(op != op')=true:=by simpa using gq0
         go_wp2_with (go_quiet (fail));go_roundw
         case rel=>
          have hrs:=(HRW2.out.grow ((Grow.refl _).drewN nq) hgw2).set0 (k:=m) (by rw [HYL.out];exact hmn) ⟨op,d,a,b⟩
          refine ⟨m+1,q+1,ys.set m ⟨op,d,a,b⟩,by go_num,by go_num,by omega,by omega,by omega,zcc (i:=m * 4) ⟨op,d,a,b⟩ (below_drewN HB2.out nq) hB,?_,hrs,by rw [List.length_set];exact HYL.out,?_,?_,?_⟩
          ·simp only [World.size_setCell];simpa using hgw2
          ·rw [HSN.out,if_neg HXY.out,← HTK.out,List.take_add_one,List.take_set,List.getElem?_set_self (by rw [HYL.out];exact hmn),List.set_eq_of_length_le (by simp;omega)];rfl
          ·rw [HSN.out,if_neg HXY.out,List.length_append];have:=HML.out;simp;omega
          ·rw [List.drop_set_of_lt (by omega)];exact HDR1.out
         case measure=>simp [intOf];omega
        subst gq0;by_cases gq1:d=d';rotate_left
        ·have tq1:(d == d')=false:=by simpa using gq1
         have tq2:(d != d')=true:=by simpa using gq1
         go_wp2_with (go_quiet (fail));go_roundw
         case rel=>
          have hrs:=(HRW2.out.grow ((Grow.refl _).drewN nq) hgw2).set0 (k:=m) (by rw [HYL.out];exact hmn) ⟨op,d,a,b⟩
          refine ⟨m+1,q+1,ys.set m ⟨op,d,a,b⟩,by go_num,by go_num,by omega,by omega,by omega,zcc (i:=m * 4) ⟨op,d,a,b⟩ (below_drewN HB2.out nq) hB,?_,hrs,by rw [List.length_set];exact HYL.out,?_,?_,?_⟩
          ·simp only [World.size_setCell];simpa using hgw2
          ·rw [HSN.out,if_neg HXY.out,← HTK.out,List.take_add_one,List.take_set,List.getElem?_set_self (by rw [HYL.out];exact hmn),List.set_eq_of_length_le (by simp;omega)];rfl
          ·rw [HSN.out,if_neg HXY.out,List.length_append];have:=HML.out;simp;omega
          ·rw [List.drop_set_of_lt (by omega)];exact HDR1.out
         case measure=>simp [intOf];omega
        subst gq1;by_cases gq2:a=a';rotate_left
        ·have tq1:(a == a')=false:=by simpa using gq2
         have tq2:(a != a')=true:=by simpa using gq2
         go_wp2_with (go_quiet (fail));go_roundw
         case rel=>
          have hrs:=(HRW2.out.grow ((Grow.refl _).drewN nq) hgw2).set0 (k:=m) (by rw [HYL.out];exact hmn) ⟨op,d,a,b⟩
          refine ⟨m+1,q+1,ys.set m ⟨op,d,a,b⟩,by go_num,by go_num,by omega,by omega,by omega,zcc (i:=m * 4) ⟨op,d,a,b⟩ (below_drewN HB2.out nq) hB,?_,hrs,by rw [List.length_set];exact HYL.out,?_,?_,?_⟩
          ·simp only [World.size_setCell];simpa using hgw2
          ·rw [HSN.out,if_neg HXY.out,← HTK.out,List.take_add_one,List.take_set,List.getElem?_set_self (by rw [HYL.out];exact hmn),List.set_eq_of_length_le (by simp;omega)];rfl
          ·rw [HSN.out,if_neg HXY.out,List.length_append];have:=HML.out;simp;omega
          ·rw [List.drop_set_of_lt (by omega)];exact HDR1.out
         case measure=>simp [intOf];omega
        subst gq2;by_cases gq3:b=b';rotate_left
        ·have tq1:(b == b')=false:=by simpa using gq3
         have tq2:(b != b')=true:=by simpa using gq3
         go_wp2_with (go_quiet (fail));go_roundw
         case rel=>
          have hrs:=(HRW2.out.grow ((Grow.refl _).drewN nq) hgw2).set0 (k:=m) (by rw [HYL.out];exact hmn) ⟨op,d,a,b⟩
          refine ⟨m+1,q+1,ys.set m ⟨op,d,a,b⟩,by go_num,by go_num,by omega,by omega,by omega,zcc (i:=m * 4) ⟨op,d,a,b⟩ (below_drewN HB2.out nq) hB,?_,hrs,by rw [List.length_set];exact HYL.out,?_,?_,?_⟩
          ·simp only [World.size_setCell];simpa using hgw2
          ·rw [HSN.out,if_neg HXY.out,← HTK.out,List.take_add_one,List.take_set,List.getElem?_set_self (by rw [HYL.out];exact hmn),List.set_eq_of_length_le (by simp;omega)];rfl
          ·rw [HSN.out,if_neg HXY.out,List.length_append];have:=HML.out;simp;omega
          ·rw [List.drop_set_of_lt (by omega)];exact HDR1.out
         case measure=>simp [intOf];omega
        subst gq3;exact absurd rfl HXY.out
      ·have hqe:q=n2:=by omega
       subst hqe;have hmlt:m<k+q:=hmq;have hcl:∀ ty,(Builtin.clear_ #[22] ty #[.slice (some ⟨g,m * 4,none⟩) (k+q - m) (k+cc - m)]).run Tryz.prog wr=.ok (.tuple #[]) (wr.setCells g (m * 4) (zerosL (k+q - m))):=fun ty=>
        zfm wr ty g (m * 4) (k+q - m) (k+cc - m) (by omega) (fun t ht=>(HRW2.out.isSome (by rw [HYL.out];omega)).1) (fun t ht=>(HRW2.out.isSome (by rw [HYL.out];omega)).2)
       have hfin:=HRW2.out.cleared m (k+q - m);rw [HTK.out] at hfin;have hlen:m=(compL (xs.take (k+q))).length:=by
        rw [← HTK.out,List.length_take,HYL.out];omega
       have hall:compL (xs.take (k+q))=compL xs:=by rw [List.take_of_length_le (by rw [HN.out];exact Nat.le_refl _)]
       rw [hall] at hfin hlen;have hf:=HR.out _ (zej g hB _ _ _ HB2.out) (by rw [size_setCells'];exact hgw2) hfin
       rw [← hlen] at hf;have HF:=jH hf;have hm2:(m:Int)≤((k+q:Nat):Int):=by omega
       have hm3:(m:Int)≤(k:Int)+(q:Int):=by omega
       have hm4:m≤k+q:=by omega
       have hm5:m≤k+cc:=by omega
       clear hf hfin hlen hall;go_wp2_with fail;exact HF.out
    ·have HXY:=jH hxy;clear hxy;by_cases gq0:op=op';rotate_left
     ·have tq1:(op == op')=false:=by simpa using gq0
      have tq2:(op != op')=true:=by simpa using gq0
      go_wp2_with (go_quiet (fail));go_roundw
      case rel=>
       refine ⟨k+1,by omega,by omega,by go_num,below_drewN HB.out _,by simpa using hgw,HRW.out.grow ((Grow.refl _).drewN _) hgw,fun i x y hi hx hy=>?_⟩
       by_cases e:i=j
       ·subst e;rw [HX.out] at hx;rw [← HJ.out,HY.out] at hy;cases hx;cases hy;exact HXY.out
       ·exact HNO.out i x y (by have:=HJ.out;omega) hx hy
      case measure=>simp [intOf];omega
     subst gq0;by_cases gq1:d=d';rotate_left
     ·have tq1:(d == d')=false:=by simpa using gq1
      have tq2:(d != d')=true:=by simpa using gq1
      go_wp2_with (go_quiet (fail));go_roundw
      case rel=>
       refine ⟨k+1,by omega,by omega,by go_num,below_drewN HB.out _,by simpa using hgw,HRW.out.grow ((Grow.refl _).drewN _) hgw,fun i x y hi hx hy=>?_⟩
       by_cases e:i=j
       ·subst e;rw [HX.out] at hx;rw [← HJ.out,HY.out] at hy;cases hx;cases hy;exact HXY.out
       ·exact HNO.out i x y (by have:=HJ.out;omega) hx hy
      case measure=>simp [intOf];omega
     subst gq1;by_cases gq2:a=a';rotate_left
     ·have tq1:(a == a')=false:=by simpa using gq2
      have tq2:(a != a')=true:=by simpa using gq2
      go_wp2_with (go_quiet (fail));go_roundw
      case rel=>
       refine ⟨k+1,by omega,by omega,by go_num,below_drewN HB.out _,by simpa using hgw,HRW.out.grow ((Grow.refl _).drewN _) hgw,fun i x y hi hx hy=>?_⟩
       by_cases e:i=j
       ·subst e;rw [HX.out] at hx;rw [← HJ.out,HY.out] at hy;cases hx;cases hy;exact HXY.out
       ·exact HNO.out i x y (by have:=HJ.out;omega) hx hy
      case measure=>simp [intOf];omega
     subst gq2;by_cases gq3:b=b';rotate_left
     ·have tq1:(b == b')=false:=by simpa using gq3
      have tq2:(b != b')=true:=by simpa using gq3
      go_wp2_with (go_quiet (fail));go_roundw
      case rel=>
       refine ⟨k+1,by omega,by omega,by go_num,below_drewN HB.out _,by simpa using hgw,HRW.out.grow ((Grow.refl _).drewN _) hgw,fun i x y hi hx hy=>?_⟩
       by_cases e:i=j
       ·subst e;rw [HX.out] at hx;rw [← HJ.out,HY.out] at hy;cases hx;cases hy;exact HXY.out
       ·exact HNO.out i x y (by have:=HJ.out;omega) hx hy
      case measure=>simp [intOf];omega
     subst gq3;exact absurd rfl HXY.out
   ·have hke:k=n:=by omega
    have hc:compL xs=xs:=by
     have:=zea (xs:=xs) k (by rw [HN.out];omega) (fun j x y hj hx hy=>HNO.out j x y hj hx hy)
     rwa [List.take_of_length_le (by rw [HN.out];omega)] at this
    have hf:=HR.out wr HB.out hgw (by rw [hc];exact HRW.out)
    rw [hc,HN.out] at hf;have HF:=jH hf;clear hf hc;subst hke;go_wp2_with fail;exact HF.out
set_option maxRecDepth 100000
set_option maxHeartbeats 8000000
def prL (but x:Ln):Bool:=decide (x=but) || !x.ok
def ButAt (w:World) (cb:Nat) (but:Ln):Prop:=w.heap[cb]?=some (.cells #[.int .i64 but.op,.int .i64 but.d,.int .i64 but.a,.int .i64 but.b] 57 (0,0))
theorem ButAt.grow {w w':World} {cb:Nat} {but:Ln} (h:ButAt w cb but) (g:Grow w w'):ButAt w' cb but:=g.blk h
theorem ButAt.store {w:World} {cb g p:Nat} {but:Ln} (h:ButAt w cb but) (hne:cb≠g) (l:Ln):ButAt (storeL w g p l) cb but:=(zpv w g p cb l hne).trans h
theorem zmn (x but:Ln) (cb:Nat) (w:World) (hb:ButAt w cb but) (R:Ending→World→Prop) (hR:∀ w',Grow w w'→R (.returned (.bool (prL but x))) w') :
  Calls Tryz.prog 295 #[.agg #[.int .i64 x.op,.int .i64 x.d,.int .i64 x.a,.int .i64 x.b],.pointer (some ⟨cb,0,none⟩)] w R:=
 zto x.op x.d x.a x.b but.op but.d but.a but.b cb w hb R hR
theorem zkv {xs:List Ln} {f:Ln→Bool} {k:Nat} {x:Ln} (h:∀ l∈xs.take k,f l=false) (hx:xs[k]?=some x) (hf:f x=false):∀ l∈xs.take (k+1),f l=false:=by
 intro l hl;rw [List.take_add_one,hx] at hl;rcases List.mem_append.1 hl with hl | hl
 ·exact h l hl
 ·simp at hl;subst hl;exact hf
theorem ztl (xs:List Ln) (but:Ln) (g n cap cb:Nat) (w:World) (hn:xs.length=n) (hnm:n≤9223372036854775807) (hrow:RowL w g 0 xs) (hg:g<w.heap.size) (hbut:ButAt w cb but) (R:Ending→World→Prop)
  (hR1:∀ w' k x,Grow w w'→xs[k]?=some x→prL but x=true→(∀ y∈xs.take k,prL but y=false)→R (.returned (.int .i64 (k:Int))) w')
  (hR2:∀ w',Grow w w'→(∀ y∈xs,prL but y=false)→R (.returned (.int .i64 (-1))) w') :
  Calls Tryz.prog 300 #[.slice (some ⟨g,0,none⟩) n cap,.func (.func 295) #[] #[.pointer (some ⟨cb,0,none⟩)]] w R:=by
 have HN:=jH hn;have HROW:=jH hrow;have HR1:=jH hR1;have HR2:=jH hR2;have HBUT:=jH hbut;have eg:=enters_of func295 (by kernel_rfl) rfl
 clear hn hrow hR1 hR2 hbut
 go_enter func300,ntmps300
 go_wp2_with fail
 go_loopw [8] (fun i wr=>∃ k:Nat,k≤n∧i=.int .i64 k∧Grow w wr∧∀ y∈xs.take k,prL but y=false) (fun i _=>n - (intOf i).toNat)
 case atStart=>exact ⟨0,Nat.zero_le _,rfl,Grow.refl _,by simp⟩
 case round=>
  obtain ⟨k,hk,rfl,hgr,hno⟩:=hrel;have HG:=jH hgr;have HNO:=jH hno;have hz:=hgr.sz;clear hgr hno;by_cases hlt:k<n
  ·obtain ⟨x,hx⟩:∃ x,xs[k]?=some x:=⟨_,List.getElem?_eq_getElem (by rw [HN.out];exact hlt)⟩
   obtain ⟨⟨c0,c1,c2,c3⟩,_⟩:=(HROW.out.grow HG.out hg).at0 (k:=k) (op:=x.op) (d:=x.d) (a:=x.a) (b:=x.b) hx;have hgw:g<wr.heap.size:=by omega
   have hkn:(k:Int)<(n:Int):=by omega
   have HX:=jH hx;clear hx;cases hp:prL but x with
   | true=>
    have HP:=jH hp;clear hp;go_wp2_with fail;refine zmn x but cb _ (HBUT.out.grow HG.out) _ ?_;intro w1 hg1;rw [HP.out];have HF:=jH (HR1.out w1 k x (HG.out.trans hg1) HX.out HP.out HNO.out);clear hg1;go_wp2_with fail;exact HF.out
   | false=>
    have HP:=jH hp;clear hp;go_wp2_with fail;refine zmn x but cb _ (HBUT.out.grow HG.out) _ ?_;intro w1 hg1;rw [HP.out];have HG1:=jH (HG.out.trans hg1);clear hg1;go_wp2_with fail;go_roundw
    case rel=>exact ⟨k+1,by omega,by go_num,HG1.out,zkv HNO.out HX.out HP.out⟩
    case measure=>simp [intOf];omega
  ·have HF:=jH (HR2.out wr HG.out (fun y hy=>HNO.out y (by rw [List.take_of_length_le (by rw [HN.out];omega)];exact hy)))
   go_wp2_with fail;exact HF.out
theorem zoq {pr:Ln→Bool} {xs:List Ln} (h:∀ y∈xs,pr y=false):keepL pr xs=xs:=by
 unfold keepL;rw [List.filter_eq_self];intro y hy;rw [h y hy];rfl
theorem zpy (xs:List Ln) (but:Ln) (g n cap cb B:Nat) (w:World) (hn:xs.length=n) (hcap:n≤cap) (hm:cap≤9223372036854775807) (hrow:RowL w g 0 xs) (hg:g<w.heap.size) (hB:B≤g) (hbut:ButAt w cb but) (hne:cb≠g) (R:Ending→World→Prop)
  (hR:∀ w',Below B w w'→g<w'.heap.size→RowL w' g 0 (keepL (prL but) xs)→R (.returned (.slice (some ⟨g,0,none⟩) (keepL (prL but) xs).length cap)) w') :
  Calls Tryz.prog 294 #[.slice (some ⟨g,0,none⟩) n cap,.func (.func 295) #[] #[.pointer (some ⟨cb,0,none⟩)]] w R:=by
 have HN:=jH hn;have HROW:=jH hrow;have HR:=jH hR;have HBUT:=jH hbut;have eg:=enters_of func295 (by kernel_rfl) rfl
 clear hn hrow hR hbut
 go_enter func294,ntmps294
 go_wp2_with fail;refine ztl xs but g n cap cb _ HN.out (by omega) HROW.out hg HBUT.out _ ?_ ?_
 ·intro w1 k x hg1 hx hp hno;have hkn:k<n:=by rw [← HN.out];exact (List.getElem?_eq_some_iff.1 hx).1
  have hst:keepL (prL but) (xs.take (k+1))=xs.take k:=by
   rw [zlq hx,hp,if_pos rfl,List.append_nil];exact zoq hno
  have HST:=jH hst;have HG1:=jH hg1;have hgw1:g<w1.heap.size:=by have:=hg1.sz;omega
  have t1:((k:Int) == -1)=false:=by simp
  have t2:((k:Int) != -1)=true:=by simp
  clear hx hp hno hst hg1;go_wp2_with fail
  go_loopw [5,6] (fun iv jv wr=>∃ (m q:Nat) (ys:List Ln),iv=.int .i64 m∧jv=.int .i64 q∧q≤n∧m<q∧Below B w wr∧g<wr.heap.size∧ButAt wr cb but∧RowL wr g 0 ys∧ys.length=n∧ys.take m=keepL (prL but) (xs.take q)∧m≤(keepL (prL but) (xs.take q)).length∧ys.drop q=xs.drop q) (fun _ jv _=>n - (intOf jv).toNat)
  case atStart=>
   refine ⟨k,k+1,xs,rfl,by go_num,by omega,by omega,HG1.out.below (by omega),hgw1,HBUT.out.grow HG1.out,HROW.out.grow HG1.out hg,HN.out,HST.out.symm,?_,rfl⟩
   rw [HST.out,List.length_take,HN.out];omega
  case round=>
   obtain ⟨m,q,ys,rfl,rfl,hq,hmq,hb2,hgw2,hbu,hrw2,hyl,htk,hml,hdr⟩:=hrel;have HB2:=jH hb2;have HBU:=jH hbu;have HRW2:=jH hrw2;have HYL:=jH hyl;have HTK:=jH htk;have HML:=jH hml;have HDR:=jH hdr;clear hb2 hbu hrw2 hyl htk hml hdr t1 t2;by_cases hql:q<n
   ·have hqn:(q:Int)<(n:Int):=by omega
    have hmn:m<n:=by omega
    have hmn2:(m:Int)<(n:Int):=by omega
    obtain ⟨x,hx⟩:∃ x,xs[q]?=some x:=⟨_,List.getElem?_eq_getElem (by rw [HN.out];exact hql)⟩
    have hy2:ys[q]?=some x:=by
     have h:=congrArg (fun l=>l[0]?) HDR.out;simp only [List.getElem?_drop,Nat.add_zero] at h;rw [h];exact hx
    obtain ⟨⟨c0,c1,c2,c3⟩,_⟩:=HRW2.out.at0 (k:=q) (op:=x.op) (d:=x.d) (a:=x.a) (b:=x.b) hy2;have hsn:=zlq (pr:=prL but) hx;have HSN:=jH hsn;have hdr1:ys.drop (q+1)=xs.drop (q+1):=by
     have h:=congrArg (fun l=>l.drop 1) HDR.out;simp only [List.drop_drop] at h;exact h
    have HDR1:=jH hdr1;clear hx hy2 hsn hdr1;cases hp:prL but x with
    | true=>
     have HP:=jH hp;clear hp;go_wp2_with fail;refine zmn x but cb _ (HBU.out.grow ((Grow.refl _).alloc _)) _ ?_;intro w2 hg2;rw [HP.out];have HG2:=jH (((Grow.refl wr).alloc _).trans hg2);clear hg2;go_wp2_with fail;go_roundw
     case rel=>
      refine ⟨m,q+1,ys,rfl,by go_num,by omega,by omega,Below.of_grow HB2.out HG2.out (by omega),by have:=HG2.out.sz;omega,HBU.out.grow HG2.out,HRW2.out.grow HG2.out hgw2,HYL.out,?_,?_,HDR1.out⟩
      ·rw [HSN.out,HP.out,if_pos rfl,List.append_nil];exact HTK.out
      ·rw [HSN.out,HP.out,if_pos rfl,List.append_nil];exact HML.out
     case measure=>simp [intOf];omega
    | false=>
     have HP:=jH hp;clear hp;go_wp2_with fail;refine zmn x but cb _ (HBU.out.grow ((Grow.refl _).alloc _)) _ ?_;intro w2 hg2;rw [HP.out];have hbx:=hg2.blk (heap_alloc_new wr (.cells #[.int .i64 x.op,.int .i64 x.d,.int .i64 x.a,.int .i64 x.b] 57));obtain ⟨b0,b1,b2,b3⟩:=box4 hbx;have hzb:=lt_of_block hbx;have HG2:=jH (((Grow.refl wr).alloc _).trans hg2);have hrw3:=HRW2.out.grow HG2.out hgw2;have hgw3:g<w2.heap.size:=by have:=HG2.out.sz;omega
     obtain ⟨⟨mop,md,ma,mb⟩,hmy⟩:∃ y,ys[m]?=some y:=⟨_,List.getElem?_eq_getElem (by rw [HYL.out];exact hmn)⟩
     obtain ⟨⟨m0,m1,m2,m3⟩,⟨z0,z1,z2,z3⟩⟩:=hrw3.at0 hmy;have HRW3:=jH hrw3;have hne2:wr.heap.size≠g:=by omega
     have hne3:g≠wr.heap.size:=by omega
     clear hg2 hbx hrw3 hmy;go_wp2_with fail;go_roundw
     case rel=>
      have hrs:=HRW3.out.set0 (k:=m) (by rw [HYL.out];exact hmn) x
      refine ⟨m+1,q+1,ys.set m x,by go_num,by go_num,by omega,by omega,zcc (i:=m * 4) x (Below.of_grow HB2.out HG2.out (by omega)) hB,?_,(HBU.out.grow HG2.out).store (p:=m * 4) hne x,hrs,by rw [List.length_set];exact HYL.out,?_,?_,?_⟩
      ·simp only [World.size_setCell];exact hgw3
      ·rw [HSN.out,HP.out,if_neg (by simp),← HTK.out,List.take_add_one,List.take_set,List.getElem?_set_self (by rw [HYL.out];exact hmn),List.set_eq_of_length_le (by simp;omega)];rfl
      ·rw [HSN.out,HP.out,if_neg (by simp),List.length_append];have:=HML.out;simp;omega
      ·rw [List.drop_set_of_lt (by omega)];exact HDR1.out
     case measure=>simp [intOf];omega
   ·have hqe:q=n:=by omega
    subst hqe;have hcl:∀ ty,(Builtin.clear_ #[22] ty #[.slice (some ⟨g,m * 4,none⟩) (q - m) (cap - m)]).run Tryz.prog wr=.ok (.tuple #[]) (wr.setCells g (m * 4) (zerosL (q - m))):=fun ty=>
     zfm wr ty g (m * 4) (q - m) (cap - m) (by omega) (fun t ht=>(HRW2.out.isSome (by rw [HYL.out];omega)).1) (fun t ht=>(HRW2.out.isSome (by rw [HYL.out];omega)).2)
    have hfin:=HRW2.out.cleared m (q - m);rw [HTK.out] at hfin;have hlen:m=(keepL (prL but) (xs.take q)).length:=by
     rw [← HTK.out,List.length_take,HYL.out];omega
    have hall:keepL (prL but) (xs.take q)=keepL (prL but) xs:=by rw [List.take_of_length_le (by rw [HN.out];exact Nat.le_refl _)]
    rw [hall] at hfin hlen;have hf:=HR.out _ (zej g hB _ _ _ HB2.out) (by rw [size_setCells'];exact hgw2) hfin
    rw [← hlen] at hf;have HF:=jH hf;have hm2:(m:Int)≤(q:Int):=by omega
    have hm4:m≤q:=by omega
    have hm5:m≤cap:=by omega
    clear hf hfin hlen hall;go_wp2_with fail;exact HF.out
 ·intro w1 hg1 hno;have hk:=zoq hno;have hf:=HR.out w1 (hg1.below (by omega)) (by have:=hg1.sz;omega) (by rw [hk];exact HROW.out.grow hg1 hg)
  rw [hk,HN.out] at hf;have HF:=jH hf;clear hf hk hno hg1;go_wp2_with fail;exact HF.out
set_option maxHeartbeats 4000000
theorem zjz (xs:List Ln) (g n cap B:Nat) (w:World) (hn:xs.length=n) (hrow:RowL w g 0 xs) (hg:g<w.heap.size) (hB:B≤g) (hcap:n≤cap) (hm:cap≤9223372036854775807) (hsm:n<4611686018427387904) (R:Ending→World→Prop)
  (hR:∀ w',Below B w w'→g<w'.heap.size→RowL w' g 0 (ordL xs)→R (.returned (.slice (some ⟨g,0,none⟩) (ordL xs).length cap)) w') :
  Calls Tryz.prog 293 #[.slice (some ⟨g,0,none⟩) n cap,.func (.func 282) #[] #[]] w R:=by
 subst hn;have HR:=jH hR;have HROW:=jH hrow;clear hR hrow
 go_enter func293,ntmps293
 go_wp2_with fail;refine zug xs g cap B _ HROW.out hg hB hsm _ ?_;intro w1 ys hb1 hg1 hr1 hl1 hm1 hw1;have HB1:=jH hb1;have HR1:=jH hr1;have hc:compL ys=ordL xs:=(zxx hw1).trans (zvt hm1);have HC:=jH hc;clear hb1 hr1 hm1 hw1 hc;go_wp2_with fail;refine zmv ys g _ cap B _ hl1 HR1.out hg1 hB hcap hm _ ?_;intro w2 hb2 hg2 hr2;rw [HC.out] at hr2 ⊢;have HF:=jH (HR.out w2 (Below.trans HB1.out hb2) hg2 hr2);clear hb2 hr2;go_wp2_with fail;exact HF.out
theorem zch (xs:List Ln) (op d a b:Int) (g n cap B:Nat) (w:World) (hn:xs.length=n) (hrow:RowL w g 0 xs) (hg:g<w.heap.size) (hB:B≤g) (hcap:n≤cap) (hm:cap≤9223372036854775807) (hsm:n<4611686018427387904) (R:Ending→World→Prop)
  (hR:∀ w',Below B w w'→g<w'.heap.size→RowL w' g 0 (validL xs ⟨op,d,a,b⟩)→R (.returned (.slice (some ⟨g,0,none⟩) (validL xs ⟨op,d,a,b⟩).length cap)) w') :
  Calls Tryz.prog 278 #[.slice (some ⟨g,0,none⟩) n cap,.agg #[.int .i64 op,.int .i64 d,.int .i64 a,.int .i64 b]] w R:=by
 have HR:=jH hR;have HROW:=jH hrow;have hv:validL xs ⟨op,d,a,b⟩=ordL (keepL (prL ⟨op,d,a,b⟩) xs):=rfl;rw [hv] at HR;have hk:=zwm (prL ⟨op,d,a,b⟩) xs;clear hR hrow hv
 go_enter func278,ntmps278
 go_wp2_with fail;refine zpy xs ⟨op,d,a,b⟩ g n cap w.heap.size B _ hn hcap hm (HROW.out.grow ((Grow.refl _).alloc _) hg) (by rw [World.size_alloc];omega) hB (heap_alloc_new _ _) (by omega) _ ?_
 intro w1 hb1 hg1 hr1;have HB1:=jH (Below.trans (((Grow.refl w).alloc _).below (B:=B) (by omega)) hb1)
 have HR1:=jH hr1;clear hb1 hr1;go_wp2_with fail;refine zjz _ g _ cap B _ rfl HR1.out hg1 hB (by omega) hm (by omega) _ ?_
 intro w2 hb2 hg2 hr2;have HF:=jH (HR.out w2 (Below.trans HB1.out hb2) hg2 hr2);clear hb2 hr2;go_wp2_with fail;exact HF.out
theorem zfg (op d a b:Int) (bl:Nat) (w:World) (hop:op=1) (hb:w.heap[bl]?=some (.cells #[.int .i64 op,.int .i64 d,.int .i64 a,.int .i64 b] 57 (0,0))) (R:Ending→World→Prop)
  (hR:∀ w',Grow w w'→w'.heap[w.heap.size]?=some (.cells #[.pointer (some ⟨bl,1,none⟩)] 339 (0,0))→R (.returned (.slice (some ⟨w.heap.size,0,none⟩) 1 1)) w') :
  Calls Tryz.prog 277 #[.pointer (some ⟨bl,0,none⟩)] w R:=by
 have HR:=jH hR;obtain ⟨e0,e1,e2,e3⟩:=box4 hb;have hz:=lt_of_block hb;clear hR hb;subst hop
 go_enter func277,ntmps277
 go_wp2_with fail;exact HR.out _ ((Grow.refl _).alloc _) (heap_alloc_new _ _)
theorem zdb (op d a b:Int) (bl:Nat) (w:World) (hop:op=2) (hb:w.heap[bl]?=some (.cells #[.int .i64 op,.int .i64 d,.int .i64 a,.int .i64 b] 57 (0,0))) (R:Ending→World→Prop)
  (hR:∀ w',Grow w w'→w'.heap[w.heap.size]?=some (.cells #[.pointer (some ⟨bl,1,none⟩),.pointer (some ⟨bl,2,none⟩)] 339 (0,0))→R (.returned (.slice (some ⟨w.heap.size,0,none⟩) 2 2)) w') :
  Calls Tryz.prog 277 #[.pointer (some ⟨bl,0,none⟩)] w R:=by
 have HR:=jH hR;obtain ⟨e0,e1,e2,e3⟩:=box4 hb;have hz:=lt_of_block hb;clear hR hb;subst hop
 go_enter func277,ntmps277
 go_wp2_with fail
 go_region
 all_goals (go_wp2_with fail)
 all_goals (first | exact HR.out _ (((Grow.refl _).drew).alloc _) (heap_alloc_new _ _) | exact HR.out _ (((Grow.refl _).alloc _).drew) (heap_alloc_new _ _))
theorem zda (op d a b:Int) (bl:Nat) (w:World) (hop:op=7) (hb:w.heap[bl]?=some (.cells #[.int .i64 op,.int .i64 d,.int .i64 a,.int .i64 b] 57 (0,0))) (R:Ending→World→Prop)
  (hR:∀ w',Grow w w'→w'.heap[w.heap.size]?=some (.cells #[.pointer (some ⟨bl,2,none⟩),.pointer (some ⟨bl,3,none⟩)] 339 (0,0))→R (.returned (.slice (some ⟨w.heap.size,0,none⟩) 2 2)) w') :
  Calls Tryz.prog 277 #[.pointer (some ⟨bl,0,none⟩)] w R:=by
 have HR:=jH hR;obtain ⟨e0,e1,e2,e3⟩:=box4 hb;have hz:=lt_of_block hb;clear hR hb;subst hop
 go_enter func277,ntmps277
 go_wp2_with fail
 go_region
 all_goals (go_wp2_with fail)
 all_goals (first | exact HR.out _ (((Grow.refl _).drew).alloc _) (heap_alloc_new _ _) | exact HR.out _ (((Grow.refl _).alloc _).drew) (heap_alloc_new _ _))
theorem zcl (op d a b:Int) (bl:Nat) (w:World) (hop:3≤op∧op≤6) (hb:w.heap[bl]?=some (.cells #[.int .i64 op,.int .i64 d,.int .i64 a,.int .i64 b] 57 (0,0))) (R:Ending→World→Prop)
  (hR:∀ w',Grow w w'→w'.heap[w.heap.size]?=some (.cells #[.pointer (some ⟨bl,1,none⟩),.pointer (some ⟨bl,2,none⟩),.pointer (some ⟨bl,3,none⟩)] 339 (0,0))→R (.returned (.slice (some ⟨w.heap.size,0,none⟩) 3 3)) w') :
  Calls Tryz.prog 277 #[.pointer (some ⟨bl,0,none⟩)] w R:=by
 have HR:=jH hR;obtain ⟨e0,e1,e2,e3⟩:=box4 hb;have hz:=lt_of_block hb;clear hR hb;obtain ⟨h3,h6⟩:=hop;have t1:(op == 1)=false:=by simp;omega
 have t2:(op == 2)=false:=by simp;omega
 have t7:(op == 7)=false:=by simp;omega
 have t0:(op == 0)=false:=by simp;omega
 go_enter func277,ntmps277
 go_wp2_with fail
 go_region
 all_goals (go_wp2_with fail)
 all_goals (first | exact HR.out _ (((Grow.refl _).drew).alloc _) (heap_alloc_new _ _) | exact HR.out _ (((Grow.refl _).alloc _).drew) (heap_alloc_new _ _))
theorem zar:(Tryz.prog.info? 57).map (fun i=>(i.zero,i.size,i.bytes))=some (some (.agg #[.int .i64 0,.int .i64 0,.int .i64 0,.int .i64 0]),4,32):=by kernel_rfl
structure TI (w:World) (l:Ln) (xs:List Ln) (out:Value) (wr:World):Prop where
 g:Grow w wr
 bx:wr.heap[w.heap.size]?=some (.cells #[.int .i64 l.op,.int .i64 l.d,.int .i64 l.a,.int .i64 l.b] 57 (0,0))
 ow:wr.ownsRow (w.heap.size+1) 57 4 out xs.length (xs.flatMap encL)
theorem TI.grow {w:World} {l:Ln} {xs:List Ln} {out:Value} {wr W:World} (h:TI w l xs out wr) (g:Grow wr W):TI w l xs out W:=⟨h.g.trans g,g.blk h.bx,g.owns h.ow⟩
theorem TI.sz {w:World} {l:Ln} {xs:List Ln} {out:Value} {wr:World} (h:TI w l xs out wr):w.heap.size+1≤wr.heap.size:=lt_of_block h.bx
theorem TI.app {w:World} {l y:Ln} {xs:List Ln} {out out':Value} {wr W w2:World} (h:TI w l xs out wr) (g:Grow wr W) (ho:w2.ownsRow (w.heap.size+1) 57 4 out' (xs++[y]).length ((xs++[y]).flatMap encL)) (hg:W.grownBy w2 out.ownBlock):TI w l (xs++[y]) out' w2:=
 have h2:=h.grow g
 ⟨zae h2.ow hg (by omega) h2.g.sz h2.g,zev h2.ow hg (by omega) h2.bx,ho⟩
theorem zan (W:World) (n:Nat) (hn:W.heap.size=n) (cs:List Value) (t:TypeId):∀ j v,cs[j]?=some v→(W.alloc (.cells cs.toArray t)).cell? ((⟨n,0,none⟩:Addr).add j)=some v:=hn ▸ zbj W cs t
theorem frz {w:World} {b:Nat} {cs:Array Value} {e:TypeId} (h:w.heap[b]?=some (.cells cs e (0,0))) (o:Nat):w.frozen? ⟨b,o,none⟩=false:=by
 unfold World.frozen?;simp only [h];rfl
theorem cellOf {w:World} {b:Nat} {cs:Array Value} {e:TypeId} (h:w.heap[b]?=some (.cells cs e (0,0))) (o:Nat) {v:Value} (hv:cs[o]?=some v):w.cell? ⟨b,o,none⟩=some v:=by
 unfold World.cell?;simp only [h];exact hv
theorem TI.end_ {w:World} {l:Ln} {xs:List Ln} {out:Value} {wr:World} (h:TI w l xs out wr) (hp:0<xs.length):∃ g cap,out=.slice (some ⟨g,0,none⟩) xs.length cap∧w.heap.size+1≤g∧g<wr.heap.size∧xs.length≤cap∧cap≤9223372036854775807∧RowL wr g 0 xs:=by
 have hr:=h.ow;rcases h.ow.2 with ⟨_,h0⟩ | ⟨g,cap,cur,rfl,hg,hh,_⟩
 ·omega
 ·obtain ⟨_,c,e,h1,h2,_⟩:=zaa zab h.ow;cases e;exact ⟨g,cap,rfl,hg,lt_of_block hh,h1,h2,RowL.of_own h.ow⟩
theorem zbg (pre:List Ln) (f:Nat→Ln) (r:Nat):pre++(List.range (r+1)).map f=pre++(List.range r).map f++[f r]:=by
 rw [List.range_succ,List.map_append,List.append_assoc];rfl
theorem ztb (x:Ln):∀ l,(insL x l).length≤l.length+1
 | []=>by simp [insL]
 | y :: r=>by
  unfold insL;have:=ztb x r
  split
  ·simp
  ·split<;>simp<;>omega
theorem zrm (xs:List Ln):(ordL xs).length≤xs.length:=by
 unfold ordL
 induction xs with
 | nil=>simp
 | cons x r ih=>have:=ztb x (r.foldr insL []);simp only [List.foldr_cons,List.length_cons];omega
theorem zcg (xs:List Ln) (but:Ln):(validL xs but).length≤xs.length:=Nat.le_trans (zrm _) (List.length_filter_le _ _)
set_option maxRecDepth 100000
set_option maxHeartbeats 16000000
structure AL (w:World) (xs:List Ln) (out:Value) (wr:World):Prop where
 g:Grow w wr
 ow:wr.ownsRow w.heap.size 57 4 out xs.length (xs.flatMap encL)
theorem AL.grow {w:World} {xs:List Ln} {out:Value} {wr W:World} (h:AL w xs out wr) (g:Grow wr W):AL w xs out W:=⟨h.g.trans g,g.owns h.ow⟩
theorem AL.app {w:World} {y:Ln} {xs:List Ln} {out out':Value} {wr W w2:World} (h:AL w xs out wr) (g:Grow wr W) (ho:w2.ownsRow w.heap.size 57 4 out' (xs++[y]).length ((xs++[y]).flatMap encL)) (hg:W.grownBy w2 out.ownBlock):AL w (xs++[y]) out' w2:=
 have h2:=h.grow g
 ⟨zae h2.ow hg (by omega) h2.g.sz h2.g,ho⟩
theorem AL.end_ {w:World} {xs:List Ln} {out:Value} {wr:World} (h:AL w xs out wr) (hp:0<xs.length):∃ g cap,out=.slice (some ⟨g,0,none⟩) xs.length cap∧w.heap.size≤g∧g<wr.heap.size∧xs.length≤cap∧cap≤9223372036854775807∧RowL wr g 0 xs:=by
 have hr:=h.ow;rcases h.ow.2 with ⟨_,h0⟩ | ⟨g,cap,cur,rfl,hg,hh,_⟩
 ·omega
 ·obtain ⟨_,c,e,h1,h2,_⟩:=zaa zab h.ow;cases e;exact ⟨g,cap,rfl,hg,lt_of_block hh,h1,h2,RowL.of_own h.ow⟩
theorem zdg {α:Type} (f:Nat→List α) (m:Nat) (h:∀ k,(f k).length≤m):∀ n,((List.range n).flatMap f).length≤m * n
 | 0=>by simp
 | n+1=>by
  rw [zcf,List.length_append];have:=zdg f m h n;have:=h n;rw [Nat.mul_succ];omega
theorem okOf_len (l:Ln):(okOf l).length≤1:=by unfold okOf;split<;>simp
theorem zsb (op d a:Int) (n:Nat):(allB op d a n).length≤n:=by have:=zdg (fun b:Nat=>okOf ⟨op,d,a,(b:Int)⟩) 1 (fun _=>okOf_len _) n;unfold allB;omega
theorem ztd (op d:Int) (n:Nat):(allA op d n).length≤4 * n:=zdg (fun a:Nat=>allB op d ((a:Int) - 9) 4) 4 (fun _=>zsb _ _ _ _) n
theorem zsj (op:Int) (n:Nat):(allD op n).length≤76 * n:=zdg (fun d:Nat=>allA op (d:Int) 19) 76 (fun d=>Nat.le_trans (ztd op (d:Int) 19) (by omega)) n
theorem zsf (n:Nat):(allO n).length≤684 * n:=zdg (fun o:Nat=>allD (o:Int) 9) 684 (fun o=>Nat.le_trans (zsj (o:Int) 9) (by omega)) n
theorem all_len (o j m r:Nat) (x:Int) (ho:o<8) (hj:j<9) (hm:m<19) (hr:r<4):(allO o++allD o j++allA o j m++allB o j x r).length<100000000000:=by
 have h1:=zsf o;have h2:=zsj o j;have h3:=ztd o j m;have h4:=zsb o j x r;simp only [List.length_append];omega
theorem All_any (w:World) (R:Ending→World→Prop)
  (hR:∀ w' g cap,Below w.heap.size w w'→w.heap.size≤g→g<w'.heap.size→allR.length≤cap→cap≤9223372036854775807→RowL w' g 0 allR→R (.returned (.slice (some ⟨g,0,none⟩) allR.length cap)) w') :
  Calls Tryz.prog 291 #[] w R:=by
 have HR:=jH hR;clear hR
 go_enter func291,ntmps291
 go_wp2_with fail
 go_loopw [1,2] (fun out op wr=>∃ o:Nat,o≤8∧op=.int .i64 o∧AL w (allO o) out wr) (fun _ op _=>(8 - intOf op).toNat)
 case atStart=>exact ⟨0,by omega,rfl,Grow.refl _,World.ownsRow_nil _ _ _ _⟩
 case round=>
  obtain ⟨o,ho,rfl,ha⟩:=hrel;have HA:=jH ha;clear ha;by_cases hlt:o<8
  ·have hlt2:(o:Int)≤7:=by omega
   go_wp2_with fail;obtain ⟨wo,rfl⟩:∃ wo:World,wo=wr:=⟨_,rfl⟩
   go_loopw [1,11] (fun out d wr=>∃ j:Nat,j≤9∧d=.int .i64 j∧AL w (allO o++allD o j) out wr) (fun _ d _=>(9 - intOf d).toNat)
   case atStart=>exact ⟨0,by omega,rfl,by show AL w (allO o++[]) _ _;rw [List.append_nil];exact HA.out⟩
   case round=>
    obtain ⟨j,hj,rfl,ha⟩:=hrel;clear HA;have HA:=jH ha;clear ha;by_cases hltj:j<9
    ·have hltj2:(j:Int)<9:=by omega
     go_wp2_with fail;obtain ⟨wj,rfl⟩:∃ wj:World,wj=wr:=⟨_,rfl⟩
     go_loopw [1,4] (fun out a wr=>∃ (m:Nat) (x:Int),m≤19∧x=(m:Int) - 9∧a=.int .i64 x∧AL w (allO o++allD o j++allA o j m) out wr) (fun _ a _=>(10 - intOf a).toNat)
     case atStart=>exact ⟨0,-9,by omega,by omega,rfl,by show AL w (allO o++allD o j++[]) _ _;rw [List.append_nil];exact HA.out⟩
     case round=>
      obtain ⟨m,x,hm,hx,rfl,ha⟩:=hrel;clear HA;have HA:=jH ha;have HX:=jH hx;clear ha;by_cases hltm:m<19
      ·have hx1:x≤9:=by omega
       have hx0 : -9≤x:=by omega
       clear hx;go_wp2_with fail;obtain ⟨wm,rfl⟩:∃ wm:World,wm=wr:=⟨_,rfl⟩
       go_loopw [1,18] (fun out b wr=>∃ r:Nat,r≤4∧b=.int .i64 r∧AL w (allO o++allD o j++allA o j m++allB o j x r) out wr) (fun _ b _=>(4 - intOf b).toNat)
       case atStart=>exact ⟨0,by omega,rfl,by show AL w (allO o++allD o j++allA o j m++[]) _ _;rw [List.append_nil];exact HA.out⟩
       case round=>
        obtain ⟨r,hr,rfl,ha⟩:=hrel;clear HA;have HA:=jH ha;clear ha;by_cases hltr:r<4
        ·have hltr2:(r:Int)<4:=by omega
         have HLEN:=jH (all_len o j m r x hlt hltj hltm hltr);have HN:=jH (zwh o j x r);go_wp2_with fail;have hb:=heap_alloc_new wr (.cells #[.int .i64 o,.int .i64 j,.int .i64 x,.int .i64 r] 57);have hg:=(Grow.refl wr).alloc (.cells #[.int .i64 o,.int .i64 j,.int .i64 x,.int .i64 r] 57);refine zbe o j x r _ _ ?_;intro w1 hg1;have HG:=jH (hg.trans hg1);have hb1:=hg1.blk hb;obtain ⟨e0,e1,e2,e3⟩:=box4 hb1;have hz:=lt_of_block hb1;clear hb hg hg1 hb1;cases hv:vL o j x r with
         | false=>
          rw [zbv];have HV:=jH hv;clear hv;go_wp2_with fail;go_roundw
          case rel=>
           refine ⟨r+1,by omega,by go_num,?_⟩
           rw [HN.out,show okOf ⟨(o:Int),(j:Int),x,(r:Int)⟩=[] from by unfold okOf Ln.ok;rw [HV.out];rfl,List.append_nil]
           exact HA.out.grow HG.out
          case measure=>simp [intOf];omega
         | true=>
          rw [zeb];have HV:=jH hv;clear hv;go_wp2_with (at_builtin;refine zad _ rfl (.tmp 29) (.tmp 31) 22 rfl w.heap.size 57 underlying22 zar rfl (by decide) (by decide) encL zab zaj _ (allO o++allD o j++allA o j m++allB o j x r) rfl (HA.out.grow (HG.out.alloc _)).ow _ (⟨o,j,x,r⟩:Ln) 1 rfl (zan _ _ (by simp) (encL ⟨o,j,x,r⟩) _) HLEN.out (by have:=HA.out.g.sz;have:=HG.out.sz;simp;omega) ?_;intro out2 w2 hown2 hgr2)
          have HA2:=jH (HA.out.app (y:=⟨o,j,x,r⟩) (HG.out.alloc _) hown2 hgr2);clear hown2 hgr2;go_roundw
          case rel=>
           refine ⟨r+1,by omega,by go_num,?_⟩
           rw [HN.out,show okOf ⟨(o:Int),(j:Int),x,(r:Int)⟩=[⟨(o:Int),(j:Int),x,(r:Int)⟩] from by unfold okOf Ln.ok;rw [HV.out];rfl,← List.append_assoc]
           exact HA2.out
          case measure=>simp [intOf];omega
        ·have hr4:r=4:=by omega
         subst hr4;go_wp2_with fail;go_roundw
         case rel=>
          refine ⟨m+1,x+1,by omega,by have:=HX.out;omega,rfl,?_⟩
          rw [zzb,← HX.out,← List.append_assoc];exact HA.out
         case measure=>simp [intOf];omega
      ·have hm19:m=19:=by omega
       subst hm19;have hx10:x=10:=by omega
       subst hx10;clear hx HX;go_wp2_with fail;go_roundw
       case rel=>
        refine ⟨j+1,by omega,by go_num,?_⟩
        rw [zyz,← List.append_assoc];exact HA.out
       case measure=>simp [intOf];omega
    ·have hj9:j=9:=by omega
     subst hj9;go_wp2_with fail;go_roundw
     case rel=>
      refine ⟨o+1,by omega,by go_num,?_⟩
      rw [zzu];exact HA.out
     case measure=>simp [intOf];omega
  ·have ho8:o=8:=by omega
   subst ho8;have hlen:(allO 8).length=allR.length:=by rw [zqc]
   obtain ⟨g,cap,rfl,hg1,hg2,hc1,hc2,hrow⟩:=HA.out.end_ (by rw [hlen];decide)
   have HROW:=jH hrow;have HL:=jH hlen;clear hrow hlen;go_wp2_with fail;refine zjz (allO 8) g _ cap w.heap.size _ rfl HROW.out hg2 hg1 hc1 hc2 (by have:=zsf 8;omega) _ ?_
   intro w3 hb3 hg3 hr3;rw [ordL_all] at hr3 ⊢;have HF:=jH (HR.out _ g cap (Below.trans HA.out.g hb3) hg1 hg3 (by rw [← HL.out];exact hc1) hc2 hr3)
   clear hb3 hr3;go_wp2_with fail;exact HF.out
set_option maxHeartbeats 1000000
theorem zqd (xs:List Ln) (v:Value) (w:World) (hx:SlcAt 4 encL w v xs) (hn:xs.length<10000000000) (R:Ending→World→Prop) (hR:∀ w' x,Grow w w'→Own 4 encL w.heap.size w' x xs→R (.returned x) w') :
  Calls Tryz.prog 52 #[v] w R:=by
 have hx':=hx;obtain ⟨a,c,rfl,h1,h2,h3⟩:=hx';have HX:=jH hx;have HR:=jH hR;clear hx hR;have heq:=fun (W:World) (a:Option Addr) (n c:Nat)=>Lib.run_eql_slice_nil (P:=Tryz.prog) W 22 57 a n c 0 0 underlying22;cases a with
 | none=>
  have hxs:xs=[]:=by
   rcases h3 with ⟨h3,_⟩ | ⟨b,o,h3,_⟩
   ·exact h3
   ·cases h3
  subst hxs;clear h3
  go_enter func52,ntmps52
  go_wp2_with fail;exact HR.out _ _ (Grow.refl _) (Own.nil _ _ _ _)
 | some ad=>
  clear h3
  go_enter func52,ntmps52
  go_wp2_with (at_builtin;refine zay _ rfl (.tmp 5) (.tmp 6) 22 rfl w.heap.size 57 underlying22 zar rfl (by decide) (by decide) encL zab zaj _ [] rfl (zah w 4 _ _ _ (Nat.le_refl _)) _ xs rfl (HX.out.grow ((Grow.refl w).alloc _)) (by simp;omega) (by simp) ?_;intro v1 w1 hown1 hgr1)
  exact HR.out _ _ (zae (zah w 4 57 encL _ (Nat.le_refl _)) hgr1 (Nat.le_refl _) (by simp) ((Grow.refl w).alloc _)) ⟨_,hown1⟩
set_option maxHeartbeats 4000000
theorem zao (n:Int) (w:World) (R:Ending→World→Prop) (hR:R (.returned (.bool (inB n 3 6))) w) :
  Calls Tryz.prog 269 #[.int .i64 n] w R:=by
 by_cases h:3≤n
 ·by_cases h2:n≤6
  ·rw [zbd.2 ⟨h,h2⟩] at hR
   go_enter func269,ntmps269
   go_wp2
   simpa using hR
  ·rw [zbq.2 (by omega)] at hR
   go_enter func269,ntmps269
   go_wp2
   simpa using hR
 ·rw [zbq.2 (by omega)] at hR
  go_enter func269,ntmps269
  go_wp2
  simpa using hR
theorem zag (op d a b op' d' a' b':Int) (w:World) (R:Ending→World→Prop) (hR:∀ w',Grow w w'→R (.returned (.int .i64 (fieldsN ⟨op,d,a,b⟩ ⟨op',d',a',b'⟩))) w') :
  Calls Tryz.prog 211 #[.agg #[.int .i64 op,.int .i64 d,.int .i64 a,.int .i64 b],.agg #[.int .i64 op',.int .i64 d',.int .i64 a',.int .i64 b']] w R:=by
 have hv:fieldsN ⟨op,d,a,b⟩ ⟨op',d',a',b'⟩=(if op=op' then 0 else 1)+(if d=d' then 0 else 1)+(if a=a' then 0 else 1)+(if b=b' then 0 else 1):=rfl;rw [hv] at hR;clear hv;have hg:=((Grow.refl w).alloc (.cells #[.int .i64 op,.int .i64 d,.int .i64 a,.int .i64 b] 57)).alloc (.cells #[.int .i64 op',.int .i64 d',.int .i64 a',.int .i64 b'] 57);have hR2:=hR _ hg;clear hR;by_cases g0:op=op'
 ·subst g0;by_cases g1:d=d'
  ·subst g1;by_cases g2:a=a'
   ·subst g2;by_cases g3:b=b'
    ·subst g3;rw [if_pos rfl,if_pos rfl,if_pos rfl,if_pos rfl] at hR2;have HR:=jH hR2;clear hR2
     go_enter func211,ntmps211
     go_wp2_with fail;exact HR.out
    ·have q3:(b != b')=true:=by simpa using g3
     rw [if_pos rfl,if_pos rfl,if_pos rfl,if_neg g3] at hR2;have HR:=jH hR2;clear hR2 g3
     go_enter func211,ntmps211
     go_wp2_with fail;exact HR.out
   ·have q2:(a != a')=true:=by simpa using g2
    by_cases g3:b=b'
    ·subst g3;rw [if_pos rfl,if_pos rfl,if_neg g2,if_pos rfl] at hR2;have HR:=jH hR2;clear hR2 g2
     go_enter func211,ntmps211
     go_wp2_with fail;exact HR.out
    ·have q3:(b != b')=true:=by simpa using g3
     rw [if_pos rfl,if_pos rfl,if_neg g2,if_neg g3] at hR2;have HR:=jH hR2;clear hR2 g2 g3
     go_enter func211,ntmps211
     go_wp2_with fail;exact HR.out
  ·have q1:(d != d')=true:=by simpa using g1
   by_cases g2:a=a'
   ·subst g2;by_cases g3:b=b'
    ·subst g3;rw [if_pos rfl,if_neg g1,if_pos rfl,if_pos rfl] at hR2;have HR:=jH hR2;clear hR2 g1
     go_enter func211,ntmps211
     go_wp2_with fail;exact HR.out
    ·have q3:(b != b')=true:=by simpa using g3
     rw [if_pos rfl,if_neg g1,if_pos rfl,if_neg g3] at hR2;have HR:=jH hR2;clear hR2 g1 g3
     go_enter func211,ntmps211
     go_wp2_with fail;exact HR.out
   ·have q2:(a != a')=true:=by simpa using g2
    by_cases g3:b=b'
    ·subst g3;rw [if_pos rfl,if_neg g1,if_neg g2,if_pos rfl] at hR2;have HR:=jH hR2;clear hR2 g1 g2
     go_enter func211,ntmps211
     go_wp2_with fail;exact HR.out
    ·have q3:(b != b')=true:=by simpa using g3
     rw [if_pos rfl,if_neg g1,if_neg g2,if_neg g3] at hR2;have HR:=jH hR2;clear hR2 g1 g2 g3
     go_enter func211,ntmps211
     go_wp2_with fail;exact HR.out
 ·have q0:(op != op')=true:=by simpa using g0
  by_cases g1:d=d'
  ·subst g1;by_cases g2:a=a'
   ·subst g2;by_cases g3:b=b'
    ·subst g3;rw [if_neg g0,if_pos rfl,if_pos rfl,if_pos rfl] at hR2;have HR:=jH hR2;clear hR2 g0
     go_enter func211,ntmps211
     go_wp2_with fail;exact HR.out
    ·have q3:(b != b')=true:=by simpa using g3
     rw [if_neg g0,if_pos rfl,if_pos rfl,if_neg g3] at hR2;have HR:=jH hR2;clear hR2 g0 g3
     go_enter func211,ntmps211
     go_wp2_with fail;exact HR.out
   ·have q2:(a != a')=true:=by simpa using g2
    by_cases g3:b=b'
    ·subst g3;rw [if_neg g0,if_pos rfl,if_neg g2,if_pos rfl] at hR2;have HR:=jH hR2;clear hR2 g0 g2
     go_enter func211,ntmps211
     go_wp2_with fail;exact HR.out
    ·have q3:(b != b')=true:=by simpa using g3
     rw [if_neg g0,if_pos rfl,if_neg g2,if_neg g3] at hR2;have HR:=jH hR2;clear hR2 g0 g2 g3
     go_enter func211,ntmps211
     go_wp2_with fail;exact HR.out
  ·have q1:(d != d')=true:=by simpa using g1
   by_cases g2:a=a'
   ·subst g2;by_cases g3:b=b'
    ·subst g3;rw [if_neg g0,if_neg g1,if_pos rfl,if_pos rfl] at hR2;have HR:=jH hR2;clear hR2 g0 g1
     go_enter func211,ntmps211
     go_wp2_with fail;exact HR.out
    ·have q3:(b != b')=true:=by simpa using g3
     rw [if_neg g0,if_neg g1,if_pos rfl,if_neg g3] at hR2;have HR:=jH hR2;clear hR2 g0 g1 g3
     go_enter func211,ntmps211
     go_wp2_with fail;exact HR.out
   ·have q2:(a != a')=true:=by simpa using g2
    by_cases g3:b=b'
    ·subst g3;rw [if_neg g0,if_neg g1,if_neg g2,if_pos rfl] at hR2;have HR:=jH hR2;clear hR2 g0 g1 g2
     go_enter func211,ntmps211
     go_wp2_with fail;exact HR.out
    ·have q3:(b != b')=true:=by simpa using g3
     rw [if_neg g0,if_neg g1,if_neg g2,if_neg g3] at hR2;have HR:=jH hR2;clear hR2 g0 g1 g2 g3
     go_enter func211,ntmps211
     go_wp2_with fail;exact HR.out
set_option maxRecDepth 100000
set_option maxHeartbeats 16000000
theorem zuc (op d a b op2 d2 a2 b2:Int) (w:World) (hlm:¬ (⟨op,d,a,b⟩:Ln)=⟨op2,d2,a2,b2⟩) (hop:op=1) (hop2:op2=1) (bn : -9≤d∧d≤9∧-9≤a∧a≤9∧-9≤d2∧d2≤9∧-9≤a2∧a2≤9) (R:Ending→World→Prop) (hR:∀ w',Grow w w'→R (.returned (.bool (rnearB (⟨op,d,a,b⟩:Ln) ⟨op2,d2,a2,b2⟩))) w') :
  Calls Tryz.prog 245 #[.agg #[.int .i64 op,.int .i64 d,.int .i64 a,.int .i64 b],.agg #[.int .i64 op2,.int .i64 d2,.int .i64 a2,.int .i64 b2]] w R:=by
 subst hop;subst hop2;have HR:=jH hR;clear hR;obtain ⟨n,hn⟩:∃ n,fieldsN (⟨1,d,a,b⟩:Ln) ⟨1,d2,a2,b2⟩=n:=⟨_,rfl⟩;have HN:=jH hn;by_cases f1:d=d2;rotate_left
 ·skip
  have f1a:(d == d2)=false:=by simpa using f1
  have f1b:(d != d2)=true:=by simpa using f1
  have hF:¬ (d=d2∧3≤(1:Int)∧a=b2∧b=a2):=by omega
  by_cases hn1:n=1
  ·skip
   have hn1a:(n == 1)=true:=by simpa using hn1
   have hn1b:(n != 1)=false:=by simpa using hn1
   have haa:a=a2:=by by_cases h:a=a2;exact h;exfalso;have h9:=HN.out;unfold fieldsN at h9;dsimp only at h9;rw [if_neg f1,if_neg h] at h9;split at h9<;>split at h9<;>omega
   have haaa:(a == a2)=true:=by simpa using haa
   have haab:(a != a2)=false:=by simpa using haa
   have hv:rnearB (⟨1,d,a,b⟩:Ln) ⟨1,d2,a2,b2⟩=true:=by unfold rnearB;rw [if_neg hlm,if_neg (by dsimp only;omega),if_neg (by dsimp only;omega),if_neg (by dsimp only;omega),if_neg hF,if_neg (by rw [HN.out];simpa using hn1),if_neg (by dsimp only;omega),if_neg (by dsimp only;omega)]
   rw [hv] at HR;clear hv;have HR2:=jH HR.out;clear HR hlm hn;try clear hF
   try clear hn1
   try clear haa
   try clear hb
   try clear hx
   try clear f1
   go_enter func245,ntmps245
   go_wp2_with fail;obtain ⟨W,hWW,hb0,hb1,hg0⟩:=zax w (.cells #[.int .i64 1,.int .i64 d,.int .i64 a,.int .i64 b] 57) (.cells #[.int .i64 1,.int .i64 d2,.int .i64 a2,.int .i64 b2] 57);rw [hWW];clear hWW;refine zag 1 d a b 1 d2 a2 b2 _ _ ?_;intro w1 hg1;rw [HN.out];have HF:=jH (HR2.out w1 (hg0.trans hg1));replace hb0:=hg1.blk hb0;replace hb1:=hg1.blk hb1;obtain ⟨e0,e1,e2,e3⟩:=box4 hb0;obtain ⟨f0,f1,f2,f3⟩:=box4 hb1;have hz:=lt_of_block hb1;clear hb0 hb1 hg0 hg1;go_wp2_with (go_at_call 269;refine zao _ _ _ ?_);exact HF.out
  ·skip
   have hn1a:(n == 1)=false:=by simpa using hn1
   have hn1b:(n != 1)=true:=by simpa using hn1
   have hv:rnearB (⟨1,d,a,b⟩:Ln) ⟨1,d2,a2,b2⟩=false:=by unfold rnearB;rw [if_neg hlm,if_neg (by dsimp only;omega),if_neg (by dsimp only;omega),if_neg (by dsimp only;omega),if_neg hF,if_pos (by rw [HN.out];exact hn1)]
   rw [hv] at HR;clear hv;have HR2:=jH HR.out;clear HR hlm hn;try clear hF
   try clear hn1
   try clear haa
   try clear hb
   try clear hx
   try clear f1
   go_enter func245,ntmps245
   go_wp2_with fail;obtain ⟨W,hWW,hb0,hb1,hg0⟩:=zax w (.cells #[.int .i64 1,.int .i64 d,.int .i64 a,.int .i64 b] 57) (.cells #[.int .i64 1,.int .i64 d2,.int .i64 a2,.int .i64 b2] 57);rw [hWW];clear hWW;refine zag 1 d a b 1 d2 a2 b2 _ _ ?_;intro w1 hg1;rw [HN.out];have HF:=jH (HR2.out w1 (hg0.trans hg1));replace hb0:=hg1.blk hb0;replace hb1:=hg1.blk hb1;obtain ⟨e0,e1,e2,e3⟩:=box4 hb0;obtain ⟨f0,f1,f2,f3⟩:=box4 hb1;have hz:=lt_of_block hb1;clear hb0 hb1 hg0 hg1;go_wp2_with (go_at_call 269;refine zao _ _ _ ?_);exact HF.out
 subst f1;by_cases hx:a=a2;rotate_left
 ·skip
  have hxa:(a == a2)=false:=by simpa using hx
  have hxb:(a != a2)=true:=by simpa using hx
  have hF:¬ (d=d∧3≤(1:Int)∧a=b2∧b=a2):=by omega
  by_cases hn1:n=1
  ·skip
   have hn1a:(n == 1)=true:=by simpa using hn1
   have hn1b:(n != 1)=false:=by simpa using hn1
   by_cases hi1:a - a2=1
   ·skip
    have hi1a:((a - a2) == 1)=true:=by simpa using hi1
    have hi1b:((a - a2) != 1)=false:=by simpa using hi1
    have hv:rnearB (⟨1,d,a,b⟩:Ln) ⟨1,d,a2,b2⟩=true:=by unfold rnearB;rw [if_neg hlm,if_neg (by dsimp only;omega),if_neg (by dsimp only;omega),if_neg (by dsimp only;omega),if_neg hF,if_neg (by rw [HN.out];simpa using hn1),if_pos (by dsimp only;omega)];simp only [decide_eq_true_eq];exact .inl hi1
    rw [hv] at HR;clear hv;have HR2:=jH HR.out;clear HR hlm hn;try clear hF
    try clear hn1
    try clear hi1
    try clear haa
    try clear hb
    try clear hx
    try clear f1
    go_enter func245,ntmps245
    go_wp2_with fail;obtain ⟨W,hWW,hb0,hb1,hg0⟩:=zax w (.cells #[.int .i64 1,.int .i64 d,.int .i64 a,.int .i64 b] 57) (.cells #[.int .i64 1,.int .i64 d,.int .i64 a2,.int .i64 b2] 57);rw [hWW];clear hWW;refine zag 1 d a b 1 d a2 b2 _ _ ?_;intro w1 hg1;rw [HN.out];have HF:=jH (HR2.out w1 (hg0.trans hg1));replace hb0:=hg1.blk hb0;replace hb1:=hg1.blk hb1;obtain ⟨e0,e1,e2,e3⟩:=box4 hb0;obtain ⟨f0,f1,f2,f3⟩:=box4 hb1;have hz:=lt_of_block hb1;clear hb0 hb1 hg0 hg1;go_wp2_with (go_at_call 269;refine zao _ _ _ ?_);exact HF.out
   ·skip
    have hi1a:((a - a2) == 1)=false:=by simpa using hi1
    have hi1b:((a - a2) != 1)=true:=by simpa using hi1
    by_cases hi2:a2 - a=1
    ·skip
     have hi2a:((a2 - a) == 1)=true:=by simpa using hi2
     have hi2b:((a2 - a) != 1)=false:=by simpa using hi2
     have hv:rnearB (⟨1,d,a,b⟩:Ln) ⟨1,d,a2,b2⟩=true:=by unfold rnearB;rw [if_neg hlm,if_neg (by dsimp only;omega),if_neg (by dsimp only;omega),if_neg (by dsimp only;omega),if_neg hF,if_neg (by rw [HN.out];simpa using hn1),if_pos (by dsimp only;omega)];simp only [decide_eq_true_eq];exact .inr hi2
     rw [hv] at HR;clear hv;have HR2:=jH HR.out;clear HR hlm hn;try clear hF
     try clear hn1
     try clear hi1
     try clear hi2
     try clear haa
     try clear hb
     try clear hx
     try clear f1
     go_enter func245,ntmps245
     go_wp2_with fail;obtain ⟨W,hWW,hb0,hb1,hg0⟩:=zax w (.cells #[.int .i64 1,.int .i64 d,.int .i64 a,.int .i64 b] 57) (.cells #[.int .i64 1,.int .i64 d,.int .i64 a2,.int .i64 b2] 57);rw [hWW];clear hWW;refine zag 1 d a b 1 d a2 b2 _ _ ?_;intro w1 hg1;rw [HN.out];have HF:=jH (HR2.out w1 (hg0.trans hg1));replace hb0:=hg1.blk hb0;replace hb1:=hg1.blk hb1;obtain ⟨e0,e1,e2,e3⟩:=box4 hb0;obtain ⟨f0,f1,f2,f3⟩:=box4 hb1;have hz:=lt_of_block hb1;clear hb0 hb1 hg0 hg1;go_wp2_with (go_at_call 269;refine zao _ _ _ ?_);exact HF.out
    ·skip
     have hi2a:((a2 - a) == 1)=false:=by simpa using hi2
     have hi2b:((a2 - a) != 1)=true:=by simpa using hi2
     have hv:rnearB (⟨1,d,a,b⟩:Ln) ⟨1,d,a2,b2⟩=false:=by unfold rnearB;rw [if_neg hlm,if_neg (by dsimp only;omega),if_neg (by dsimp only;omega),if_neg (by dsimp only;omega),if_neg hF,if_neg (by rw [HN.out];simpa using hn1),if_pos (by dsimp only;omega)];simp only [decide_eq_false_iff_not];omega
     rw [hv] at HR;clear hv;have HR2:=jH HR.out;clear HR hlm hn;try clear hF
     try clear hn1
     try clear hi1
     try clear hi2
     try clear haa
     try clear hb
     try clear hx
     try clear f1
     go_enter func245,ntmps245
     go_wp2_with fail;obtain ⟨W,hWW,hb0,hb1,hg0⟩:=zax w (.cells #[.int .i64 1,.int .i64 d,.int .i64 a,.int .i64 b] 57) (.cells #[.int .i64 1,.int .i64 d,.int .i64 a2,.int .i64 b2] 57);rw [hWW];clear hWW;refine zag 1 d a b 1 d a2 b2 _ _ ?_;intro w1 hg1;rw [HN.out];have HF:=jH (HR2.out w1 (hg0.trans hg1));replace hb0:=hg1.blk hb0;replace hb1:=hg1.blk hb1;obtain ⟨e0,e1,e2,e3⟩:=box4 hb0;obtain ⟨f0,f1,f2,f3⟩:=box4 hb1;have hz:=lt_of_block hb1;clear hb0 hb1 hg0 hg1;go_wp2_with (go_at_call 269;refine zao _ _ _ ?_);exact HF.out
  ·skip
   have hn1a:(n == 1)=false:=by simpa using hn1
   have hn1b:(n != 1)=true:=by simpa using hn1
   have hv:rnearB (⟨1,d,a,b⟩:Ln) ⟨1,d,a2,b2⟩=false:=by unfold rnearB;rw [if_neg hlm,if_neg (by dsimp only;omega),if_neg (by dsimp only;omega),if_neg (by dsimp only;omega),if_neg hF,if_pos (by rw [HN.out];exact hn1)]
   rw [hv] at HR;clear hv;have HR2:=jH HR.out;clear HR hlm hn;try clear hF
   try clear hn1
   try clear haa
   try clear hb
   try clear hx
   try clear f1
   go_enter func245,ntmps245
   go_wp2_with fail;obtain ⟨W,hWW,hb0,hb1,hg0⟩:=zax w (.cells #[.int .i64 1,.int .i64 d,.int .i64 a,.int .i64 b] 57) (.cells #[.int .i64 1,.int .i64 d,.int .i64 a2,.int .i64 b2] 57);rw [hWW];clear hWW;refine zag 1 d a b 1 d a2 b2 _ _ ?_;intro w1 hg1;rw [HN.out];have HF:=jH (HR2.out w1 (hg0.trans hg1));replace hb0:=hg1.blk hb0;replace hb1:=hg1.blk hb1;obtain ⟨e0,e1,e2,e3⟩:=box4 hb0;obtain ⟨f0,f1,f2,f3⟩:=box4 hb1;have hz:=lt_of_block hb1;clear hb0 hb1 hg0 hg1;go_wp2_with (go_at_call 269;refine zao _ _ _ ?_);exact HF.out
 subst hx;have hb:b≠b2:=fun e=>hlm (by rw [e])
 have hba:(b == b2)=false:=by simpa using hb
 have hbb:(b != b2)=true:=by simpa using hb
 have hF:¬ (d=d∧3≤(1:Int)∧a=b2∧b=a):=by omega
 by_cases hn1:n=1
 ·skip
  have hn1a:(n == 1)=true:=by simpa using hn1
  have hn1b:(n != 1)=false:=by simpa using hn1
  have hv:rnearB (⟨1,d,a,b⟩:Ln) ⟨1,d,a,b2⟩=true:=by unfold rnearB;rw [if_neg hlm,if_neg (by dsimp only;omega),if_neg (by dsimp only;omega),if_neg (by dsimp only;omega),if_neg hF,if_neg (by rw [HN.out];simpa using hn1),if_neg (by dsimp only;omega),if_neg (by dsimp only;omega)]
  rw [hv] at HR;clear hv;have HR2:=jH HR.out;clear HR hlm hn;try clear hF
  try clear hn1
  try clear haa
  try clear hb
  try clear hx
  try clear f1
  go_enter func245,ntmps245
  go_wp2_with fail;obtain ⟨W,hWW,hb0,hb1,hg0⟩:=zax w (.cells #[.int .i64 1,.int .i64 d,.int .i64 a,.int .i64 b] 57) (.cells #[.int .i64 1,.int .i64 d,.int .i64 a,.int .i64 b2] 57);rw [hWW];clear hWW;refine zag 1 d a b 1 d a b2 _ _ ?_;intro w1 hg1;rw [HN.out];have HF:=jH (HR2.out w1 (hg0.trans hg1));replace hb0:=hg1.blk hb0;replace hb1:=hg1.blk hb1;obtain ⟨e0,e1,e2,e3⟩:=box4 hb0;obtain ⟨f0,f1,f2,f3⟩:=box4 hb1;have hz:=lt_of_block hb1;clear hb0 hb1 hg0 hg1;go_wp2_with (go_at_call 269;refine zao _ _ _ ?_);exact HF.out
 ·skip
  have hn1a:(n == 1)=false:=by simpa using hn1
  have hn1b:(n != 1)=true:=by simpa using hn1
  have hv:rnearB (⟨1,d,a,b⟩:Ln) ⟨1,d,a,b2⟩=false:=by unfold rnearB;rw [if_neg hlm,if_neg (by dsimp only;omega),if_neg (by dsimp only;omega),if_neg (by dsimp only;omega),if_neg hF,if_pos (by rw [HN.out];exact hn1)]
  rw [hv] at HR;clear hv;have HR2:=jH HR.out;clear HR hlm hn;try clear hF
  try clear hn1
  try clear haa
  try clear hb
  try clear hx
  try clear f1
  go_enter func245,ntmps245
  go_wp2_with fail;obtain ⟨W,hWW,hb0,hb1,hg0⟩:=zax w (.cells #[.int .i64 1,.int .i64 d,.int .i64 a,.int .i64 b] 57) (.cells #[.int .i64 1,.int .i64 d,.int .i64 a,.int .i64 b2] 57);rw [hWW];clear hWW;refine zag 1 d a b 1 d a b2 _ _ ?_;intro w1 hg1;rw [HN.out];have HF:=jH (HR2.out w1 (hg0.trans hg1));replace hb0:=hg1.blk hb0;replace hb1:=hg1.blk hb1;obtain ⟨e0,e1,e2,e3⟩:=box4 hb0;obtain ⟨f0,f1,f2,f3⟩:=box4 hb1;have hz:=lt_of_block hb1;clear hb0 hb1 hg0 hg1;go_wp2_with (go_at_call 269;refine zao _ _ _ ?_);exact HF.out
theorem ztn (op d a b op2 d2 a2 b2:Int) (w:World) (hlm:¬ (⟨op,d,a,b⟩:Ln)=⟨op2,d2,a2,b2⟩) (hop:op=2) (hop2:op2=2) (R:Ending→World→Prop) (hR:∀ w',Grow w w'→R (.returned (.bool (rnearB (⟨op,d,a,b⟩:Ln) ⟨op2,d2,a2,b2⟩))) w') :
  Calls Tryz.prog 245 #[.agg #[.int .i64 op,.int .i64 d,.int .i64 a,.int .i64 b],.agg #[.int .i64 op2,.int .i64 d2,.int .i64 a2,.int .i64 b2]] w R:=by
 subst hop;subst hop2;have HR:=jH hR;clear hR;obtain ⟨n,hn⟩:∃ n,fieldsN (⟨2,d,a,b⟩:Ln) ⟨2,d2,a2,b2⟩=n:=⟨_,rfl⟩;have HN:=jH hn;by_cases f1:d=d2;rotate_left
 ·skip
  have f1a:(d == d2)=false:=by simpa using f1
  have f1b:(d != d2)=true:=by simpa using f1
  have hF:¬ (d=d2∧3≤(2:Int)∧a=b2∧b=a2):=by omega
  by_cases hn1:n=1
  ·skip
   have hn1a:(n == 1)=true:=by simpa using hn1
   have hn1b:(n != 1)=false:=by simpa using hn1
   have hv:rnearB (⟨2,d,a,b⟩:Ln) ⟨2,d2,a2,b2⟩=true:=by unfold rnearB;rw [if_neg hlm,if_neg (by dsimp only;omega),if_neg (by dsimp only;omega),if_neg (by dsimp only;omega),if_neg hF,if_neg (by rw [HN.out];simpa using hn1),if_neg (by dsimp only;omega),if_neg (by dsimp only;omega)]
   rw [hv] at HR;clear hv;have HR2:=jH HR.out;clear HR hlm hn;try clear hF
   try clear hn1
   try clear haa
   try clear hb
   try clear hx
   try clear f1
   go_enter func245,ntmps245
   go_wp2_with fail;obtain ⟨W,hWW,hb0,hb1,hg0⟩:=zax w (.cells #[.int .i64 2,.int .i64 d,.int .i64 a,.int .i64 b] 57) (.cells #[.int .i64 2,.int .i64 d2,.int .i64 a2,.int .i64 b2] 57);rw [hWW];clear hWW;refine zag 2 d a b 2 d2 a2 b2 _ _ ?_;intro w1 hg1;rw [HN.out];have HF:=jH (HR2.out w1 (hg0.trans hg1));replace hb0:=hg1.blk hb0;replace hb1:=hg1.blk hb1;obtain ⟨e0,e1,e2,e3⟩:=box4 hb0;obtain ⟨f0,f1,f2,f3⟩:=box4 hb1;have hz:=lt_of_block hb1;clear hb0 hb1 hg0 hg1;go_wp2_with (go_at_call 269;refine zao _ _ _ ?_);exact HF.out
  ·skip
   have hn1a:(n == 1)=false:=by simpa using hn1
   have hn1b:(n != 1)=true:=by simpa using hn1
   have hv:rnearB (⟨2,d,a,b⟩:Ln) ⟨2,d2,a2,b2⟩=false:=by unfold rnearB;rw [if_neg hlm,if_neg (by dsimp only;omega),if_neg (by dsimp only;omega),if_neg (by dsimp only;omega),if_neg hF,if_pos (by rw [HN.out];exact hn1)]
   rw [hv] at HR;clear hv;have HR2:=jH HR.out;clear HR hlm hn;try clear hF
   try clear hn1
   try clear haa
   try clear hb
   try clear hx
   try clear f1
   go_enter func245,ntmps245
   go_wp2_with fail;obtain ⟨W,hWW,hb0,hb1,hg0⟩:=zax w (.cells #[.int .i64 2,.int .i64 d,.int .i64 a,.int .i64 b] 57) (.cells #[.int .i64 2,.int .i64 d2,.int .i64 a2,.int .i64 b2] 57);rw [hWW];clear hWW;refine zag 2 d a b 2 d2 a2 b2 _ _ ?_;intro w1 hg1;rw [HN.out];have HF:=jH (HR2.out w1 (hg0.trans hg1));replace hb0:=hg1.blk hb0;replace hb1:=hg1.blk hb1;obtain ⟨e0,e1,e2,e3⟩:=box4 hb0;obtain ⟨f0,f1,f2,f3⟩:=box4 hb1;have hz:=lt_of_block hb1;clear hb0 hb1 hg0 hg1;go_wp2_with (go_at_call 269;refine zao _ _ _ ?_);exact HF.out
 subst f1;by_cases hx:a=a2;rotate_left
 ·skip
  have hxa:(a == a2)=false:=by simpa using hx
  have hxb:(a != a2)=true:=by simpa using hx
  have hF:¬ (d=d∧3≤(2:Int)∧a=b2∧b=a2):=by omega
  by_cases hn1:n=1
  ·skip
   have hn1a:(n == 1)=true:=by simpa using hn1
   have hn1b:(n != 1)=false:=by simpa using hn1
   have hv:rnearB (⟨2,d,a,b⟩:Ln) ⟨2,d,a2,b2⟩=true:=by unfold rnearB;rw [if_neg hlm,if_neg (by dsimp only;omega),if_neg (by dsimp only;omega),if_neg (by dsimp only;omega),if_neg hF,if_neg (by rw [HN.out];simpa using hn1),if_neg (by dsimp only;omega),if_neg (by dsimp only;omega)]
   rw [hv] at HR;clear hv;have HR2:=jH HR.out;clear HR hlm hn;try clear hF
   try clear hn1
   try clear haa
   try clear hb
   try clear hx
   try clear f1
   go_enter func245,ntmps245
   go_wp2_with fail;obtain ⟨W,hWW,hb0,hb1,hg0⟩:=zax w (.cells #[.int .i64 2,.int .i64 d,.int .i64 a,.int .i64 b] 57) (.cells #[.int .i64 2,.int .i64 d,.int .i64 a2,.int .i64 b2] 57);rw [hWW];clear hWW;refine zag 2 d a b 2 d a2 b2 _ _ ?_;intro w1 hg1;rw [HN.out];have HF:=jH (HR2.out w1 (hg0.trans hg1));replace hb0:=hg1.blk hb0;replace hb1:=hg1.blk hb1;obtain ⟨e0,e1,e2,e3⟩:=box4 hb0;obtain ⟨f0,f1,f2,f3⟩:=box4 hb1;have hz:=lt_of_block hb1;clear hb0 hb1 hg0 hg1;go_wp2_with (go_at_call 269;refine zao _ _ _ ?_);exact HF.out
  ·skip
   have hn1a:(n == 1)=false:=by simpa using hn1
   have hn1b:(n != 1)=true:=by simpa using hn1
   have hv:rnearB (⟨2,d,a,b⟩:Ln) ⟨2,d,a2,b2⟩=false:=by unfold rnearB;rw [if_neg hlm,if_neg (by dsimp only;omega),if_neg (by dsimp only;omega),if_neg (by dsimp only;omega),if_neg hF,if_pos (by rw [HN.out];exact hn1)]
   rw [hv] at HR;clear hv;have HR2:=jH HR.out;clear HR hlm hn;try clear hF
   try clear hn1
   try clear haa
   try clear hb
   try clear hx
   try clear f1
   go_enter func245,ntmps245
   go_wp2_with fail;obtain ⟨W,hWW,hb0,hb1,hg0⟩:=zax w (.cells #[.int .i64 2,.int .i64 d,.int .i64 a,.int .i64 b] 57) (.cells #[.int .i64 2,.int .i64 d,.int .i64 a2,.int .i64 b2] 57);rw [hWW];clear hWW;refine zag 2 d a b 2 d a2 b2 _ _ ?_;intro w1 hg1;rw [HN.out];have HF:=jH (HR2.out w1 (hg0.trans hg1));replace hb0:=hg1.blk hb0;replace hb1:=hg1.blk hb1;obtain ⟨e0,e1,e2,e3⟩:=box4 hb0;obtain ⟨f0,f1,f2,f3⟩:=box4 hb1;have hz:=lt_of_block hb1;clear hb0 hb1 hg0 hg1;go_wp2_with (go_at_call 269;refine zao _ _ _ ?_);exact HF.out
 subst hx;have hb:b≠b2:=fun e=>hlm (by rw [e])
 have hba:(b == b2)=false:=by simpa using hb
 have hbb:(b != b2)=true:=by simpa using hb
 have hF:¬ (d=d∧3≤(2:Int)∧a=b2∧b=a):=by omega
 by_cases hn1:n=1
 ·skip
  have hn1a:(n == 1)=true:=by simpa using hn1
  have hn1b:(n != 1)=false:=by simpa using hn1
  have hv:rnearB (⟨2,d,a,b⟩:Ln) ⟨2,d,a,b2⟩=true:=by unfold rnearB;rw [if_neg hlm,if_neg (by dsimp only;omega),if_neg (by dsimp only;omega),if_neg (by dsimp only;omega),if_neg hF,if_neg (by rw [HN.out];simpa using hn1),if_neg (by dsimp only;omega),if_neg (by dsimp only;omega)]
  rw [hv] at HR;clear hv;have HR2:=jH HR.out;clear HR hlm hn;try clear hF
  try clear hn1
  try clear haa
  try clear hb
  try clear hx
  try clear f1
  go_enter func245,ntmps245
  go_wp2_with fail;obtain ⟨W,hWW,hb0,hb1,hg0⟩:=zax w (.cells #[.int .i64 2,.int .i64 d,.int .i64 a,.int .i64 b] 57) (.cells #[.int .i64 2,.int .i64 d,.int .i64 a,.int .i64 b2] 57);rw [hWW];clear hWW;refine zag 2 d a b 2 d a b2 _ _ ?_;intro w1 hg1;rw [HN.out];have HF:=jH (HR2.out w1 (hg0.trans hg1));replace hb0:=hg1.blk hb0;replace hb1:=hg1.blk hb1;obtain ⟨e0,e1,e2,e3⟩:=box4 hb0;obtain ⟨f0,f1,f2,f3⟩:=box4 hb1;have hz:=lt_of_block hb1;clear hb0 hb1 hg0 hg1;go_wp2_with (go_at_call 269;refine zao _ _ _ ?_);exact HF.out
 ·skip
  have hn1a:(n == 1)=false:=by simpa using hn1
  have hn1b:(n != 1)=true:=by simpa using hn1
  have hv:rnearB (⟨2,d,a,b⟩:Ln) ⟨2,d,a,b2⟩=false:=by unfold rnearB;rw [if_neg hlm,if_neg (by dsimp only;omega),if_neg (by dsimp only;omega),if_neg (by dsimp only;omega),if_neg hF,if_pos (by rw [HN.out];exact hn1)]
  rw [hv] at HR;clear hv;have HR2:=jH HR.out;clear HR hlm hn;try clear hF
  try clear hn1
  try clear haa
  try clear hb
  try clear hx
  try clear f1
  go_enter func245,ntmps245
  go_wp2_with fail;obtain ⟨W,hWW,hb0,hb1,hg0⟩:=zax w (.cells #[.int .i64 2,.int .i64 d,.int .i64 a,.int .i64 b] 57) (.cells #[.int .i64 2,.int .i64 d,.int .i64 a,.int .i64 b2] 57);rw [hWW];clear hWW;refine zag 2 d a b 2 d a b2 _ _ ?_;intro w1 hg1;rw [HN.out];have HF:=jH (HR2.out w1 (hg0.trans hg1));replace hb0:=hg1.blk hb0;replace hb1:=hg1.blk hb1;obtain ⟨e0,e1,e2,e3⟩:=box4 hb0;obtain ⟨f0,f1,f2,f3⟩:=box4 hb1;have hz:=lt_of_block hb1;clear hb0 hb1 hg0 hg1;go_wp2_with (go_at_call 269;refine zao _ _ _ ?_);exact HF.out
set_option maxRecDepth 100000
set_option maxHeartbeats 16000000
theorem zuj (op d a b op2 d2 a2 b2:Int) (w:World) (hlm:¬ (⟨op,d,a,b⟩:Ln)=⟨op2,d2,a2,b2⟩) (h0:¬ op=0) (h2:¬ op2=0) (h4:op2≠op) (R:Ending→World→Prop) (hR:∀ w',Grow w w'→R (.returned (.bool (rnearB (⟨op,d,a,b⟩:Ln) ⟨op2,d2,a2,b2⟩))) w') :
  Calls Tryz.prog 245 #[.agg #[.int .i64 op,.int .i64 d,.int .i64 a,.int .i64 b],.agg #[.int .i64 op2,.int .i64 d2,.int .i64 a2,.int .i64 b2]] w R:=by
 have h0a:(op == 0)=false:=by simpa using h0
 have h2a:(op2 == 0)=false:=by simpa using h2
 have h4a:(op2 != op)=true:=by simpa using h4
 have h4c:(op == op2)=false:=by simpa using fun e=>h4 e.symm
 have HR:=jH hR;clear hR;obtain ⟨n,hn⟩:∃ n,fieldsN (⟨op,d,a,b⟩:Ln) ⟨op2,d2,a2,b2⟩=n:=⟨_,rfl⟩;have HN:=jH hn;by_cases m1:3≤op∧op≤6
 ·skip
  have k1:inB op 3 6=true:=zbd.2 m1;by_cases m2:3≤op2∧op2≤6
  ·skip
   have k2:inB op2 3 6=true:=zbd.2 m2;by_cases hn1:n=1
   ·skip
    have hn1a:(n == 1)=true:=by simpa using hn1
    have hn1b:(n != 1)=false:=by simpa using hn1
    have hv:rnearB (⟨op,d,a,b⟩:Ln) ⟨op2,d2,a2,b2⟩=true:=by unfold rnearB;rw [if_neg hlm,if_neg h0,if_neg h2,if_pos h4,if_pos m1,if_pos m2,HN.out];exact decide_eq_true hn1
    rw [hv] at HR;clear hv;have HR2:=jH HR.out;clear HR hlm hn h0 h2 h4;try clear hF
    try clear m1
    try clear m2
    try clear hn1
    try clear haa
    try clear hb
    try clear hx
    try clear f1
    go_enter func245,ntmps245
    go_wp2_with fail;obtain ⟨W,hWW,hb0,hb1,hg0⟩:=zax w (.cells #[.int .i64 op,.int .i64 d,.int .i64 a,.int .i64 b] 57) (.cells #[.int .i64 op2,.int .i64 d2,.int .i64 a2,.int .i64 b2] 57);rw [hWW];clear hWW;refine zag op d a b op2 d2 a2 b2 _ _ ?_;intro w1 hg1;rw [HN.out];have HF:=jH (HR2.out w1 (hg0.trans hg1));replace hb0:=hg1.blk hb0;replace hb1:=hg1.blk hb1;obtain ⟨e0,e1,e2,e3⟩:=box4 hb0;obtain ⟨f0,f1,f2,f3⟩:=box4 hb1;have hz:=lt_of_block hb1;clear hb0 hb1 hg0 hg1;go_wp2_with (go_at_call 269;refine zao _ _ _ ?_);exact HF.out
   ·skip
    have hn1a:(n == 1)=false:=by simpa using hn1
    have hn1b:(n != 1)=true:=by simpa using hn1
    have hv:rnearB (⟨op,d,a,b⟩:Ln) ⟨op2,d2,a2,b2⟩=false:=by unfold rnearB;rw [if_neg hlm,if_neg h0,if_neg h2,if_pos h4,if_pos m1,if_pos m2,HN.out];exact decide_eq_false hn1
    rw [hv] at HR;clear hv;have HR2:=jH HR.out;clear HR hlm hn h0 h2 h4;try clear hF
    try clear m1
    try clear m2
    try clear hn1
    try clear haa
    try clear hb
    try clear hx
    try clear f1
    go_enter func245,ntmps245
    go_wp2_with fail;obtain ⟨W,hWW,hb0,hb1,hg0⟩:=zax w (.cells #[.int .i64 op,.int .i64 d,.int .i64 a,.int .i64 b] 57) (.cells #[.int .i64 op2,.int .i64 d2,.int .i64 a2,.int .i64 b2] 57);rw [hWW];clear hWW;refine zag op d a b op2 d2 a2 b2 _ _ ?_;intro w1 hg1;rw [HN.out];have HF:=jH (HR2.out w1 (hg0.trans hg1));replace hb0:=hg1.blk hb0;replace hb1:=hg1.blk hb1;obtain ⟨e0,e1,e2,e3⟩:=box4 hb0;obtain ⟨f0,f1,f2,f3⟩:=box4 hb1;have hz:=lt_of_block hb1;clear hb0 hb1 hg0 hg1;go_wp2_with (go_at_call 269;refine zao _ _ _ ?_);exact HF.out
  ·skip
   have k2:inB op2 3 6=false:=zbq.2 (by omega)
   have hv:rnearB (⟨op,d,a,b⟩:Ln) ⟨op2,d2,a2,b2⟩=false:=by unfold rnearB;rw [if_neg hlm,if_neg h0,if_neg h2,if_pos h4,if_pos m1,if_neg m2]
   rw [hv] at HR;clear hv;have HR2:=jH HR.out;clear HR hlm hn h0 h2 h4;try clear hF
   try clear m1
   try clear m2
   try clear haa
   try clear hb
   try clear hx
   try clear f1
   go_enter func245,ntmps245
   go_wp2_with fail;obtain ⟨W,hWW,hb0,hb1,hg0⟩:=zax w (.cells #[.int .i64 op,.int .i64 d,.int .i64 a,.int .i64 b] 57) (.cells #[.int .i64 op2,.int .i64 d2,.int .i64 a2,.int .i64 b2] 57);rw [hWW];clear hWW;refine zag op d a b op2 d2 a2 b2 _ _ ?_;intro w1 hg1;rw [HN.out];have HF:=jH (HR2.out w1 (hg0.trans hg1));replace hb0:=hg1.blk hb0;replace hb1:=hg1.blk hb1;obtain ⟨e0,e1,e2,e3⟩:=box4 hb0;obtain ⟨f0,f1,f2,f3⟩:=box4 hb1;have hz:=lt_of_block hb1;clear hb0 hb1 hg0 hg1;go_wp2_with (go_at_call 269;refine zao _ _ _ ?_);exact HF.out
 ·skip
  have k1:inB op 3 6=false:=zbq.2 (by omega)
  have hv:rnearB (⟨op,d,a,b⟩:Ln) ⟨op2,d2,a2,b2⟩=false:=by unfold rnearB;rw [if_neg hlm,if_neg h0,if_neg h2,if_pos h4,if_neg m1]
  rw [hv] at HR;clear hv;have HR2:=jH HR.out;clear HR hlm hn h0 h2 h4;try clear hF
  try clear m1
  try clear haa
  try clear hb
  try clear hx
  try clear f1
  go_enter func245,ntmps245
  go_wp2_with fail;obtain ⟨W,hWW,hb0,hb1,hg0⟩:=zax w (.cells #[.int .i64 op,.int .i64 d,.int .i64 a,.int .i64 b] 57) (.cells #[.int .i64 op2,.int .i64 d2,.int .i64 a2,.int .i64 b2] 57);rw [hWW];clear hWW;refine zag op d a b op2 d2 a2 b2 _ _ ?_;intro w1 hg1;rw [HN.out];have HF:=jH (HR2.out w1 (hg0.trans hg1));replace hb0:=hg1.blk hb0;replace hb1:=hg1.blk hb1;obtain ⟨e0,e1,e2,e3⟩:=box4 hb0;obtain ⟨f0,f1,f2,f3⟩:=box4 hb1;have hz:=lt_of_block hb1;clear hb0 hb1 hg0 hg1;go_wp2_with (go_at_call 269;refine zao _ _ _ ?_);exact HF.out
theorem zva (op d a b op2 d2 a2 b2:Int) (w:World) (hlm:¬ (⟨op,d,a,b⟩:Ln)=⟨op2,d2,a2,b2⟩) (hop:op=7) (hop2:op2=7) (bn : -9≤d∧d≤9∧-9≤a∧a≤9∧-9≤d2∧d2≤9∧-9≤a2∧a2≤9) (R:Ending→World→Prop) (hR:∀ w',Grow w w'→R (.returned (.bool (rnearB (⟨op,d,a,b⟩:Ln) ⟨op2,d2,a2,b2⟩))) w') :
  Calls Tryz.prog 245 #[.agg #[.int .i64 op,.int .i64 d,.int .i64 a,.int .i64 b],.agg #[.int .i64 op2,.int .i64 d2,.int .i64 a2,.int .i64 b2]] w R:=by
 subst hop;subst hop2;have HR:=jH hR;clear hR;obtain ⟨n,hn⟩:∃ n,fieldsN (⟨7,d,a,b⟩:Ln) ⟨7,d2,a2,b2⟩=n:=⟨_,rfl⟩;have HN:=jH hn;by_cases f1:d=d2;rotate_left
 ·skip
  have f1a:(d == d2)=false:=by simpa using f1
  have f1b:(d != d2)=true:=by simpa using f1
  have hF:¬ (d=d2∧3≤(7:Int)∧a=b2∧b=a2):=by omega
  by_cases hn1:n=1
  ·skip
   have hn1a:(n == 1)=true:=by simpa using hn1
   have hn1b:(n != 1)=false:=by simpa using hn1
   by_cases hi1:d - d2=1
   ·skip
    have hi1a:((d - d2) == 1)=true:=by simpa using hi1
    have hi1b:((d - d2) != 1)=false:=by simpa using hi1
    have hv:rnearB (⟨7,d,a,b⟩:Ln) ⟨7,d2,a2,b2⟩=true:=by unfold rnearB;rw [if_neg hlm,if_neg (by dsimp only;omega),if_neg (by dsimp only;omega),if_neg (by dsimp only;omega),if_neg hF,if_neg (by rw [HN.out];simpa using hn1),if_neg (by dsimp only;omega),if_pos (by dsimp only;omega)];simp only [decide_eq_true_eq];exact .inl hi1
    rw [hv] at HR;clear hv;have HR2:=jH HR.out;clear HR hlm hn;try clear hF
    try clear hn1
    try clear hi1
    try clear haa
    try clear hb
    try clear hx
    try clear f1
    go_enter func245,ntmps245
    go_wp2_with fail;obtain ⟨W,hWW,hb0,hb1,hg0⟩:=zax w (.cells #[.int .i64 7,.int .i64 d,.int .i64 a,.int .i64 b] 57) (.cells #[.int .i64 7,.int .i64 d2,.int .i64 a2,.int .i64 b2] 57);rw [hWW];clear hWW;refine zag 7 d a b 7 d2 a2 b2 _ _ ?_;intro w1 hg1;rw [HN.out];have HF:=jH (HR2.out w1 (hg0.trans hg1));replace hb0:=hg1.blk hb0;replace hb1:=hg1.blk hb1;obtain ⟨e0,e1,e2,e3⟩:=box4 hb0;obtain ⟨f0,f1,f2,f3⟩:=box4 hb1;have hz:=lt_of_block hb1;clear hb0 hb1 hg0 hg1;go_wp2_with (go_at_call 269;refine zao _ _ _ ?_);exact HF.out
   ·skip
    have hi1a:((d - d2) == 1)=false:=by simpa using hi1
    have hi1b:((d - d2) != 1)=true:=by simpa using hi1
    by_cases hi2:d2 - d=1
    ·skip
     have hi2a:((d2 - d) == 1)=true:=by simpa using hi2
     have hi2b:((d2 - d) != 1)=false:=by simpa using hi2
     have hv:rnearB (⟨7,d,a,b⟩:Ln) ⟨7,d2,a2,b2⟩=true:=by unfold rnearB;rw [if_neg hlm,if_neg (by dsimp only;omega),if_neg (by dsimp only;omega),if_neg (by dsimp only;omega),if_neg hF,if_neg (by rw [HN.out];simpa using hn1),if_neg (by dsimp only;omega),if_pos (by dsimp only;omega)];simp only [decide_eq_true_eq];exact .inr hi2
     rw [hv] at HR;clear hv;have HR2:=jH HR.out;clear HR hlm hn;try clear hF
     try clear hn1
     try clear hi1
     try clear hi2
     try clear haa
     try clear hb
     try clear hx
     try clear f1
     go_enter func245,ntmps245
     go_wp2_with fail;obtain ⟨W,hWW,hb0,hb1,hg0⟩:=zax w (.cells #[.int .i64 7,.int .i64 d,.int .i64 a,.int .i64 b] 57) (.cells #[.int .i64 7,.int .i64 d2,.int .i64 a2,.int .i64 b2] 57);rw [hWW];clear hWW;refine zag 7 d a b 7 d2 a2 b2 _ _ ?_;intro w1 hg1;rw [HN.out];have HF:=jH (HR2.out w1 (hg0.trans hg1));replace hb0:=hg1.blk hb0;replace hb1:=hg1.blk hb1;obtain ⟨e0,e1,e2,e3⟩:=box4 hb0;obtain ⟨f0,f1,f2,f3⟩:=box4 hb1;have hz:=lt_of_block hb1;clear hb0 hb1 hg0 hg1;go_wp2_with (go_at_call 269;refine zao _ _ _ ?_);exact HF.out
    ·skip
     have hi2a:((d2 - d) == 1)=false:=by simpa using hi2
     have hi2b:((d2 - d) != 1)=true:=by simpa using hi2
     have hv:rnearB (⟨7,d,a,b⟩:Ln) ⟨7,d2,a2,b2⟩=false:=by unfold rnearB;rw [if_neg hlm,if_neg (by dsimp only;omega),if_neg (by dsimp only;omega),if_neg (by dsimp only;omega),if_neg hF,if_neg (by rw [HN.out];simpa using hn1),if_neg (by dsimp only;omega),if_pos (by dsimp only;omega)];simp only [decide_eq_false_iff_not];omega
     rw [hv] at HR;clear hv;have HR2:=jH HR.out;clear HR hlm hn;try clear hF
     try clear hn1
     try clear hi1
     try clear hi2
     try clear haa
     try clear hb
     try clear hx
     try clear f1
     go_enter func245,ntmps245
     go_wp2_with fail;obtain ⟨W,hWW,hb0,hb1,hg0⟩:=zax w (.cells #[.int .i64 7,.int .i64 d,.int .i64 a,.int .i64 b] 57) (.cells #[.int .i64 7,.int .i64 d2,.int .i64 a2,.int .i64 b2] 57);rw [hWW];clear hWW;refine zag 7 d a b 7 d2 a2 b2 _ _ ?_;intro w1 hg1;rw [HN.out];have HF:=jH (HR2.out w1 (hg0.trans hg1));replace hb0:=hg1.blk hb0;replace hb1:=hg1.blk hb1;obtain ⟨e0,e1,e2,e3⟩:=box4 hb0;obtain ⟨f0,f1,f2,f3⟩:=box4 hb1;have hz:=lt_of_block hb1;clear hb0 hb1 hg0 hg1;go_wp2_with (go_at_call 269;refine zao _ _ _ ?_);exact HF.out
  ·skip
   have hn1a:(n == 1)=false:=by simpa using hn1
   have hn1b:(n != 1)=true:=by simpa using hn1
   have hv:rnearB (⟨7,d,a,b⟩:Ln) ⟨7,d2,a2,b2⟩=false:=by unfold rnearB;rw [if_neg hlm,if_neg (by dsimp only;omega),if_neg (by dsimp only;omega),if_neg (by dsimp only;omega),if_neg hF,if_pos (by rw [HN.out];exact hn1)]
   rw [hv] at HR;clear hv;have HR2:=jH HR.out;clear HR hlm hn;try clear hF
   try clear hn1
   try clear haa
   try clear hb
   try clear hx
   try clear f1
   go_enter func245,ntmps245
   go_wp2_with fail;obtain ⟨W,hWW,hb0,hb1,hg0⟩:=zax w (.cells #[.int .i64 7,.int .i64 d,.int .i64 a,.int .i64 b] 57) (.cells #[.int .i64 7,.int .i64 d2,.int .i64 a2,.int .i64 b2] 57);rw [hWW];clear hWW;refine zag 7 d a b 7 d2 a2 b2 _ _ ?_;intro w1 hg1;rw [HN.out];have HF:=jH (HR2.out w1 (hg0.trans hg1));replace hb0:=hg1.blk hb0;replace hb1:=hg1.blk hb1;obtain ⟨e0,e1,e2,e3⟩:=box4 hb0;obtain ⟨f0,f1,f2,f3⟩:=box4 hb1;have hz:=lt_of_block hb1;clear hb0 hb1 hg0 hg1;go_wp2_with (go_at_call 269;refine zao _ _ _ ?_);exact HF.out
 subst f1;by_cases hx:a=a2;rotate_left
 ·skip
  have hxa:(a == a2)=false:=by simpa using hx
  have hxb:(a != a2)=true:=by simpa using hx
  by_cases f3:a=b2
  ·skip
   have f3a:(a == b2)=true:=by simpa using f3
   have f3b:(a != b2)=false:=by simpa using f3
   by_cases f4:b=a2
   ·skip
    have f4a:(b == a2)=true:=by simpa using f4
    have f4b:(b != a2)=false:=by simpa using f4
    have hv:rnearB (⟨7,d,a,b⟩:Ln) ⟨7,d,a2,b2⟩=true:=by unfold rnearB;rw [if_neg hlm,if_neg (by dsimp only;omega),if_neg (by dsimp only;omega),if_neg (by dsimp only;omega),if_pos (by dsimp only;omega)]
    rw [hv] at HR;clear hv;have HR2:=jH HR.out;clear HR hlm hn;try clear hF
    try clear f3
    try clear f4
    try clear haa
    try clear hb
    try clear hx
    try clear f1
    go_enter func245,ntmps245
    go_wp2_with fail;obtain ⟨W,hWW,hb0,hb1,hg0⟩:=zax w (.cells #[.int .i64 7,.int .i64 d,.int .i64 a,.int .i64 b] 57) (.cells #[.int .i64 7,.int .i64 d,.int .i64 a2,.int .i64 b2] 57);rw [hWW];clear hWW;refine zag 7 d a b 7 d a2 b2 _ _ ?_;intro w1 hg1;rw [HN.out];have HF:=jH (HR2.out w1 (hg0.trans hg1));replace hb0:=hg1.blk hb0;replace hb1:=hg1.blk hb1;obtain ⟨e0,e1,e2,e3⟩:=box4 hb0;obtain ⟨f0,f1,f2,f3⟩:=box4 hb1;have hz:=lt_of_block hb1;clear hb0 hb1 hg0 hg1;go_wp2_with (go_at_call 269;refine zao _ _ _ ?_);exact HF.out
   ·skip
    have f4a:(b == a2)=false:=by simpa using f4
    have f4b:(b != a2)=true:=by simpa using f4
    have hF:¬ (d=d∧3≤(7:Int)∧a=b2∧b=a2):=by omega
    by_cases hn1:n=1
    ·skip
     have hn1a:(n == 1)=true:=by simpa using hn1
     have hn1b:(n != 1)=false:=by simpa using hn1
     have hv:rnearB (⟨7,d,a,b⟩:Ln) ⟨7,d,a2,b2⟩=true:=by unfold rnearB;rw [if_neg hlm,if_neg (by dsimp only;omega),if_neg (by dsimp only;omega),if_neg (by dsimp only;omega),if_neg hF,if_neg (by rw [HN.out];simpa using hn1),if_neg (by dsimp only;omega),if_neg (by dsimp only;omega)]
     rw [hv] at HR;clear hv;have HR2:=jH HR.out;clear HR hlm hn;try clear hF
     try clear f3
     try clear f4
     try clear hn1
     try clear haa
     try clear hb
     try clear hx
     try clear f1
     go_enter func245,ntmps245
     go_wp2_with fail;obtain ⟨W,hWW,hb0,hb1,hg0⟩:=zax w (.cells #[.int .i64 7,.int .i64 d,.int .i64 a,.int .i64 b] 57) (.cells #[.int .i64 7,.int .i64 d,.int .i64 a2,.int .i64 b2] 57);rw [hWW];clear hWW;refine zag 7 d a b 7 d a2 b2 _ _ ?_;intro w1 hg1;rw [HN.out];have HF:=jH (HR2.out w1 (hg0.trans hg1));replace hb0:=hg1.blk hb0;replace hb1:=hg1.blk hb1;obtain ⟨e0,e1,e2,e3⟩:=box4 hb0;obtain ⟨f0,f1,f2,f3⟩:=box4 hb1;have hz:=lt_of_block hb1;clear hb0 hb1 hg0 hg1;go_wp2_with (go_at_call 269;refine zao _ _ _ ?_);exact HF.out
    ·skip
     have hn1a:(n == 1)=false:=by simpa using hn1
     have hn1b:(n != 1)=true:=by simpa using hn1
     have hv:rnearB (⟨7,d,a,b⟩:Ln) ⟨7,d,a2,b2⟩=false:=by unfold rnearB;rw [if_neg hlm,if_neg (by dsimp only;omega),if_neg (by dsimp only;omega),if_neg (by dsimp only;omega),if_neg hF,if_pos (by rw [HN.out];exact hn1)]
     rw [hv] at HR;clear hv;have HR2:=jH HR.out;clear HR hlm hn;try clear hF
     try clear f3
     try clear f4
     try clear hn1
     try clear haa
     try clear hb
     try clear hx
     try clear f1
     go_enter func245,ntmps245
     go_wp2_with fail;obtain ⟨W,hWW,hb0,hb1,hg0⟩:=zax w (.cells #[.int .i64 7,.int .i64 d,.int .i64 a,.int .i64 b] 57) (.cells #[.int .i64 7,.int .i64 d,.int .i64 a2,.int .i64 b2] 57);rw [hWW];clear hWW;refine zag 7 d a b 7 d a2 b2 _ _ ?_;intro w1 hg1;rw [HN.out];have HF:=jH (HR2.out w1 (hg0.trans hg1));replace hb0:=hg1.blk hb0;replace hb1:=hg1.blk hb1;obtain ⟨e0,e1,e2,e3⟩:=box4 hb0;obtain ⟨f0,f1,f2,f3⟩:=box4 hb1;have hz:=lt_of_block hb1;clear hb0 hb1 hg0 hg1;go_wp2_with (go_at_call 269;refine zao _ _ _ ?_);exact HF.out
  ·skip
   have f3a:(a == b2)=false:=by simpa using f3
   have f3b:(a != b2)=true:=by simpa using f3
   have hF:¬ (d=d∧3≤(7:Int)∧a=b2∧b=a2):=by omega
   by_cases hn1:n=1
   ·skip
    have hn1a:(n == 1)=true:=by simpa using hn1
    have hn1b:(n != 1)=false:=by simpa using hn1
    have hv:rnearB (⟨7,d,a,b⟩:Ln) ⟨7,d,a2,b2⟩=true:=by unfold rnearB;rw [if_neg hlm,if_neg (by dsimp only;omega),if_neg (by dsimp only;omega),if_neg (by dsimp only;omega),if_neg hF,if_neg (by rw [HN.out];simpa using hn1),if_neg (by dsimp only;omega),if_neg (by dsimp only;omega)]
    rw [hv] at HR;clear hv;have HR2:=jH HR.out;clear HR hlm hn;try clear hF
    try clear f3
    try clear hn1
    try clear haa
    try clear hb
    try clear hx
    try clear f1
    go_enter func245,ntmps245
    go_wp2_with fail;obtain ⟨W,hWW,hb0,hb1,hg0⟩:=zax w (.cells #[.int .i64 7,.int .i64 d,.int .i64 a,.int .i64 b] 57) (.cells #[.int .i64 7,.int .i64 d,.int .i64 a2,.int .i64 b2] 57);rw [hWW];clear hWW;refine zag 7 d a b 7 d a2 b2 _ _ ?_;intro w1 hg1;rw [HN.out];have HF:=jH (HR2.out w1 (hg0.trans hg1));replace hb0:=hg1.blk hb0;replace hb1:=hg1.blk hb1;obtain ⟨e0,e1,e2,e3⟩:=box4 hb0;obtain ⟨f0,f1,f2,f3⟩:=box4 hb1;have hz:=lt_of_block hb1;clear hb0 hb1 hg0 hg1;go_wp2_with (go_at_call 269;refine zao _ _ _ ?_);exact HF.out
   ·skip
    have hn1a:(n == 1)=false:=by simpa using hn1
    have hn1b:(n != 1)=true:=by simpa using hn1
    have hv:rnearB (⟨7,d,a,b⟩:Ln) ⟨7,d,a2,b2⟩=false:=by unfold rnearB;rw [if_neg hlm,if_neg (by dsimp only;omega),if_neg (by dsimp only;omega),if_neg (by dsimp only;omega),if_neg hF,if_pos (by rw [HN.out];exact hn1)]
    rw [hv] at HR;clear hv;have HR2:=jH HR.out;clear HR hlm hn;try clear hF
    try clear f3
    try clear hn1
    try clear haa
    try clear hb
    try clear hx
    try clear f1
    go_enter func245,ntmps245
    go_wp2_with fail;obtain ⟨W,hWW,hb0,hb1,hg0⟩:=zax w (.cells #[.int .i64 7,.int .i64 d,.int .i64 a,.int .i64 b] 57) (.cells #[.int .i64 7,.int .i64 d,.int .i64 a2,.int .i64 b2] 57);rw [hWW];clear hWW;refine zag 7 d a b 7 d a2 b2 _ _ ?_;intro w1 hg1;rw [HN.out];have HF:=jH (HR2.out w1 (hg0.trans hg1));replace hb0:=hg1.blk hb0;replace hb1:=hg1.blk hb1;obtain ⟨e0,e1,e2,e3⟩:=box4 hb0;obtain ⟨f0,f1,f2,f3⟩:=box4 hb1;have hz:=lt_of_block hb1;clear hb0 hb1 hg0 hg1;go_wp2_with (go_at_call 269;refine zao _ _ _ ?_);exact HF.out
 subst hx;have hb:b≠b2:=fun e=>hlm (by rw [e])
 have hba:(b == b2)=false:=by simpa using hb
 have hbb:(b != b2)=true:=by simpa using hb
 by_cases f3:a=b2
 ·skip
  have f3a:(a == b2)=true:=by simpa using f3
  have f3b:(a != b2)=false:=by simpa using f3
  by_cases f4:b=a
  ·skip
   have f4a:(b == a)=true:=by simpa using f4
   have f4b:(b != a)=false:=by simpa using f4
   have hv:rnearB (⟨7,d,a,b⟩:Ln) ⟨7,d,a,b2⟩=true:=by unfold rnearB;rw [if_neg hlm,if_neg (by dsimp only;omega),if_neg (by dsimp only;omega),if_neg (by dsimp only;omega),if_pos (by dsimp only;omega)]
   rw [hv] at HR;clear hv;have HR2:=jH HR.out;clear HR hlm hn;try clear hF
   try clear f3
   try clear f4
   try clear haa
   try clear hb
   try clear hx
   try clear f1
   go_enter func245,ntmps245
   go_wp2_with fail;obtain ⟨W,hWW,hb0,hb1,hg0⟩:=zax w (.cells #[.int .i64 7,.int .i64 d,.int .i64 a,.int .i64 b] 57) (.cells #[.int .i64 7,.int .i64 d,.int .i64 a,.int .i64 b2] 57);rw [hWW];clear hWW;refine zag 7 d a b 7 d a b2 _ _ ?_;intro w1 hg1;rw [HN.out];have HF:=jH (HR2.out w1 (hg0.trans hg1));replace hb0:=hg1.blk hb0;replace hb1:=hg1.blk hb1;obtain ⟨e0,e1,e2,e3⟩:=box4 hb0;obtain ⟨f0,f1,f2,f3⟩:=box4 hb1;have hz:=lt_of_block hb1;clear hb0 hb1 hg0 hg1;go_wp2_with (go_at_call 269;refine zao _ _ _ ?_);exact HF.out
  ·skip
   have f4a:(b == a)=false:=by simpa using f4
   have f4b:(b != a)=true:=by simpa using f4
   have hF:¬ (d=d∧3≤(7:Int)∧a=b2∧b=a):=by omega
   by_cases hn1:n=1
   ·skip
    have hn1a:(n == 1)=true:=by simpa using hn1
    have hn1b:(n != 1)=false:=by simpa using hn1
    have hv:rnearB (⟨7,d,a,b⟩:Ln) ⟨7,d,a,b2⟩=true:=by unfold rnearB;rw [if_neg hlm,if_neg (by dsimp only;omega),if_neg (by dsimp only;omega),if_neg (by dsimp only;omega),if_neg hF,if_neg (by rw [HN.out];simpa using hn1),if_neg (by dsimp only;omega),if_neg (by dsimp only;omega)]
    rw [hv] at HR;clear hv;have HR2:=jH HR.out;clear HR hlm hn;try clear hF
    try clear f3
    try clear f4
    try clear hn1
    try clear haa
    try clear hb
    try clear hx
    try clear f1
    go_enter func245,ntmps245
    go_wp2_with fail;obtain ⟨W,hWW,hb0,hb1,hg0⟩:=zax w (.cells #[.int .i64 7,.int .i64 d,.int .i64 a,.int .i64 b] 57) (.cells #[.int .i64 7,.int .i64 d,.int .i64 a,.int .i64 b2] 57);rw [hWW];clear hWW;refine zag 7 d a b 7 d a b2 _ _ ?_;intro w1 hg1;rw [HN.out];have HF:=jH (HR2.out w1 (hg0.trans hg1));replace hb0:=hg1.blk hb0;replace hb1:=hg1.blk hb1;obtain ⟨e0,e1,e2,e3⟩:=box4 hb0;obtain ⟨f0,f1,f2,f3⟩:=box4 hb1;have hz:=lt_of_block hb1;clear hb0 hb1 hg0 hg1;go_wp2_with (go_at_call 269;refine zao _ _ _ ?_);exact HF.out
   ·skip
    have hn1a:(n == 1)=false:=by simpa using hn1
    have hn1b:(n != 1)=true:=by simpa using hn1
    have hv:rnearB (⟨7,d,a,b⟩:Ln) ⟨7,d,a,b2⟩=false:=by unfold rnearB;rw [if_neg hlm,if_neg (by dsimp only;omega),if_neg (by dsimp only;omega),if_neg (by dsimp only;omega),if_neg hF,if_pos (by rw [HN.out];exact hn1)]
    rw [hv] at HR;clear hv;have HR2:=jH HR.out;clear HR hlm hn;try clear hF
    try clear f3
    try clear f4
    try clear hn1
    try clear haa
    try clear hb
    try clear hx
    try clear f1
    go_enter func245,ntmps245
    go_wp2_with fail;obtain ⟨W,hWW,hb0,hb1,hg0⟩:=zax w (.cells #[.int .i64 7,.int .i64 d,.int .i64 a,.int .i64 b] 57) (.cells #[.int .i64 7,.int .i64 d,.int .i64 a,.int .i64 b2] 57);rw [hWW];clear hWW;refine zag 7 d a b 7 d a b2 _ _ ?_;intro w1 hg1;rw [HN.out];have HF:=jH (HR2.out w1 (hg0.trans hg1));replace hb0:=hg1.blk hb0;replace hb1:=hg1.blk hb1;obtain ⟨e0,e1,e2,e3⟩:=box4 hb0;obtain ⟨f0,f1,f2,f3⟩:=box4 hb1;have hz:=lt_of_block hb1;clear hb0 hb1 hg0 hg1;go_wp2_with (go_at_call 269;refine zao _ _ _ ?_);exact HF.out
 ·skip
  have f3a:(a == b2)=false:=by simpa using f3
  have f3b:(a != b2)=true:=by simpa using f3
  have hF:¬ (d=d∧3≤(7:Int)∧a=b2∧b=a):=by omega
  by_cases hn1:n=1
  ·skip
   have hn1a:(n == 1)=true:=by simpa using hn1
   have hn1b:(n != 1)=false:=by simpa using hn1
   have hv:rnearB (⟨7,d,a,b⟩:Ln) ⟨7,d,a,b2⟩=true:=by unfold rnearB;rw [if_neg hlm,if_neg (by dsimp only;omega),if_neg (by dsimp only;omega),if_neg (by dsimp only;omega),if_neg hF,if_neg (by rw [HN.out];simpa using hn1),if_neg (by dsimp only;omega),if_neg (by dsimp only;omega)]
   rw [hv] at HR;clear hv;have HR2:=jH HR.out;clear HR hlm hn;try clear hF
   try clear f3
   try clear hn1
   try clear haa
   try clear hb
   try clear hx
   try clear f1
   go_enter func245,ntmps245
   go_wp2_with fail;obtain ⟨W,hWW,hb0,hb1,hg0⟩:=zax w (.cells #[.int .i64 7,.int .i64 d,.int .i64 a,.int .i64 b] 57) (.cells #[.int .i64 7,.int .i64 d,.int .i64 a,.int .i64 b2] 57);rw [hWW];clear hWW;refine zag 7 d a b 7 d a b2 _ _ ?_;intro w1 hg1;rw [HN.out];have HF:=jH (HR2.out w1 (hg0.trans hg1));replace hb0:=hg1.blk hb0;replace hb1:=hg1.blk hb1;obtain ⟨e0,e1,e2,e3⟩:=box4 hb0;obtain ⟨f0,f1,f2,f3⟩:=box4 hb1;have hz:=lt_of_block hb1;clear hb0 hb1 hg0 hg1;go_wp2_with (go_at_call 269;refine zao _ _ _ ?_);exact HF.out
  ·skip
   have hn1a:(n == 1)=false:=by simpa using hn1
   have hn1b:(n != 1)=true:=by simpa using hn1
   have hv:rnearB (⟨7,d,a,b⟩:Ln) ⟨7,d,a,b2⟩=false:=by unfold rnearB;rw [if_neg hlm,if_neg (by dsimp only;omega),if_neg (by dsimp only;omega),if_neg (by dsimp only;omega),if_neg hF,if_pos (by rw [HN.out];exact hn1)]
   rw [hv] at HR;clear hv;have HR2:=jH HR.out;clear HR hlm hn;try clear hF
   try clear f3
   try clear hn1
   try clear haa
   try clear hb
   try clear hx
   try clear f1
   go_enter func245,ntmps245
   go_wp2_with fail;obtain ⟨W,hWW,hb0,hb1,hg0⟩:=zax w (.cells #[.int .i64 7,.int .i64 d,.int .i64 a,.int .i64 b] 57) (.cells #[.int .i64 7,.int .i64 d,.int .i64 a,.int .i64 b2] 57);rw [hWW];clear hWW;refine zag 7 d a b 7 d a b2 _ _ ?_;intro w1 hg1;rw [HN.out];have HF:=jH (HR2.out w1 (hg0.trans hg1));replace hb0:=hg1.blk hb0;replace hb1:=hg1.blk hb1;obtain ⟨e0,e1,e2,e3⟩:=box4 hb0;obtain ⟨f0,f1,f2,f3⟩:=box4 hb1;have hz:=lt_of_block hb1;clear hb0 hb1 hg0 hg1;go_wp2_with (go_at_call 269;refine zao _ _ _ ?_);exact HF.out
set_option maxRecDepth 100000
set_option maxHeartbeats 16000000
theorem zuh (op d a b op2 d2 a2 b2:Int) (w:World) (hlm:¬ (⟨op,d,a,b⟩:Ln)=⟨op2,d2,a2,b2⟩) (h3:3≤op) (h6:op≤6) (hop2:op=op2) (R:Ending→World→Prop) (hR:∀ w',Grow w w'→R (.returned (.bool (rnearB (⟨op,d,a,b⟩:Ln) ⟨op2,d2,a2,b2⟩))) w') :
  Calls Tryz.prog 245 #[.agg #[.int .i64 op,.int .i64 d,.int .i64 a,.int .i64 b],.agg #[.int .i64 op2,.int .i64 d2,.int .i64 a2,.int .i64 b2]] w R:=by
 subst hop2;have h3a:op≥3:=h3;have t0:(op == 0)=false:=by simp;omega
 have t1:(op == 1)=false:=by simp;omega
 have t7:(op == 7)=false:=by simp;omega
 have tn:(op != op)=false:=by simp
 have HR:=jH hR;clear hR;obtain ⟨n,hn⟩:∃ n,fieldsN (⟨op,d,a,b⟩:Ln) ⟨op,d2,a2,b2⟩=n:=⟨_,rfl⟩;have HN:=jH hn;by_cases f1:d=d2;rotate_left
 ·skip
  have f1a:(d == d2)=false:=by simpa using f1
  have f1b:(d != d2)=true:=by simpa using f1
  have hF:¬ (d=d2∧3≤op∧a=b2∧b=a2):=by omega
  by_cases hn1:n=1
  ·skip
   have hn1a:(n == 1)=true:=by simpa using hn1
   have hn1b:(n != 1)=false:=by simpa using hn1
   have hv:rnearB (⟨op,d,a,b⟩:Ln) ⟨op,d2,a2,b2⟩=true:=by unfold rnearB;rw [if_neg hlm,if_neg (by dsimp only;omega),if_neg (by dsimp only;omega),if_neg (by dsimp only;omega),if_neg hF,if_neg (by rw [HN.out];simpa using hn1),if_neg (by dsimp only;omega),if_neg (by dsimp only;omega)]
   rw [hv] at HR;clear hv;have HR2:=jH HR.out;clear HR hlm hn;try clear hF
   try clear hn1
   try clear haa
   try clear hb
   try clear hx
   try clear f1
   go_enter func245,ntmps245
   go_wp2_with fail;obtain ⟨W,hWW,hb0,hb1,hg0⟩:=zax w (.cells #[.int .i64 op,.int .i64 d,.int .i64 a,.int .i64 b] 57) (.cells #[.int .i64 op,.int .i64 d2,.int .i64 a2,.int .i64 b2] 57);rw [hWW];clear hWW;refine zag op d a b op d2 a2 b2 _ _ ?_;intro w1 hg1;rw [HN.out];have HF:=jH (HR2.out w1 (hg0.trans hg1));replace hb0:=hg1.blk hb0;replace hb1:=hg1.blk hb1;obtain ⟨e0,e1,e2,e3⟩:=box4 hb0;obtain ⟨f0,f1,f2,f3⟩:=box4 hb1;have hz:=lt_of_block hb1;clear hb0 hb1 hg0 hg1;go_wp2_with (go_at_call 269;refine zao _ _ _ ?_);exact HF.out
  ·skip
   have hn1a:(n == 1)=false:=by simpa using hn1
   have hn1b:(n != 1)=true:=by simpa using hn1
   have hv:rnearB (⟨op,d,a,b⟩:Ln) ⟨op,d2,a2,b2⟩=false:=by unfold rnearB;rw [if_neg hlm,if_neg (by dsimp only;omega),if_neg (by dsimp only;omega),if_neg (by dsimp only;omega),if_neg hF,if_pos (by rw [HN.out];exact hn1)]
   rw [hv] at HR;clear hv;have HR2:=jH HR.out;clear HR hlm hn;try clear hF
   try clear hn1
   try clear haa
   try clear hb
   try clear hx
   try clear f1
   go_enter func245,ntmps245
   go_wp2_with fail;obtain ⟨W,hWW,hb0,hb1,hg0⟩:=zax w (.cells #[.int .i64 op,.int .i64 d,.int .i64 a,.int .i64 b] 57) (.cells #[.int .i64 op,.int .i64 d2,.int .i64 a2,.int .i64 b2] 57);rw [hWW];clear hWW;refine zag op d a b op d2 a2 b2 _ _ ?_;intro w1 hg1;rw [HN.out];have HF:=jH (HR2.out w1 (hg0.trans hg1));replace hb0:=hg1.blk hb0;replace hb1:=hg1.blk hb1;obtain ⟨e0,e1,e2,e3⟩:=box4 hb0;obtain ⟨f0,f1,f2,f3⟩:=box4 hb1;have hz:=lt_of_block hb1;clear hb0 hb1 hg0 hg1;go_wp2_with (go_at_call 269;refine zao _ _ _ ?_);exact HF.out
 subst f1;by_cases hx:a=a2;rotate_left
 ·skip
  have hxa:(a == a2)=false:=by simpa using hx
  have hxb:(a != a2)=true:=by simpa using hx
  by_cases f3:a=b2
  ·skip
   have f3a:(a == b2)=true:=by simpa using f3
   have f3b:(a != b2)=false:=by simpa using f3
   by_cases f4:b=a2
   ·skip
    have f4a:(b == a2)=true:=by simpa using f4
    have f4b:(b != a2)=false:=by simpa using f4
    have hv:rnearB (⟨op,d,a,b⟩:Ln) ⟨op,d,a2,b2⟩=true:=by unfold rnearB;rw [if_neg hlm,if_neg (by dsimp only;omega),if_neg (by dsimp only;omega),if_neg (by dsimp only;omega),if_pos (by dsimp only;omega)]
    rw [hv] at HR;clear hv;have HR2:=jH HR.out;clear HR hlm hn;try clear hF
    try clear f3
    try clear f4
    try clear haa
    try clear hb
    try clear hx
    try clear f1
    go_enter func245,ntmps245
    go_wp2_with fail;obtain ⟨W,hWW,hb0,hb1,hg0⟩:=zax w (.cells #[.int .i64 op,.int .i64 d,.int .i64 a,.int .i64 b] 57) (.cells #[.int .i64 op,.int .i64 d,.int .i64 a2,.int .i64 b2] 57);rw [hWW];clear hWW;refine zag op d a b op d a2 b2 _ _ ?_;intro w1 hg1;rw [HN.out];have HF:=jH (HR2.out w1 (hg0.trans hg1));replace hb0:=hg1.blk hb0;replace hb1:=hg1.blk hb1;obtain ⟨e0,e1,e2,e3⟩:=box4 hb0;obtain ⟨f0,f1,f2,f3⟩:=box4 hb1;have hz:=lt_of_block hb1;clear hb0 hb1 hg0 hg1;go_wp2_with (go_at_call 269;refine zao _ _ _ ?_);exact HF.out
   ·skip
    have f4a:(b == a2)=false:=by simpa using f4
    have f4b:(b != a2)=true:=by simpa using f4
    have hF:¬ (d=d∧3≤op∧a=b2∧b=a2):=by omega
    by_cases hn1:n=1
    ·skip
     have hn1a:(n == 1)=true:=by simpa using hn1
     have hn1b:(n != 1)=false:=by simpa using hn1
     have hv:rnearB (⟨op,d,a,b⟩:Ln) ⟨op,d,a2,b2⟩=true:=by unfold rnearB;rw [if_neg hlm,if_neg (by dsimp only;omega),if_neg (by dsimp only;omega),if_neg (by dsimp only;omega),if_neg hF,if_neg (by rw [HN.out];simpa using hn1),if_neg (by dsimp only;omega),if_neg (by dsimp only;omega)]
     rw [hv] at HR;clear hv;have HR2:=jH HR.out;clear HR hlm hn;try clear hF
     try clear f3
     try clear f4
     try clear hn1
     try clear haa
     try clear hb
     try clear hx
     try clear f1
     go_enter func245,ntmps245
     go_wp2_with fail;obtain ⟨W,hWW,hb0,hb1,hg0⟩:=zax w (.cells #[.int .i64 op,.int .i64 d,.int .i64 a,.int .i64 b] 57) (.cells #[.int .i64 op,.int .i64 d,.int .i64 a2,.int .i64 b2] 57);rw [hWW];clear hWW;refine zag op d a b op d a2 b2 _ _ ?_;intro w1 hg1;rw [HN.out];have HF:=jH (HR2.out w1 (hg0.trans hg1));replace hb0:=hg1.blk hb0;replace hb1:=hg1.blk hb1;obtain ⟨e0,e1,e2,e3⟩:=box4 hb0;obtain ⟨f0,f1,f2,f3⟩:=box4 hb1;have hz:=lt_of_block hb1;clear hb0 hb1 hg0 hg1;go_wp2_with (go_at_call 269;refine zao _ _ _ ?_);exact HF.out
    ·skip
     have hn1a:(n == 1)=false:=by simpa using hn1
     have hn1b:(n != 1)=true:=by simpa using hn1
     have hv:rnearB (⟨op,d,a,b⟩:Ln) ⟨op,d,a2,b2⟩=false:=by unfold rnearB;rw [if_neg hlm,if_neg (by dsimp only;omega),if_neg (by dsimp only;omega),if_neg (by dsimp only;omega),if_neg hF,if_pos (by rw [HN.out];exact hn1)]
     rw [hv] at HR;clear hv;have HR2:=jH HR.out;clear HR hlm hn;try clear hF
     try clear f3
     try clear f4
     try clear hn1
     try clear haa
     try clear hb
     try clear hx
     try clear f1
     go_enter func245,ntmps245
     go_wp2_with fail;obtain ⟨W,hWW,hb0,hb1,hg0⟩:=zax w (.cells #[.int .i64 op,.int .i64 d,.int .i64 a,.int .i64 b] 57) (.cells #[.int .i64 op,.int .i64 d,.int .i64 a2,.int .i64 b2] 57);rw [hWW];clear hWW;refine zag op d a b op d a2 b2 _ _ ?_;intro w1 hg1;rw [HN.out];have HF:=jH (HR2.out w1 (hg0.trans hg1));replace hb0:=hg1.blk hb0;replace hb1:=hg1.blk hb1;obtain ⟨e0,e1,e2,e3⟩:=box4 hb0;obtain ⟨f0,f1,f2,f3⟩:=box4 hb1;have hz:=lt_of_block hb1;clear hb0 hb1 hg0 hg1;go_wp2_with (go_at_call 269;refine zao _ _ _ ?_);exact HF.out
  ·skip
   have f3a:(a == b2)=false:=by simpa using f3
   have f3b:(a != b2)=true:=by simpa using f3
   have hF:¬ (d=d∧3≤op∧a=b2∧b=a2):=by omega
   by_cases hn1:n=1
   ·skip
    have hn1a:(n == 1)=true:=by simpa using hn1
    have hn1b:(n != 1)=false:=by simpa using hn1
    have hv:rnearB (⟨op,d,a,b⟩:Ln) ⟨op,d,a2,b2⟩=true:=by unfold rnearB;rw [if_neg hlm,if_neg (by dsimp only;omega),if_neg (by dsimp only;omega),if_neg (by dsimp only;omega),if_neg hF,if_neg (by rw [HN.out];simpa using hn1),if_neg (by dsimp only;omega),if_neg (by dsimp only;omega)]
    rw [hv] at HR;clear hv;have HR2:=jH HR.out;clear HR hlm hn;try clear hF
    try clear f3
    try clear hn1
    try clear haa
    try clear hb
    try clear hx
    try clear f1
    go_enter func245,ntmps245
    go_wp2_with fail;obtain ⟨W,hWW,hb0,hb1,hg0⟩:=zax w (.cells #[.int .i64 op,.int .i64 d,.int .i64 a,.int .i64 b] 57) (.cells #[.int .i64 op,.int .i64 d,.int .i64 a2,.int .i64 b2] 57);rw [hWW];clear hWW;refine zag op d a b op d a2 b2 _ _ ?_;intro w1 hg1;rw [HN.out];have HF:=jH (HR2.out w1 (hg0.trans hg1));replace hb0:=hg1.blk hb0;replace hb1:=hg1.blk hb1;obtain ⟨e0,e1,e2,e3⟩:=box4 hb0;obtain ⟨f0,f1,f2,f3⟩:=box4 hb1;have hz:=lt_of_block hb1;clear hb0 hb1 hg0 hg1;go_wp2_with (go_at_call 269;refine zao _ _ _ ?_);exact HF.out
   ·skip
    have hn1a:(n == 1)=false:=by simpa using hn1
    have hn1b:(n != 1)=true:=by simpa using hn1
    have hv:rnearB (⟨op,d,a,b⟩:Ln) ⟨op,d,a2,b2⟩=false:=by unfold rnearB;rw [if_neg hlm,if_neg (by dsimp only;omega),if_neg (by dsimp only;omega),if_neg (by dsimp only;omega),if_neg hF,if_pos (by rw [HN.out];exact hn1)]
    rw [hv] at HR;clear hv;have HR2:=jH HR.out;clear HR hlm hn;try clear hF
    try clear f3
    try clear hn1
    try clear haa
    try clear hb
    try clear hx
    try clear f1
    go_enter func245,ntmps245
    go_wp2_with fail;obtain ⟨W,hWW,hb0,hb1,hg0⟩:=zax w (.cells #[.int .i64 op,.int .i64 d,.int .i64 a,.int .i64 b] 57) (.cells #[.int .i64 op,.int .i64 d,.int .i64 a2,.int .i64 b2] 57);rw [hWW];clear hWW;refine zag op d a b op d a2 b2 _ _ ?_;intro w1 hg1;rw [HN.out];have HF:=jH (HR2.out w1 (hg0.trans hg1));replace hb0:=hg1.blk hb0;replace hb1:=hg1.blk hb1;obtain ⟨e0,e1,e2,e3⟩:=box4 hb0;obtain ⟨f0,f1,f2,f3⟩:=box4 hb1;have hz:=lt_of_block hb1;clear hb0 hb1 hg0 hg1;go_wp2_with (go_at_call 269;refine zao _ _ _ ?_);exact HF.out
 subst hx;have hb:b≠b2:=fun e=>hlm (by rw [e])
 have hba:(b == b2)=false:=by simpa using hb
 have hbb:(b != b2)=true:=by simpa using hb
 by_cases f3:a=b2
 ·skip
  have f3a:(a == b2)=true:=by simpa using f3
  have f3b:(a != b2)=false:=by simpa using f3
  by_cases f4:b=a
  ·skip
   have f4a:(b == a)=true:=by simpa using f4
   have f4b:(b != a)=false:=by simpa using f4
   have hv:rnearB (⟨op,d,a,b⟩:Ln) ⟨op,d,a,b2⟩=true:=by unfold rnearB;rw [if_neg hlm,if_neg (by dsimp only;omega),if_neg (by dsimp only;omega),if_neg (by dsimp only;omega),if_pos (by dsimp only;omega)]
   rw [hv] at HR;clear hv;have HR2:=jH HR.out;clear HR hlm hn;try clear hF
   try clear f3
   try clear f4
   try clear haa
   try clear hb
   try clear hx
   try clear f1
   go_enter func245,ntmps245
   go_wp2_with fail;obtain ⟨W,hWW,hb0,hb1,hg0⟩:=zax w (.cells #[.int .i64 op,.int .i64 d,.int .i64 a,.int .i64 b] 57) (.cells #[.int .i64 op,.int .i64 d,.int .i64 a,.int .i64 b2] 57);rw [hWW];clear hWW;refine zag op d a b op d a b2 _ _ ?_;intro w1 hg1;rw [HN.out];have HF:=jH (HR2.out w1 (hg0.trans hg1));replace hb0:=hg1.blk hb0;replace hb1:=hg1.blk hb1;obtain ⟨e0,e1,e2,e3⟩:=box4 hb0;obtain ⟨f0,f1,f2,f3⟩:=box4 hb1;have hz:=lt_of_block hb1;clear hb0 hb1 hg0 hg1;go_wp2_with (go_at_call 269;refine zao _ _ _ ?_);exact HF.out
  ·skip
   have f4a:(b == a)=false:=by simpa using f4
   have f4b:(b != a)=true:=by simpa using f4
   have hF:¬ (d=d∧3≤op∧a=b2∧b=a):=by omega
   by_cases hn1:n=1
   ·skip
    have hn1a:(n == 1)=true:=by simpa using hn1
    have hn1b:(n != 1)=false:=by simpa using hn1
    have hv:rnearB (⟨op,d,a,b⟩:Ln) ⟨op,d,a,b2⟩=true:=by unfold rnearB;rw [if_neg hlm,if_neg (by dsimp only;omega),if_neg (by dsimp only;omega),if_neg (by dsimp only;omega),if_neg hF,if_neg (by rw [HN.out];simpa using hn1),if_neg (by dsimp only;omega),if_neg (by dsimp only;omega)]
    rw [hv] at HR;clear hv;have HR2:=jH HR.out;clear HR hlm hn;try clear hF
    try clear f3
    try clear f4
    try clear hn1
    try clear haa
    try clear hb
    try clear hx
    try clear f1
    go_enter func245,ntmps245
    go_wp2_with fail;obtain ⟨W,hWW,hb0,hb1,hg0⟩:=zax w (.cells #[.int .i64 op,.int .i64 d,.int .i64 a,.int .i64 b] 57) (.cells #[.int .i64 op,.int .i64 d,.int .i64 a,.int .i64 b2] 57);rw [hWW];clear hWW;refine zag op d a b op d a b2 _ _ ?_;intro w1 hg1;rw [HN.out];have HF:=jH (HR2.out w1 (hg0.trans hg1));replace hb0:=hg1.blk hb0;replace hb1:=hg1.blk hb1;obtain ⟨e0,e1,e2,e3⟩:=box4 hb0;obtain ⟨f0,f1,f2,f3⟩:=box4 hb1;have hz:=lt_of_block hb1;clear hb0 hb1 hg0 hg1;go_wp2_with (go_at_call 269;refine zao _ _ _ ?_);exact HF.out
   ·skip
    have hn1a:(n == 1)=false:=by simpa using hn1
    have hn1b:(n != 1)=true:=by simpa using hn1
    have hv:rnearB (⟨op,d,a,b⟩:Ln) ⟨op,d,a,b2⟩=false:=by unfold rnearB;rw [if_neg hlm,if_neg (by dsimp only;omega),if_neg (by dsimp only;omega),if_neg (by dsimp only;omega),if_neg hF,if_pos (by rw [HN.out];exact hn1)]
    rw [hv] at HR;clear hv;have HR2:=jH HR.out;clear HR hlm hn;try clear hF
    try clear f3
    try clear f4
    try clear hn1
    try clear haa
    try clear hb
    try clear hx
    try clear f1
    go_enter func245,ntmps245
    go_wp2_with fail;obtain ⟨W,hWW,hb0,hb1,hg0⟩:=zax w (.cells #[.int .i64 op,.int .i64 d,.int .i64 a,.int .i64 b] 57) (.cells #[.int .i64 op,.int .i64 d,.int .i64 a,.int .i64 b2] 57);rw [hWW];clear hWW;refine zag op d a b op d a b2 _ _ ?_;intro w1 hg1;rw [HN.out];have HF:=jH (HR2.out w1 (hg0.trans hg1));replace hb0:=hg1.blk hb0;replace hb1:=hg1.blk hb1;obtain ⟨e0,e1,e2,e3⟩:=box4 hb0;obtain ⟨f0,f1,f2,f3⟩:=box4 hb1;have hz:=lt_of_block hb1;clear hb0 hb1 hg0 hg1;go_wp2_with (go_at_call 269;refine zao _ _ _ ?_);exact HF.out
 ·skip
  have f3a:(a == b2)=false:=by simpa using f3
  have f3b:(a != b2)=true:=by simpa using f3
  have hF:¬ (d=d∧3≤op∧a=b2∧b=a):=by omega
  by_cases hn1:n=1
  ·skip
   have hn1a:(n == 1)=true:=by simpa using hn1
   have hn1b:(n != 1)=false:=by simpa using hn1
   have hv:rnearB (⟨op,d,a,b⟩:Ln) ⟨op,d,a,b2⟩=true:=by unfold rnearB;rw [if_neg hlm,if_neg (by dsimp only;omega),if_neg (by dsimp only;omega),if_neg (by dsimp only;omega),if_neg hF,if_neg (by rw [HN.out];simpa using hn1),if_neg (by dsimp only;omega),if_neg (by dsimp only;omega)]
   rw [hv] at HR;clear hv;have HR2:=jH HR.out;clear HR hlm hn;try clear hF
   try clear f3
   try clear hn1
   try clear haa
   try clear hb
   try clear hx
   try clear f1
   go_enter func245,ntmps245
   go_wp2_with fail;obtain ⟨W,hWW,hb0,hb1,hg0⟩:=zax w (.cells #[.int .i64 op,.int .i64 d,.int .i64 a,.int .i64 b] 57) (.cells #[.int .i64 op,.int .i64 d,.int .i64 a,.int .i64 b2] 57);rw [hWW];clear hWW;refine zag op d a b op d a b2 _ _ ?_;intro w1 hg1;rw [HN.out];have HF:=jH (HR2.out w1 (hg0.trans hg1));replace hb0:=hg1.blk hb0;replace hb1:=hg1.blk hb1;obtain ⟨e0,e1,e2,e3⟩:=box4 hb0;obtain ⟨f0,f1,f2,f3⟩:=box4 hb1;have hz:=lt_of_block hb1;clear hb0 hb1 hg0 hg1;go_wp2_with (go_at_call 269;refine zao _ _ _ ?_);exact HF.out
  ·skip
   have hn1a:(n == 1)=false:=by simpa using hn1
   have hn1b:(n != 1)=true:=by simpa using hn1
   have hv:rnearB (⟨op,d,a,b⟩:Ln) ⟨op,d,a,b2⟩=false:=by unfold rnearB;rw [if_neg hlm,if_neg (by dsimp only;omega),if_neg (by dsimp only;omega),if_neg (by dsimp only;omega),if_neg hF,if_pos (by rw [HN.out];exact hn1)]
   rw [hv] at HR;clear hv;have HR2:=jH HR.out;clear HR hlm hn;try clear hF
   try clear f3
   try clear hn1
   try clear haa
   try clear hb
   try clear hx
   try clear f1
   go_enter func245,ntmps245
   go_wp2_with fail;obtain ⟨W,hWW,hb0,hb1,hg0⟩:=zax w (.cells #[.int .i64 op,.int .i64 d,.int .i64 a,.int .i64 b] 57) (.cells #[.int .i64 op,.int .i64 d,.int .i64 a,.int .i64 b2] 57);rw [hWW];clear hWW;refine zag op d a b op d a b2 _ _ ?_;intro w1 hg1;rw [HN.out];have HF:=jH (HR2.out w1 (hg0.trans hg1));replace hb0:=hg1.blk hb0;replace hb1:=hg1.blk hb1;obtain ⟨e0,e1,e2,e3⟩:=box4 hb0;obtain ⟨f0,f1,f2,f3⟩:=box4 hb1;have hz:=lt_of_block hb1;clear hb0 hb1 hg0 hg1;go_wp2_with (go_at_call 269;refine zao _ _ _ ?_);exact HF.out
set_option maxRecDepth 100000
set_option maxHeartbeats 16000000
theorem zod (op d a b op2 d2 a2 b2:Int) (w:World) (hl:(⟨op,d,a,b⟩:Ln).ok=true) (hm:(⟨op2,d2,a2,b2⟩:Ln).ok=true) (R:Ending→World→Prop) (hR:∀ w',Grow w w'→R (.returned (.bool (rnearB ⟨op,d,a,b⟩ ⟨op2,d2,a2,b2⟩))) w') :
  Calls Tryz.prog 245 #[.agg #[.int .i64 op,.int .i64 d,.int .i64 a,.int .i64 b],.agg #[.int .i64 op2,.int .i64 d2,.int .i64 a2,.int .i64 b2]] w R:=by
 have cl:=zcr hl;have cm:=zcr hm;dsimp only at cl cm;have bd:0≤op∧op≤7∧0≤op2∧op2≤7:=by clear hR;omega
 have bn : -9≤d∧d≤9∧-9≤a∧a≤9∧-9≤d2∧d2≤9∧-9≤a2∧a2≤9:=by clear hR;omega
 clear cl cm hl hm;by_cases hlm:(⟨op,d,a,b⟩:Ln)=⟨op2,d2,a2,b2⟩
 ·have hv:rnearB ⟨op,d,a,b⟩ ⟨op2,d2,a2,b2⟩=false:=by unfold rnearB;rw [if_pos hlm]
  rw [hv] at hR;have HR:=jH hR;clear hR hv;simp only [Ln.mk.injEq] at hlm;obtain ⟨rfl,rfl,rfl,rfl⟩:=hlm
  go_enter func245,ntmps245
  go_wp2_with fail;exact HR.out _ (((Grow.refl _).alloc _).alloc _)
 ·by_cases h0:op=0
  ·have hv:rnearB ⟨op,d,a,b⟩ ⟨op2,d2,a2,b2⟩=false:=by unfold rnearB;rw [if_neg hlm,if_pos h0]
   rw [hv] at hR;have HR:=jH hR;have HN:=jH hlm;subst h0;clear hR hv hlm bd bn;by_cases gq0:0=op2;rotate_left
   ·have tq1:(0 == op2)=false:=by simpa using gq0
    have tq2:(0 != op2)=true:=by simpa using gq0
    go_enter func245,ntmps245
    go_wp2_with fail;exact HR.out _ (((Grow.refl _).alloc _).alloc _)
   subst gq0;by_cases gq1:d=d2;rotate_left
   ·have tq1:(d == d2)=false:=by simpa using gq1
    have tq2:(d != d2)=true:=by simpa using gq1
    go_enter func245,ntmps245
    go_wp2_with fail;exact HR.out _ (((Grow.refl _).alloc _).alloc _)
   subst gq1;by_cases gq2:a=a2;rotate_left
   ·have tq1:(a == a2)=false:=by simpa using gq2
    have tq2:(a != a2)=true:=by simpa using gq2
    go_enter func245,ntmps245
    go_wp2_with fail;exact HR.out _ (((Grow.refl _).alloc _).alloc _)
   subst gq2;by_cases gq3:b=b2;rotate_left
   ·have tq1:(b == b2)=false:=by simpa using gq3
    have tq2:(b != b2)=true:=by simpa using gq3
    go_enter func245,ntmps245
    go_wp2_with fail;exact HR.out _ (((Grow.refl _).alloc _).alloc _)
   subst gq3;exact absurd rfl HN.out
  ·by_cases h2:op2=0
   ·have hv:rnearB ⟨op,d,a,b⟩ ⟨op2,d2,a2,b2⟩=true:=by unfold rnearB;rw [if_neg hlm,if_neg h0,if_pos h2]
    rw [hv] at hR;have HR:=jH hR;have t0:(op == 0)=false:=by simpa using h0
    subst h2;clear hR hv hlm bd bn h0
    go_enter func245,ntmps245
    go_wp2_with fail;exact HR.out _ (((Grow.refl _).alloc _).alloc _)
   ·by_cases h4:op2≠op
    ·exact zuj op d a b op2 d2 a2 b2 w hlm h0 h2 h4 R hR
    ·have h5:op2=op:=by omega
     by_cases k1:op=1
     ·exact zuc op d a b op2 d2 a2 b2 w hlm k1 (h5.trans k1) bn R hR
     ·by_cases k2:op=2
      ·exact ztn op d a b op2 d2 a2 b2 w hlm k2 (h5.trans k2) R hR
      ·by_cases k7:op=7
       ·exact zva op d a b op2 d2 a2 b2 w hlm k7 (h5.trans k7) bn R hR
       ·exact zuh op d a b op2 d2 a2 b2 w hlm (by omega) (by omega) h5.symm R hR
set_option maxRecDepth 100000
set_option maxHeartbeats 16000000
theorem zrs (t:Int) (n:Nat):(setA t n).length=n:=by simp [setA]
theorem ztf (n:Nat):(setT n).length≤19 * n:=zdg (fun t:Nat=>setA (t:Int) 19) 19 (fun _=>by rw [zrs];exact Nat.le_refl _) n
theorem zxl (t:Int) (n:Nat):(cpA t n).length=n:=by simp [cpA]
theorem zwe (n:Nat):(cpT n).length≤4 * n:=zdg (fun t:Nat=>cpA (t:Int) 4) 4 (fun _=>by rw [zxl];exact Nat.le_refl _) n
theorem zwi (o t a:Int) (n:Nat):(opB o t a n).length=n:=by simp [opB]
theorem zxf (o t:Int) (n:Nat):(opA o t n).length≤4 * n:=zdg (fun a:Nat=>opB o t (a:Int) 4) 4 (fun _=>by rw [zwi];exact Nat.le_refl _) n
theorem zpi (o:Int) (lo n:Nat):(opT o lo n).length≤16 * n:=zdg (fun t:Nat=>opA o ((lo+t:Nat):Int) 4) 16 (fun t=>Nat.le_trans (zxf o ((lo+t:Nat):Int) 4) (by omega)) n
theorem opO_len (n:Nat):(opO n).length≤128 * n:=zdg (fun k:Nat=>if k=4 then opT 7 1 8 else opT ((3+k:Nat):Int) 0 4) 128 (fun k=>by
 split
 ·exact zpi 7 1 8
 ·exact Nat.le_trans (zpi _ 0 4) (by omega)) n
def headR:List Ln:=[⟨0,0,0,0⟩]
def head1:List Ln:=headR++setT 4
def head2:List Ln:=head1++cpT 4
theorem znx:head1.length≤77:=by unfold head1 headR;rw [List.length_append];have:=ztf 4;simp;omega
theorem head2_len:head2.length≤93:=by unfold head2;rw [List.length_append];have:=znx;have:=zwe 4;omega
theorem len_set (t m:Nat) (ht:t<4) (hm:m<19):(headR++setT t++setA t m).length<100000000000:=by
 simp only [List.length_append];have:=ztf t;have:=zrs t m;simp [headR];omega
theorem len_cp (t m:Nat) (ht:t<4) (hm:m<4):(head1++cpT t++cpA t m).length<100000000000:=by
 simp only [List.length_append];have:=znx;have:=zwe t;have:=zxl t m;omega
theorem len_op (k:Nat) (o:Int) (lo t a b:Nat) (h:Int) (hk:k<5) (ht:t<8) (ha:a<4) (hb:b<4):(head2++opO k++opT o lo t++opA o h a++opB o h a b).length<100000000000:=by
 simp only [List.length_append];have:=head2_len;have:=opO_len k;have:=zpi o lo t;have:=zxf o h a;have:=zwi o h a b;omega
theorem zxd (t:Int) (n:Nat):setA t (n+1)=setA t n++[⟨1,t,(n:Int) - 9,0⟩]:=by simp [setA,List.range_succ]
theorem cpA_snoc (t:Int) (n:Nat):cpA t (n+1)=cpA t n++[⟨2,t,(n:Int),0⟩]:=by simp [cpA,List.range_succ]
theorem zsx (o t a:Int) (n:Nat):opB o t a (n+1)=opB o t a n++[⟨o,t,a,(n:Int)⟩]:=by simp [opB,List.range_succ]
theorem zjf (w:World) (R:Ending→World→Prop) (hR:∀ w' v,Grow w w'→LinesAt w' v allR→R (.returned v) w') :
  Calls Tryz.prog 244 #[] w R:=by
 have HR:=jH hR;clear hR
 go_enter func244,ntmps244
 go_wp2_with fail
 go_loopw [1,2] (fun out c wr=>∃ t:Nat,t≤4∧c=.int .i64 t∧AL w (headR++setT t) out wr) (fun _ c _=>(4 - intOf c).toNat)
 case atStart=>exact ⟨0,by omega,rfl,(Grow.refl _).alloc _,World.ownsRow_lit w (base:=w.heap.size) (e:=57) (size:=4) #[.int .i64 0,.int .i64 0,.int .i64 0,.int .i64 0] 1 (Nat.le_refl _) (by simp [maxLen]) rfl⟩
 case round=>
  obtain ⟨t,ht,rfl,ha⟩:=hrel;have HA:=jH ha;clear ha;by_cases hlt:t<4
  ·have hlt2:(t:Int)<4:=by omega
   go_wp2_with fail;obtain ⟨wo2,rfl⟩:∃ z:World,z=wr:=⟨_,rfl⟩
   go_loopw [1,3] (fun out c wr=>∃ (m:Nat) (x:Int),m≤19∧x=(m:Int) - 9∧c=.int .i64 x∧AL w (headR++setT t++setA t m) out wr) (fun _ c _=>(10 - intOf c).toNat)
   case atStart=>exact ⟨0,-9,by omega,by omega,rfl,by show AL w (headR++setT t++[]) _ _;rw [List.append_nil];exact HA.out⟩
   case round=>
    obtain ⟨m,x,hm,hx,rfl,ha⟩:=hrel;clear HA;have HA:=jH ha;have HX:=jH hx;clear ha;by_cases hltm:m<19
    ·have hx1:x≤9:=by omega
     have hx0 : -9≤x:=by omega
     have HLEN:=jH (len_set t m hlt hltm);clear hx;go_wp2_with (at_builtin;refine zad _ rfl (.tmp 22) (.tmp 26) 22 rfl w.heap.size 57 underlying22 zar rfl (by decide) (by decide) encL zab zaj _ (headR++setT t++setA t m) rfl (HA.out.grow ((Grow.refl _).alloc _)).ow _ (⟨1,t,x,0⟩:Ln) 1 rfl (zan _ _ (by simp) (encL ⟨1,t,x,0⟩) _) HLEN.out (by have:=HA.out.g.sz;simp;omega) ?_;intro out2 w2 hown2 hgr2)
     have HA2:=jH (HA.out.app (y:=⟨1,t,x,0⟩) ((Grow.refl _).alloc _) hown2 hgr2);clear hown2 hgr2;go_roundw
     case rel=>exact ⟨m+1,x+1,by omega,by have:=HX.out;omega,rfl,by rw [zxd,← HX.out,← List.append_assoc];exact HA2.out⟩
     case measure=>simp [intOf];omega
    ·have hm19:m=19:=by omega
     subst hm19;have hx10:x=10:=by omega
     subst hx10;clear hx HX;go_wp2_with fail;go_roundw
     case rel=>exact ⟨t+1,by omega,by go_num,by rw [zwt,← List.append_assoc];exact HA.out⟩
     case measure=>simp [intOf];omega
  ·have ht4:t=4:=by omega
   have HA1:Hid (AL w head1 _ _):=jH (by have h:=HA.out;rw [ht4] at h;exact h)
   clear HA ht4;go_wp2_with fail;obtain ⟨wo3,rfl⟩:∃ z:World,z=wr:=⟨_,rfl⟩
   go_loopw [1,4] (fun out c wr=>∃ t:Nat,t≤4∧c=.int .i64 t∧AL w (head1++cpT t) out wr) (fun _ c _=>(4 - intOf c).toNat)
   case atStart=>exact ⟨0,by omega,rfl,by show AL w (head1++[]) _ _;rw [List.append_nil];exact HA1.out⟩
   case round=>
    obtain ⟨t,ht,rfl,ha⟩:=hrel;clear HA1;have HA:=jH ha;clear ha;by_cases hlt:t<4
    ·have hlt2:(t:Int)<4:=by omega
     go_wp2_with fail;obtain ⟨wo4,rfl⟩:∃ z:World,z=wr:=⟨_,rfl⟩
     go_loopw [1,5] (fun out c wr=>∃ m:Nat,m≤4∧c=.int .i64 m∧AL w (head1++cpT t++cpA t m) out wr) (fun _ c _=>(4 - intOf c).toNat)
     case atStart=>exact ⟨0,by omega,rfl,by show AL w (head1++cpT t++[]) _ _;rw [List.append_nil];exact HA.out⟩
     case round=>
      obtain ⟨m,hm,rfl,ha⟩:=hrel;clear HA;have HA:=jH ha;clear ha;by_cases hltm:m<4
      ·have hm2:(m:Int)<4:=by omega
       have HLEN:=jH (len_cp t m hlt hltm);go_wp2_with (at_builtin;refine zad _ rfl (.tmp 36) (.tmp 40) 22 rfl w.heap.size 57 underlying22 zar rfl (by decide) (by decide) encL zab zaj _ (head1++cpT t++cpA t m) rfl (HA.out.grow ((Grow.refl _).alloc _)).ow _ (⟨2,t,m,0⟩:Ln) 1 rfl (zan _ _ (by simp) (encL ⟨2,t,m,0⟩) _) HLEN.out (by have:=HA.out.g.sz;simp;omega) ?_;intro out2 w2 hown2 hgr2)
       have HA2:=jH (HA.out.app (y:=⟨2,t,m,0⟩) ((Grow.refl _).alloc _) hown2 hgr2);clear hown2 hgr2;go_roundw
       case rel=>exact ⟨m+1,by omega,by go_num,by rw [cpA_snoc,← List.append_assoc];exact HA2.out⟩
       case measure=>simp [intOf];omega
      ·have hm4:m=4:=by omega
       subst hm4;go_wp2_with fail;go_roundw
       case rel=>exact ⟨t+1,by omega,by go_num,by rw [cpT_succ,← List.append_assoc];exact HA.out⟩
       case measure=>simp [intOf];omega
    ·have ht4:t=4:=by omega
     have HA1:Hid (AL w head2 _ _):=jH (by have h:=HA.out;rw [ht4] at h;exact h)
     clear HA ht4;go_wp2_with fail;obtain ⟨wo5,rfl⟩:∃ z:World,z=wr:=⟨_,rfl⟩
     go_loopw [1,6] (fun out c wr=>∃ k q:Nat,k≤5∧q=3+k∧c=.int .i64 q∧AL w (head2++opO k) out wr) (fun _ c _=>(8 - intOf c).toNat)
     case atStart=>exact ⟨0,3,by omega,by omega,rfl,by show AL w (head2++[]) _ _;rw [List.append_nil];exact HA1.out⟩
     case round=>
      obtain ⟨k,q,hk,hq,rfl,ha⟩:=hrel;clear HA1;have HA:=jH ha;have HQ:=jH hq;clear ha;by_cases hlt:k<5;rotate_left
      ·have hk5:k=5:=by omega
       subst hk5;have hq8:q=8:=by omega
       subst hq8;clear hq HQ;have HF:=jH (HR.out _ _ HA.out.g (zaa zab HA.out.ow));go_wp2_with fail;exact HF.out
      ·by_cases hk4:k=4
       ·have HK4:=jH hk4;have hq2:(q:Int)≤7:=by omega
        have hq0:3≤(q:Int):=by omega
        have tq:((q:Int) == 7)=true:=by simp;omega
        clear hq hk4;go_wp2_with fail;obtain ⟨wo6,rfl⟩:∃ z:World,z=wr:=⟨_,rfl⟩
        go_loopw [1,9] (fun out c wr=>∃ t d:Nat,t≤8∧d=1+t∧c=.int .i64 d∧AL w (head2++opO k++opT q 1 t) out wr) (fun _ c _=>(9 - intOf c).toNat)
        case atStart=>exact ⟨0,1,by omega,by omega,rfl,by show AL w (head2++opO k++[]) _ _;rw [List.append_nil];exact HA.out⟩
        case round=>
         obtain ⟨t,d,ht,hd,rfl,ha⟩:=hrel;clear HA;have HA:=jH ha;have HD:=jH hd;clear ha;by_cases hltt:t<8
         ·have hd2:(d:Int)≤8:=by omega
          clear hd;go_wp2_with fail;obtain ⟨wo7,rfl⟩:∃ z:World,z=wr:=⟨_,rfl⟩
          go_loopw [1,10] (fun out c wr=>∃ a:Nat,a≤4∧c=.int .i64 a∧AL w (head2++opO k++opT q 1 t++opA q d a) out wr) (fun _ c _=>(4 - intOf c).toNat)
          case atStart=>exact ⟨0,by omega,rfl,by show AL w (head2++opO k++opT q 1 t++[]) _ _;rw [List.append_nil];exact HA.out⟩
          case round=>
           obtain ⟨a,hma,rfl,ha⟩:=hrel;clear HA;have HA:=jH ha;clear ha;by_cases hlta:a<4
           ·have ha2:(a:Int)<4:=by omega
            go_wp2_with fail;obtain ⟨wo8,rfl⟩:∃ z:World,z=wr:=⟨_,rfl⟩
            go_loopw [1,11] (fun out c wr=>∃ b:Nat,b≤4∧c=.int .i64 b∧AL w (head2++opO k++opT q 1 t++opA q d a++opB q d a b) out wr) (fun _ c _=>(4 - intOf c).toNat)
            case atStart=>exact ⟨0,by omega,rfl,by show AL w (head2++opO k++opT q 1 t++opA q d a++[]) _ _;rw [List.append_nil];exact HA.out⟩
            case round=>
             obtain ⟨b,hmb,rfl,ha⟩:=hrel;clear HA;have HA:=jH ha;clear ha;by_cases hltb:b<4
             ·have hb2:(b:Int)<4:=by omega
              have HLEN:=jH (len_op k q 1 t a b d hlt (by omega) hlta hltb)
              go_wp2_with (at_builtin;refine zad _ rfl (.tmp 62) (.tmp 68) 22 rfl w.heap.size 57 underlying22 zar rfl (by decide) (by decide) encL zab zaj _ (head2++opO k++opT q 1 t++opA q d a++opB q d a b) rfl (HA.out.grow ((Grow.refl _).alloc _)).ow _ (⟨q,d,a,b⟩:Ln) 1 rfl (zan _ _ (by simp) (encL ⟨q,d,a,b⟩) _) HLEN.out (by have:=HA.out.g.sz;simp;omega) ?_;intro out2 w2 hown2 hgr2)
              have HA2:=jH (HA.out.app (y:=⟨q,d,a,b⟩) ((Grow.refl _).alloc _) hown2 hgr2);clear hown2 hgr2;go_roundw
              case rel=>exact ⟨b+1,by omega,by go_num,by rw [zsx,← List.append_assoc];exact HA2.out⟩
              case measure=>simp [intOf];omega
             ·have hb4:b=4:=by omega
              subst hb4;go_wp2_with fail;go_roundw
              case rel=>exact ⟨a+1,by omega,by go_num,by rw [zso,← List.append_assoc];exact HA.out⟩
              case measure=>simp [intOf];omega
           ·have ha4:a=4:=by omega
            subst ha4;go_wp2_with fail;go_roundw
            case rel=>exact ⟨t+1,d+1,by omega,by have:=HD.out;omega,by go_num,by rw [zss,← HD.out,← List.append_assoc];exact HA.out⟩
            case measure=>simp [intOf];omega
         ·have ht4:t=8:=by omega
          subst ht4;have hd3:d=9:=by omega
          subst hd3;clear hd HD;go_wp2_with fail;go_roundw
          case rel=>
           have e:opO (k+1)=opO k++opT (q:Int) 1 8:=by rw [zro,if_pos HK4.out,show ((q:Nat):Int)=7 by have:=HQ.out;have:=HK4.out;omega]
           exact ⟨k+1,q+1,by omega,by have:=HQ.out;omega,by go_num,by rw [e,← List.append_assoc];exact HA.out⟩
          case measure=>simp [intOf];omega
       ·have hq2:(q:Int)≤7:=by omega
        have hq0:3≤(q:Int):=by omega
        have tq:((q:Int) == 7)=false:=by simp;omega
        clear hq;go_wp2_with fail;obtain ⟨wo9,rfl⟩:∃ z:World,z=wr:=⟨_,rfl⟩
        go_loopw [1,9] (fun out c wr=>∃ t d:Nat,t≤4∧d=0+t∧c=.int .i64 d∧AL w (head2++opO k++opT q 0 t) out wr) (fun _ c _=>(4 - intOf c).toNat)
        case atStart=>exact ⟨0,0,by omega,by omega,rfl,by show AL w (head2++opO k++[]) _ _;rw [List.append_nil];exact HA.out⟩
        case round=>
         obtain ⟨t,d,ht,hd,rfl,ha⟩:=hrel;clear HA;have HA:=jH ha;have HD:=jH hd;clear ha;by_cases hltt:t<4
         ·have hd2:(d:Int)≤3:=by omega
          clear hd;go_wp2_with fail;obtain ⟨wo10,rfl⟩:∃ z:World,z=wr:=⟨_,rfl⟩
          go_loopw [1,10] (fun out c wr=>∃ a:Nat,a≤4∧c=.int .i64 a∧AL w (head2++opO k++opT q 0 t++opA q d a) out wr) (fun _ c _=>(4 - intOf c).toNat)
          case atStart=>exact ⟨0,by omega,rfl,by show AL w (head2++opO k++opT q 0 t++[]) _ _;rw [List.append_nil];exact HA.out⟩
          case round=>
           obtain ⟨a,hma,rfl,ha⟩:=hrel;clear HA;have HA:=jH ha;clear ha;by_cases hlta:a<4
           ·have ha2:(a:Int)<4:=by omega
            go_wp2_with fail;obtain ⟨wo11,rfl⟩:∃ z:World,z=wr:=⟨_,rfl⟩
            go_loopw [1,11] (fun out c wr=>∃ b:Nat,b≤4∧c=.int .i64 b∧AL w (head2++opO k++opT q 0 t++opA q d a++opB q d a b) out wr) (fun _ c _=>(4 - intOf c).toNat)
            case atStart=>exact ⟨0,by omega,rfl,by show AL w (head2++opO k++opT q 0 t++opA q d a++[]) _ _;rw [List.append_nil];exact HA.out⟩
            case round=>
             obtain ⟨b,hmb,rfl,ha⟩:=hrel;clear HA;have HA:=jH ha;clear ha;by_cases hltb:b<4
             ·have hb2:(b:Int)<4:=by omega
              have HLEN:=jH (len_op k q 0 t a b d hlt (by omega) hlta hltb)
              go_wp2_with (at_builtin;refine zad _ rfl (.tmp 62) (.tmp 68) 22 rfl w.heap.size 57 underlying22 zar rfl (by decide) (by decide) encL zab zaj _ (head2++opO k++opT q 0 t++opA q d a++opB q d a b) rfl (HA.out.grow ((Grow.refl _).alloc _)).ow _ (⟨q,d,a,b⟩:Ln) 1 rfl (zan _ _ (by simp) (encL ⟨q,d,a,b⟩) _) HLEN.out (by have:=HA.out.g.sz;simp;omega) ?_;intro out2 w2 hown2 hgr2)
              have HA2:=jH (HA.out.app (y:=⟨q,d,a,b⟩) ((Grow.refl _).alloc _) hown2 hgr2);clear hown2 hgr2;go_roundw
              case rel=>exact ⟨b+1,by omega,by go_num,by rw [zsx,← List.append_assoc];exact HA2.out⟩
              case measure=>simp [intOf];omega
             ·have hb4:b=4:=by omega
              subst hb4;go_wp2_with fail;go_roundw
              case rel=>exact ⟨a+1,by omega,by go_num,by rw [zso,← List.append_assoc];exact HA.out⟩
              case measure=>simp [intOf];omega
           ·have ha4:a=4:=by omega
            subst ha4;go_wp2_with fail;go_roundw
            case rel=>exact ⟨t+1,d+1,by omega,by have:=HD.out;omega,by go_num,by rw [zss,← HD.out,← List.append_assoc];exact HA.out⟩
            case measure=>simp [intOf];omega
         ·have ht4:t=4:=by omega
          subst ht4;have hd3:d=4:=by omega
          subst hd3;clear hd HD;go_wp2_with fail;go_roundw
          case rel=>exact ⟨k+1,q+1,by omega,by have:=HQ.out;omega,by go_num,by rw [zro,if_neg hk4,← HQ.out,← List.append_assoc];exact HA.out⟩
          case measure=>simp [intOf];omega
end Go.Proofs.YtmeejlgnhfkeaaaGreatDoor
