/- Parts. -/
import Derived.Test.YtmeejlgnhfkeaaaGreatDoorR17
import Derived.Lib.SmallJoins
import Derived.Test.YtmeejlgnhfkeaaaGreatDoorR10
import Derived.Test.YtmeejlgnhfkeaaaGreatDoorR16
import Derived.Test.YtmeejlgnhfkeaaaGreatDoorR15
import Derived.Test.YtmeejlgnhfkeaaaGreatDoorR00
namespace Go.Proofs.YtmeejlgnhfkeaaaGreatDoor
open Go.RowKit
def sizeR (p:List Ln) (e:Ed):Int:=fieldsN (lineAt p e.at_) e.l
def everyR (p:List Ln) (ts:List Tst) (kind:Int) (k:Nat):List Ed:=(List.range k).flatMap fun n:Nat=>(fixR p ts n kind).map (Ed.mk n)
theorem zkm (p:List Ln) (ts:List Tst) (kind:Int) (k:Nat):everyR p ts kind (k+1)=everyR p ts kind k++(fixR p ts k kind).map (Ed.mk k):=by
 unfold everyR;rw [List.range_succ,List.flatMap_append];simp
theorem fixE_eq (p:List Ln) (ts:List Tst) (a:Int) (C:List Ln):fixE p ts a C=((fixE p ts a C).map Ed.l).map (Ed.mk a):=by
 unfold fixE;rw [List.map_map,List.map_map]
 rfl
theorem zre {p:List Ln} {ts:List Tst} {kind:Int} (hp:valP p=0) (ht:valT ts=0) (k0:0≤kind) (k2:kind≤2):∀ k,k≤p.length→everyN p ts (candAt p kind) k=everyR p ts kind k
 | 0,_=>rfl
 | k+1,hk=>by rw [zgs,zkm,zre hp ht k0 k2 k (by omega),fixE_eq,fixE_R hp ht k0 k2 (show k<p.length by omega)]
theorem zuk {p:List Ln} {ts:List Tst} {kind:Int} {k:Nat} {e:Ed} (h:e∈everyR p ts kind k):0≤e.at_∧e.at_<k∧e.l.ok=true∧e.l∈fixR p ts e.at_ kind:=by
 unfold everyR at h;obtain ⟨n,hn,he⟩:=List.mem_flatMap.1 h;obtain ⟨l,hl,rfl⟩:=List.mem_map.1 he;have hn':=List.mem_range.1 hn;refine ⟨?_,?_,zmq (List.mem_filter.1 hl).1,hl⟩
 ·show 0≤(n:Int);omega
 ·show (n:Int)<(k:Int);omega
theorem zxs {p:List Ln} {ts:List Tst} {kind:Int} (hp:valP p=0) {e:Ed} (h:e∈everyR p ts kind p.length):size1 p e=sizeR p e:=by
 obtain ⟨h0,h1,hx,_⟩:=zuk h;obtain ⟨t,l⟩:=e;dsimp only at h0 h1 hx;have hc:chkX p [⟨t,l⟩] []=0:=znv hp (by rfl) h0 h1 hx
 unfold size1 sizeE;rw [if_pos hc];unfold sizeR lineAt;simp [sizeL]
def BestP (p:List Ln) (G:List Ed) (e:Ed) (m:Int):Prop:=(G=[]∧e=⟨0,⟨0,0,0,0⟩⟩∧m=-1)∨∃ j,G[j]?=some e∧FirstMin (G.map (sizeR p)) j m
theorem BestP.start (p:List Ln):BestP p [] ⟨0,⟨0,0,0,0⟩⟩ (-1):=.inl ⟨rfl,rfl,rfl⟩
theorem zft (p:List Ln) (e:Ed):0≤sizeR p e:=(zdu _ _).1
theorem BestP.size {p:List Ln} {G:List Ed} {e:Ed} {m:Int} (h:BestP p G e m):(G=[]∧m=-1)∨(0≤m∧m≤4∧m=sizeR p e):=by
 rcases h with ⟨h,_,hm⟩ | ⟨j,hj,hm,_⟩
 ·exact .inl ⟨h,hm⟩
 ·rw [List.getElem?_map,hj] at hm;have:m=sizeR p e:=(Option.some.inj hm).symm;exact .inr ⟨by rw [this];exact zft _ _,by rw [this];exact (zdu _ _).2,this⟩
theorem FirstMin.snoc {S:List Int} {j:Nat} {m s:Int} (h:FirstMin S j m):(s<m→FirstMin (S++[s]) S.length s)∧(¬ s<m→FirstMin (S++[s]) j m):=by
 have h1:FirstMin ((S++[s]).take S.length) j m:=by rw [List.take_left];exact h
 have h2:=h1.step (s:=s) (by simp)
 rw [show (S++[s]).take (S.length+1)=S++[s] from List.take_of_length_le (by simp)] at h2
 exact h2
theorem BestP.take {p:List Ln} {G:List Ed} {e x:Ed} {m:Int} (h:BestP p G e m) (hs:m<0∨sizeR p x<m):BestP p (G++[x]) x (sizeR p x):=by
 refine .inr ⟨G.length,by simp,?_⟩
 rw [List.map_append,List.map_cons,List.map_nil];rcases h with ⟨rfl,_,rfl⟩ | ⟨j,hj,hm⟩
 ·exact FirstMin.one (S:=[sizeR p x]) rfl
 ·have hlt:sizeR p x<m:=by
   rcases hs with hs | hs
   ·have:=hm.1;rw [List.getElem?_map,hj] at this;have:m=sizeR p e:=(Option.some.inj this).symm;have:=zft p e;omega
   ·exact hs
  have:=(hm.snoc (s:=sizeR p x)).1 hlt;rw [List.length_map] at this;exact this
theorem BestP.skip {p:List Ln} {G:List Ed} {e x:Ed} {m:Int} (h:BestP p G e m) (h0:¬ m<0) (hs:¬ sizeR p x<m) (b:Bool):BestP p (G++if b then [x] else []) e m:=by
 cases b with
 | false=>simpa using h
 | true=>
  rcases h with ⟨_,_,rfl⟩ | ⟨j,hj,hm⟩
  ·omega
  ·refine .inr ⟨j,?_,?_⟩
   ·rw [if_pos rfl,List.getElem?_append_left (List.getElem?_eq_some_iff.1 hj).1];exact hj
   ·rw [if_pos rfl,List.map_append];exact (hm.snoc (s:=sizeR p x)).2 hs
theorem BestP.sngl {p:List Ln} {ts:List Tst} {kind:Int} {e:Ed} {m:Int} (hs:sgtE p ts kind=0) (h:BestP p (everyR p ts kind p.length) e m):SnglP p ts kind e (decide (0≤m)):=by
 obtain ⟨⟨hv,hvt⟩,⟨k0,k2⟩,_⟩:=znd.1 hs;have hE:=zre hv hvt k0 k2 p.length (Nat.le_refl _);rcases h with ⟨h,rfl,rfl⟩ | ⟨j,hj,hm⟩
 ·exact .inl ⟨by decide,rfl,.inr (by rw [hE];exact h)⟩
 ·have h1:m=sizeR p e:=by
   have:=hm.1;rw [List.getElem?_map,hj] at this;exact (Option.some.inj this).symm
  have h0:=zft p e;refine .inr ⟨by simp;omega,hs,j,by rw [hE];exact hj,?_⟩
  rw [hE,List.map_congr_left (g:=sizeR p) (fun x hx=>zxs hv hx),zxs hv (List.mem_of_getElem? hj),← h1];exact hm
def set5 (w:World) (g:Nat) (e:Ed):World:=((((w.setCell ⟨g,0,none⟩ (.int .i64 e.at_)).setCell ⟨g,1,none⟩ (.int .i64 e.l.op)).setCell ⟨g,2,none⟩ (.int .i64 e.l.d)).setCell ⟨g,3,none⟩ (.int .i64 e.l.a)).setCell ⟨g,4,none⟩ (.int .i64 e.l.b)
def EBlk (w:World) (g:Nat) (e:Ed):Prop:=w.heap[g]?=some (.cells #[.int .i64 e.at_,.int .i64 e.l.op,.int .i64 e.l.d,.int .i64 e.l.a,.int .i64 e.l.b] 60 (0,0))
theorem EBlk.set {w:World} {g:Nat} {e:Ed} (h:EBlk w g e) (f:Ed):EBlk (set5 w g f) g f:=by
 have h0:=Go.Joins.block_setCell (i:=0) h (.int .i64 f.at_);have h1:=Go.Joins.block_setCell (i:=1) h0 (.int .i64 f.l.op);have h2:=Go.Joins.block_setCell (i:=2) h1 (.int .i64 f.l.d);have h3:=Go.Joins.block_setCell (i:=3) h2 (.int .i64 f.l.a);have h4:=Go.Joins.block_setCell (i:=4) h3 (.int .i64 f.l.b);unfold EBlk set5;rw [h4]
 rfl
theorem zeq {B:Nat} {a w:World} {g:Nat} (e:Ed) (h:Below B a w) (hg:B≤g):Below B a (set5 w g e):=zty h hg 0 1 2 3 4 _ _ _ _ _
theorem zkj (w:World) (g:Nat) (e:Ed):(set5 w g e).heap.size=w.heap.size:=by simp [set5,World.size_setCell]
theorem zma {w:World} {g:Nat} {e:Ed} {a:Option Addr} {n c:Nat} {xs:List Ln} (h:LinesAt w (.slice a n c) xs) (hb:∀ b o s,a=some ⟨b,o,s⟩→b≠g):LinesAt (set5 w g e) (.slice a n c) xs:=by
 obtain ⟨a',c',hv,h1,h2,h3⟩:=h;cases hv;refine ⟨a,c,rfl,h1,h2,h3.imp id ?_⟩;rintro ⟨b,o,rfl,hbl,hc⟩;refine ⟨b,o,rfl,by rw [zkj];exact hbl,fun j x hx i u hu=>?_⟩
 have hne:=hb b o none rfl;unfold set5;rw [World.cell?_setCell_far _ _ _ _ (by exact fun h=>hne h.symm),World.cell?_setCell_far _ _ _ _ (by exact fun h=>hne h.symm),World.cell?_setCell_far _ _ _ _ (by exact fun h=>hne h.symm),World.cell?_setCell_far _ _ _ _ (by exact fun h=>hne h.symm),World.cell?_setCell_far _ _ _ _ (by exact fun h=>hne h.symm)]
 exact hc j x hx i u hu
theorem own_blk {base k:Nat} {α:Type} {enc:α→List Value} {w:World} {a:Option Addr} {n c:Nat} {xs:List α} (h:Own k enc base w (.slice a n c) xs):∀ b o s,a=some ⟨b,o,s⟩→base≤b:=by
 obtain ⟨e,h⟩:=h;intro b o s ha;subst ha;rcases h.2 with ⟨hv,_⟩ | ⟨g,cap,cur,hv,hg,_⟩
 ·cases hv
 ·cases hv;exact hg
def dblB (p:List Ln) (ts:List Tst) (x y:Ed):Bool:=decide (x.at_<y.at_) && (decide (chkX p [x,y] ts=0) && goodM p [x,y] ts)
def pairX (p:List Ln) (ts:List Tst) (x:Ed) (ys:List Ed):List (List Ed):=(ys.filter (dblB p ts x)).map fun y=>[x,y]
def pairsL (p:List Ln) (ts:List Tst):List Ed→List (List Ed)
 | []=>[]
 | x :: r=>pairX p ts x r++pairsL p ts r
theorem zzk (p:List Ln) (ts:List Tst) (x:Ed):pairX p ts x []=[]:=rfl
theorem zxv (p:List Ln) (ts:List Tst) (x:Ed) (ys zs:List Ed):pairX p ts x (ys++zs)=pairX p ts x ys++pairX p ts x zs:=by unfold pairX;rw [List.filter_append,List.map_append]
theorem zlr (p:List Ln) (ts:List Tst) (x y:Ed) (ys:List Ed):pairX p ts x (y :: ys)=(if dblB p ts x y then [[x,y]] else [])++pairX p ts x ys:=by
 unfold pairX;rw [List.filter_cons];cases dblB p ts x y<;>rfl
theorem zxp (p:List Ln) (ts:List Tst) (x:Ed) (ys:List Ed):(pairX p ts x ys).length≤ys.length:=by unfold pairX;rw [List.length_map];exact List.length_filter_le _ _
theorem zmf (p:List Ln) (ts:List Tst):∀ (M:List Ed) (n:Nat),M.length≤n→(pairsL p ts M).length≤M.length * n
 | [],_,_=>by simp [pairsL]
 | x :: r,n,h=>by
  rw [List.length_cons] at h;have h1:=zxp p ts x r;have h2:=zmf p ts r n (by omega)
  rw [pairsL,List.length_append,List.length_cons,Nat.succ_mul];omega
theorem zqk {p:List Ln} {ts:List Tst} {M:List Ed} {k:Nat} {x:Ed} (h:M[k]?=some x):pairsL p ts (M.drop k)=pairX p ts x (M.drop (k+1))++pairsL p ts (M.drop (k+1)):=by
 rw [show M.drop k=x :: M.drop (k+1) by obtain ⟨h1,rfl⟩:=List.getElem?_eq_some_iff.1 h;exact List.drop_eq_getElem_cons h1];rfl
theorem zvo {p:List Ln} {ts:List Tst} {ys:List Ed} {j:Nat} {x y:Ed} (h:ys[j]?=some y):pairX p ts x (ys.drop j)=(if dblB p ts x y then [[x,y]] else [])++pairX p ts x (ys.drop (j+1)):=by
 rw [show ys.drop j=y :: ys.drop (j+1) by obtain ⟨h1,rfl⟩:=List.getElem?_eq_some_iff.1 h;exact List.drop_eq_getElem_cons h1];exact zlr _ _ _ _ _
theorem zts {p:List Ln} {ts:List Tst} {x:Ed} {ys:List Ed} (h:∀ y∈ys,y.at_=x.at_):pairX p ts x ys=[]:=by
 unfold pairX;rw [List.filter_eq_nil_iff.2,List.map_nil];intro y hy hd;unfold dblB at hd;rw [Bool.and_eq_true,decide_eq_true_eq] at hd;have:=h y hy;omega
theorem zmc {p:List Ln} {ts:List Tst} {l:List Ed}:∀ {M:List Ed},l∈pairsL p ts M→∃ x y,x∈M∧y∈M∧l=[x,y]∧dblB p ts x y=true
 | [],h=>by simp [pairsL] at h
 | x :: r,h=>by
  rcases List.mem_append.1 h with h | h
  ·obtain ⟨y,hy,rfl⟩:=List.mem_map.1 h;obtain ⟨h1,h2⟩:=List.mem_filter.1 hy;exact ⟨x,y,by simp,by simp [h1],rfl,h2⟩
  ·obtain ⟨a,b,ha,hb,h1,h2⟩:=zmc h;exact ⟨a,b,by simp [ha],by simp [hb],h1,h2⟩
def nearX (p:List Ln) (n:Nat):List Ed:=(tmpl (lineAt p n)).map (Ed.mk n)
def tailM (p:List Ln) (n k:Nat):List Ed:=(List.range' n k).flatMap (nearX p)
theorem zup (p:List Ln) (n k:Nat):tailM p n (k+1)=nearX p n++tailM p (n+1) k:=rfl
theorem zyc (p:List Ln):tailM p 0 p.length=mutM p p.length:=by unfold tailM mutM;rw [List.range_eq_range'];rfl
theorem zrd {p:List Ln} {n:Nat} (h:n<p.length):tailM p n (p.length - n)=nearX p n++tailM p (n+1) (p.length - (n+1)):=by
 rw [show p.length - n=(p.length - (n+1))+1 by omega];exact zup _ _ _
theorem zog (p:List Ln):tailM p p.length (p.length - p.length)=[]:=by rw [Nat.sub_self];rfl
theorem zkf {a b:Int} {x y:Ln} (h0:0≤a) (hab:a<b) (h1:b<8) (hx:x.ok=true) (hy:y.ok=true):edsOK [⟨a,x⟩,⟨b,y⟩]=true:=by
 refine zid (k:=2) (fun i hi=>?_) (by simp)
 have:i=0∨i=1:=by omega
 rcases this with rfl | rfl
 ·exact (zgd (e:=⟨a,x⟩) rfl).2 ⟨⟨h0,by dsimp only;omega⟩,by show (-1:Int)<a;omega,hx⟩
 ·exact (zgd (e:=⟨b,y⟩) rfl).2 ⟨⟨by dsimp only;omega,h1⟩,hab,hy⟩
theorem zsh {p:List Ln} {ts:List Tst} {a b:Int} {x y:Ln} (hp:valP p=0) (ht:valT ts=0) (h0:0≤a) (hab:a<b) (h1:b<p.length) (hx:x.ok=true) (hy:y.ok=true):chkX p [⟨a,x⟩,⟨b,y⟩] ts=0:=by
 have hp8:=(zba.1 hp).1;refine zdn.2 ⟨hp,zdm.2 ⟨by simp,zkf h0 hab (by omega) hx hy⟩,ht,?_⟩
 unfold offB;simp only [List.any_cons,List.any_nil,Bool.or_false,Bool.or_eq_false_iff,decide_eq_false_iff_not];omega
def goodP (p:List Ln) (ts:List Tst) (x y:Ed):Bool:=ts.all (passM (setAll p [x,y]))
theorem dblB_eq {p:List Ln} {ts:List Tst} {a b:Int} {x y:Ln} (hp:valP p=0) (ht:valT ts=0) (h0:0≤a) (hab:a<b) (h1:b<p.length) (hx:x.ok=true) (hy:y.ok=true):dblB p ts ⟨a,x⟩ ⟨b,y⟩=goodP p ts ⟨a,x⟩ ⟨b,y⟩:=by
 have hp8:=(zba.1 hp).1;unfold dblB goodP goodM;rw [decide_eq_true hab,zsh hp ht h0 hab h1 hx hy,zen (zkf h0 hab (by omega) hx hy)]
 rfl
theorem dblP_ok {p:List Ln} {a b:Int} {x y:Ln} (hp:valP p=0) (h0:0≤a) (hab:a<b) (h1:b<p.length) (hx:x.ok=true) (hy:y.ok=true):valP (setAll p [⟨a,x⟩,⟨b,y⟩])=0:=by
 have hp8:=(zba.1 hp).1;rw [zen (zkf h0 hab (by omega) hx hy)]
 exact zmh hp fun e he=>by simp at he;rcases he with rfl | rfl<;>assumption
theorem zzz {p:List Ln} {a b:Int} {x y:Ln} (hp:valP p=0) (h0:0≤a) (hab:a<b) (h1:b<p.length) (hx:x.ok=true) (hy:y.ok=true):sizeE p [⟨a,x⟩,⟨b,y⟩]=fieldsN (lineAt p a) x+fieldsN (lineAt p b) y:=by
 unfold sizeE;rw [if_pos (zsh hp (by rfl) h0 hab h1 hx hy)]
 unfold lineAt;simp [sizeL]
def BestG {α:Type} (sz:α→Int) (z:α) (G:List α) (e:α) (m:Int):Prop:=(G=[]∧e=z∧m=-1)∨∃ j,G[j]?=some e∧FirstMin (G.map sz) j m
theorem BestG.start {α:Type} (sz:α→Int) (z:α):BestG sz z [] z (-1):=.inl ⟨rfl,rfl,rfl⟩
theorem BestG.size {α:Type} {sz:α→Int} {z e:α} {G:List α} {m:Int} (h:BestG sz z G e m):(G=[]∧m=-1)∨(e∈G∧m=sz e):=by
 rcases h with ⟨h,_,hm⟩ | ⟨j,hj,hm,_⟩
 ·exact .inl ⟨h,hm⟩
 ·rw [List.getElem?_map,hj] at hm;exact .inr ⟨List.mem_of_getElem? hj,(Option.some.inj hm).symm⟩
theorem BestG.take {α:Type} {sz:α→Int} {z e x:α} {G:List α} {m:Int} (h:BestG sz z G e m) (hs:m<0∨sz x<m) (h0:∀ e,0≤sz e):BestG sz z (G++[x]) x (sz x):=by
 refine .inr ⟨G.length,by simp,?_⟩
 rw [List.map_append,List.map_cons,List.map_nil];rcases h with ⟨rfl,_,rfl⟩ | ⟨j,hj,hm⟩
 ·exact FirstMin.one (S:=[sz x]) rfl
 ·have hlt:sz x<m:=by
   rcases hs with hs | hs
   ·have:=hm.1;rw [List.getElem?_map,hj] at this;have:m=sz e:=(Option.some.inj this).symm;have:=h0 e;omega
   ·exact hs
  have:=(hm.snoc (s:=sz x)).1 hlt;rw [List.length_map] at this;exact this
theorem BestG.skip {α:Type} {sz:α→Int} {z e x:α} {G:List α} {m:Int} (h:BestG sz z G e m) (h0:¬ m<0) (hs:¬ sz x<m) (b:Bool):BestG sz z (G++if b then [x] else []) e m:=by
 cases b with
 | false=>simpa using h
 | true=>
  rcases h with ⟨_,_,rfl⟩ | ⟨j,hj,hm⟩
  ·omega
  ·refine .inr ⟨j,?_,?_⟩
   ·rw [if_pos rfl,List.getElem?_append_left (List.getElem?_eq_some_iff.1 hj).1];exact hj
   ·rw [if_pos rfl,List.map_append];exact (hm.snoc (s:=sz x)).2 hs
theorem zfn (p:List Ln) (x:List Ed):0≤sizeE p x:=by
 unfold sizeE
 split
 ·exact (zmr p x).1
 ·omega
theorem restC {p:List Ln} {ts:List Tst} {i a:Nat} {x:Ln} {T:List Ed} (hx:(tmpl (lineAt p i))[a]?=some x):pairsL p ts ((nearX p i).drop a++T)=pairX p ts ⟨i,x⟩ T++pairsL p ts ((nearX p i).drop (a+1)++T):=by
 have hx2:(nearX p i)[a]?=some ⟨i,x⟩:=by unfold nearX;rw [List.getElem?_map,hx];rfl
 rw [show (nearX p i).drop a=⟨i,x⟩ :: (nearX p i).drop (a+1) by obtain ⟨h1,h2⟩:=List.getElem?_eq_some_iff.1 hx2;rw [← h2];exact List.drop_eq_getElem_cons h1]
 rw [List.cons_append,pairsL,zxv,zts,List.nil_append];intro y hy;obtain ⟨z,_,rfl⟩:=List.mem_map.1 (List.mem_of_mem_drop hy)
 rfl
theorem restE {p:List Ln} {ts:List Tst} {k b:Nat} {x:Ed} {y:Ln} {T:List Ed} (hy:(tmpl (lineAt p k))[b]?=some y):pairX p ts x ((nearX p k).drop b++T)=(if dblB p ts x ⟨k,y⟩ then [[x,⟨k,y⟩]] else [])++pairX p ts x ((nearX p k).drop (b+1)++T):=by
 have hy2:(nearX p k)[b]?=some ⟨k,y⟩:=by unfold nearX;rw [List.getElem?_map,hy];rfl
 rw [show (nearX p k).drop b=⟨k,y⟩ :: (nearX p k).drop (b+1) by obtain ⟨h1,h2⟩:=List.getElem?_eq_some_iff.1 hy2;rw [← h2];exact List.drop_eq_getElem_cons h1]
 rw [List.cons_append,zlr]
theorem zze (p:List Ln) (n:Nat):(nearX p n).length=(tmpl (lineAt p n)).length:=by unfold nearX;rw [List.length_map]
theorem zou {p:List Ln} {n:Nat} {T:List Ed}:(nearX p n).drop (tmpl (lineAt p n)).length++T=T:=by rw [← zze,List.drop_length,List.nil_append]
def DblP (p:List Ln) (ts:List Tst) (x:List Ed) (ok:Bool):Prop:=
 (ok=false∧x=[]∧(sgtE p ts 0≠0∨pairsL p ts (mutM p p.length)=[])) ∨
 (ok=true∧sgtE p ts 0=0∧∃ j,(pairsL p ts (mutM p p.length))[j]?=some x∧FirstMin ((pairsL p ts (mutM p p.length)).map (sizeE p)) j (sizeE p x))
theorem DblP.uniq {p:List Ln} {ts:List Tst} {x x':List Ed} {ok ok':Bool} (h:DblP p ts x ok) (h':DblP p ts x' ok'):x=x'∧ok=ok':=by
 rcases h with ⟨rfl,rfl,h1⟩ | ⟨rfl,h1,j,h2,h3⟩<;>rcases h' with ⟨rfl,rfl,g1⟩ | ⟨rfl,g1,j',g2,g3⟩
 ·exact ⟨rfl,rfl⟩
 ·rcases h1 with h1 | h1
  ·exact absurd g1 h1
  ·rw [h1] at g2;simp at g2
 ·rcases g1 with g1 | g1
  ·exact absurd h1 g1
  ·rw [g1] at h2;simp at h2
 ·obtain ⟨rfl,_⟩:=h3.uniq g3;rw [h2] at g2;exact ⟨Option.some.inj g2,rfl⟩
theorem BestG.dbl {p:List Ln} {ts:List Tst} {e:List Ed} {m:Int} (hs:sgtE p ts 0=0) (h:BestG (sizeE p) [] (pairsL p ts (mutM p p.length)) e m):DblP p ts e (decide (0≤m)):=by
 rcases h with ⟨h,rfl,rfl⟩ | ⟨j,hj,hm⟩
 ·exact .inl ⟨by decide,rfl,.inr h⟩
 ·have h1:m=sizeE p e:=by
   have:=hm.1;rw [List.getElem?_map,hj] at this;exact (Option.some.inj this).symm
  have h0:=zfn p e;exact .inr ⟨by simp;omega,hs,j,hj,h1 ▸ hm⟩
def partsN (x:List Ed):List (List Ed):=x.foldl (fun out e=>out++out.map fun t=>t++[e]) [[]]
theorem zzg (e:Ed):partsN [e]=[[],[e]]:=rfl
theorem zzr (e f:Ed):partsN [e,f]=[[],[e],[f],[e,f]]:=rfl
open Go.Proofs.Tryz
set_option maxRecDepth 100000
set_option maxHeartbeats 32000000
theorem EBlk.cells {w:World} {g:Nat} {t op d a b:Int} (h:EBlk w g ⟨t,⟨op,d,a,b⟩⟩):w.heap[g]?=some (.cells #[.int .i64 t,.int .i64 op,.int .i64 d,.int .i64 a,.int .i64 b] 60 (0,0)):=h
theorem EBlk.grow {w w':World} {g:Nat} {e:Ed} (h:EBlk w g e) (hg:Grow w w'):EBlk w' g e:=hg.blk h
theorem zoc (p:List Ln) (ts:List Tst) (kind:Int) (pv tv:Value) (w:World) (hp:LinesAt w pv p) (ht:TestsAt w tv ts) (hval:valP p=0) (htv:valT ts=0) (k0:0≤kind) (k2:kind≤2) (R:Ending→World→Prop)
  (hR:∀ w' e m,Grow w w'→BestP p (everyR p ts kind p.length) e m→R (.returned (.tuple #[.agg #[.int .i64 e.at_,.int .i64 e.l.op,.int .i64 e.l.d,.int .i64 e.l.a,.int .i64 e.l.b],.bool (decide (0≤m))])) w') :
  Calls Tryz.prog 173 #[pv,tv,.int .i64 kind] w R:=by
 have HP:=jH hp;have HT:=jH ht;have HR:=jH hR;have HV:=jH hval;have HVT:=jH htv;have HK:=jH (And.intro k0 k2);have hp8:=(zba.1 hval).1;have HALL:=jH (zba.1 hval).2;obtain ⟨pa,pc,rfl,r1,r2,_⟩:=hp;obtain ⟨⟨ta,tc,rfl,_⟩,_⟩:=ht;clear hR hval htv k0 k2
 go_enter func173,ntmps173
 go_wp2_with fail;have HB0:=jH (zbx w (.cells #[.int .i64 0,.int .i64 0,.int .i64 0,.int .i64 0,.int .i64 0] 60) (.cells #[.int .i64 0,.int .i64 0,.int .i64 0,.int .i64 0,.int .i64 0] 60));have HB1:=jH (show EBlk ((w.alloc (.cells #[.int .i64 0,.int .i64 0,.int .i64 0,.int .i64 0,.int .i64 0] 60)).alloc (.cells #[.int .i64 0,.int .i64 0,.int .i64 0,.int .i64 0,.int .i64 0] 60)) (w.heap.size+1) ⟨0,⟨0,0,0,0⟩⟩ from zco w (.cells #[.int .i64 0,.int .i64 0,.int .i64 0,.int .i64 0,.int .i64 0] 60) (.cells #[.int .i64 0,.int .i64 0,.int .i64 0,.int .i64 0,.int .i64 0] 60));have hg0:=((Grow.refl w).alloc (.cells #[.int .i64 0,.int .i64 0,.int .i64 0,.int .i64 0,.int .i64 0] 60)).alloc (.cells #[.int .i64 0,.int .i64 0,.int .i64 0,.int .i64 0,.int .i64 0] 60);have hsz0:((w.alloc (.cells #[.int .i64 0,.int .i64 0,.int .i64 0,.int .i64 0,.int .i64 0] 60)).alloc (.cells #[.int .i64 0,.int .i64 0,.int .i64 0,.int .i64 0,.int .i64 0] 60)).heap.size=w.heap.size+2:=by simp
 generalize (w.alloc (.cells #[.int .i64 0,.int .i64 0,.int .i64 0,.int .i64 0,.int .i64 0] 60)).alloc (.cells #[.int .i64 0,.int .i64 0,.int .i64 0,.int .i64 0,.int .i64 0] 60)=W0 at HB0 HB1 hg0 hsz0 ⊢;have HG0:=jH hg0;clear hg0
 go_loopw [9,10,11,12,13] (fun least at_ _ _ _ wr=>∃ (k:Nat) (e:Ed) (m:Int),k≤p.length∧at_=.int .i64 k∧least=.int .i64 m∧Grow w wr∧w.heap.size+2≤wr.heap.size∧EBlk wr (w.heap.size+1) e∧EBlk wr w.heap.size ⟨0,⟨0,0,0,0⟩⟩∧BestP p (everyR p ts kind k) e m) (fun _ at_ _ _ _ _=>p.length - (intOf at_).toNat)
 case atStart=>exact ⟨0,_,-1,Nat.zero_le _,rfl,rfl,HG0.out,by omega,HB1.out,HB0.out,BestP.start p⟩
 case round=>
  obtain ⟨k,e,m,hk,rfl,rfl,hg,hsz,hb,hb0,hbest⟩:=hrel;have HG:=jH hg;have HB:=jH hb;have HBZ:=jH hb0;have HBE:=jH hbest;clear hg hb hb0 hbest HB0 HB1 HG0 hsz0;by_cases hlt:k<p.length
  ·have hlt2:(k:Int)<(p.length:Int):=by omega
   go_wp2_with fail;refine zwr p _ k kind _ HK.out.1 HK.out.2 HV.out hlt (HP.out.grow HG.out) _ ?_;intro w1 v1 hg1 hv1;obtain ⟨C,hC⟩:∃ C,candR p (lineAt p k) kind=C:=⟨_,rfl⟩;have hC1:=zzp p (lineAt p k) kind;have HCOK:=jH (fun (x:Ln) (h:x∈candR p (lineAt p k) kind)=>zmq h);have hs1:=hv1.slc zab;have hC2:fixR p ts k kind=C.filter fun x=>goodR p k x ts:=by rw [← hC];rfl
   rw [hC] at hs1 hC1 HCOK;have HC2:=jH hC2;obtain ⟨aC,cC,rfl,q1,q2,_⟩:=hs1;have hblk:=own_blk hv1;have HAC:=jH (show ∀ b o s,aC=some ⟨b,o,s⟩→b≠w.heap.size+1 from fun b o s h=>by have:=hblk b o s h;omega)
   have HLC:=jH (show LinesAt w1 (.slice aC C.length cC) C by rw [← hC];have:=hv1.slc zab;rw [hC] at this ⊢;exact this)
   have HB1:=jH (HB.out.grow hg1);have HBZ1:=jH (HBZ.out.grow hg1);have HG1:=jH (HG.out.trans hg1);have hsz1:w.heap.size+2≤w1.heap.size:=Nat.le_trans hsz hg1.sz;obtain ⟨⟨op,d,a,b⟩,hl⟩:∃ l,p[k]?=some l:=⟨_,List.getElem?_eq_getElem hlt⟩;have hla:lineAt p (k:Int)=⟨op,d,a,b⟩:=by unfold lineAt;rw [show ((k:Int)).toNat=k by omega,hl];rfl
   have HLA:=jH hla;have HL:=jH hl;have HN:=jH (show ∀ x:Ln,∀ e∈[(⟨(k:Int),x⟩:Ed)],0≤e.at_∧e.at_<p.length from fun x e he=>by simp at he;subst he;dsimp only;omega)
   clear hg1 hv1 hC hC2 hblk hl hla HB HBZ HG;go_wp2_with fail;obtain ⟨wo,hwo⟩:∃ z:World,z=wr:=⟨_,rfl⟩;clear hwo
   go_loopw [9,12,13] (fun least i _ wr=>∃ (j:Nat) (e:Ed) (m:Int),j≤C.length∧i=.int .i64 j∧least=.int .i64 m∧Grow w wr∧w.heap.size+2≤wr.heap.size∧EBlk wr (w.heap.size+1) e∧EBlk wr w.heap.size ⟨0,⟨0,0,0,0⟩⟩∧LinesAt wr (.slice aC C.length cC) C∧BestP p (everyR p ts kind k++((C.take j).filter fun x=>goodR p k x ts).map (Ed.mk k)) e m) (fun _ i _ _=>C.length - (intOf i).toNat)
   case atStart=>exact ⟨0,e,m,Nat.zero_le _,rfl,rfl,HG1.out,hsz1,HB1.out,HBZ1.out,HLC.out,by simpa using HBE.out⟩
   case round=>
    obtain ⟨j,e,m,hj,rfl,rfl,hg,hsz,hb,hb0,hlc,hbest⟩:=hrel;have HG:=jH hg;have HB:=jH hb;have HBZ:=jH hb0;have HBE:=jH hbest;have HLC2:=jH hlc;clear hg hb hb0 hbest hlc HB1 HBZ1 HG1 HLC;by_cases hjl:j<C.length
    ·have hjl2:(j:Int)<(C.length:Int):=by omega
     obtain ⟨⟨op2,d2,a2,b2⟩,hx⟩:∃ x,C[j]?=some x:=⟨_,List.getElem?_eq_getElem hjl⟩;obtain ⟨g,o,rfl,hgp,e0,e1,e2,e3⟩:=zbr (HP.out.grow HG.out) HL.out;obtain ⟨gA,oA,rfl,hgA,f0,f1,f2,f3⟩:=zbr HLC2.out hx;obtain ⟨s,hs⟩:∃ s,fieldsN ⟨op,d,a,b⟩ ⟨op2,d2,a2,b2⟩=s:=⟨_,rfl⟩;have HS:=jH hs;have hsr:sizeR p ⟨(k:Int),⟨op2,d2,a2,b2⟩⟩=s:=by unfold sizeR;dsimp only;rw [HLA.out];exact hs
     have HSR:=jH hsr;have HXT:=jH (zap (F:=fun x=>goodR p k x ts) hx);have HSV:=jH (goodR_ok (at_:=(k:Int)) HV.out (by omega) (by omega) (HCOK.out _ (List.mem_of_getElem? hx)))
     obtain ⟨f,hf⟩:∃ f,goodR p k ⟨op2,d2,a2,b2⟩ ts=f:=⟨_,rfl⟩;have HF:=jH hf;have HGD:=jH (show ts.all (passM (setAll p [⟨(k:Int),⟨op2,d2,a2,b2⟩⟩]))=f by rw [← hf];rfl)
     clear hs hsr hx hf;go_wp2_with fail
     go_region_held3 (fun X=>X.cell? ⟨g,o+k * 4,none⟩=some (.int .i64 op)∧X.cell? ⟨g,o+k * 4+1,none⟩=some (.int .i64 d)∧X.cell? ⟨g,o+k * 4+2,none⟩=some (.int .i64 a)∧X.cell? ⟨g,o+k * 4+3,none⟩=some (.int .i64 b)∧X.cell? ⟨gA,oA+j * 4,none⟩=some (.int .i64 op2)∧X.cell? ⟨gA,oA+j * 4+1,none⟩=some (.int .i64 d2)∧X.cell? ⟨gA,oA+j * 4+2,none⟩=some (.int .i64 a2)∧X.cell? ⟨gA,oA+j * 4+3,none⟩=some (.int .i64 b2)∧Grow wr X)
      (first | exact ⟨e0,e1,e2,e3,f0,f1,f2,f3,(Grow.refl wr).drew⟩ | exact ⟨e0,e1,e2,e3,f0,f1,f2,f3,Grow.refl wr⟩ | exact keep8 hg8 (by assumption))
      (first | (go_at_call 211;refine zag op d a b op2 d2 a2 b2 _ _ ?_;intro w8 hg8;rw [HS.out]))
     rename_i hS
     have hgr:Grow wr w8:=hS.2.2.2.2.2.2.2.2;obtain ⟨x0,x1,x2,x3,y0,y1,y2,y3,_⟩:=hS;have HG8:=jH (HG.out.trans hgr);have HB8:=jH (HB.out.grow hgr);have HBZ8:=jH (HBZ.out.grow hgr);have HLC8:=jH (HLC2.out.grow hgr);have hgA8:gA<w8.heap.size:=Nat.lt_of_lt_of_le hgA hgr.sz;have hsz8:w.heap.size+2≤w8.heap.size:=Nat.le_trans hsz hgr.sz;clear hgr hg8 e0 e1 e2 e3 f0 f1 f2 f3 HG HB HBZ HLC2 x0 x1 x2 x3;have hms:=HBE.out.size;by_cases hm0:m<0
     ·skip
      have HLIT:=jH (zfq w8 (k:Int) op2 d2 a2 b2 60);go_wp2_with fail;refine zgf p [⟨(k:Int),⟨op2,d2,a2,b2⟩⟩] ts _ _ _ _ (HP.out.grow (HG8.out.trans ((Grow.refl w8).alloc _))) HLIT.out (HT.out.grow (HG8.out.trans ((Grow.refl w8).alloc _))) (HN.out _) hp8 HVT.out HSV.out _ ?_;intro w9 hg9;rw [HGD.out];have hg89:=((Grow.refl w8).alloc _).trans hg9;have HG9:=jH (HG8.out.trans hg89);have HB9:=jH (HB8.out.grow hg89);have HBZ9:=jH (HBZ8.out.grow hg89);have HLC9:=jH (HLC8.out.grow hg89);have hsz9:w.heap.size+2≤w9.heap.size:=Nat.le_trans hsz8 hg89.sz;have u0:=hg89.cell y0;have u1:=hg89.cell y1;have u2:=hg89.cell y2;have u3:=hg89.cell y3;have hgA9:gA<w9.heap.size:=Nat.lt_of_lt_of_le hgA8 hg89.sz;clear hg9 hg89 y0 y1 y2 y3 HLIT;cases f with
      | false=>
       have HBF:=jH (show BestP p (everyR p ts kind k++((C.take (j+1)).filter fun x=>goodR p k x ts).map (Ed.mk k)) e m from by rw [HXT.out,List.map_append,← List.append_assoc,HF.out];simpa using HBE.out)
       go_wp2_with fail;go_roundw
       case rel=>exact ⟨j+1,e,m,by omega,by go_num,rfl,HG9.out,hsz9,HB9.out,HBZ9.out,HLC9.out,HBF.out⟩
       case measure=>simp [intOf];omega
      | true=>
       have HBF:=jH (show BestP p (everyR p ts kind k++((C.take (j+1)).filter fun x=>goodR p k x ts).map (Ed.mk k)) ⟨(k:Int),⟨op2,d2,a2,b2⟩⟩ s from by rw [HXT.out,List.map_append,← List.append_assoc,HF.out];rw [if_pos rfl,← HSR.out];exact HBE.out.take (by rw [HSR.out];omega))
       obtain ⟨et,eo,ed,ea,eb⟩:=e;have hbc:=HB9.out.cells;obtain ⟨c0,c1,c2,c3,c4⟩:=box5 hbc;have z0:=frz hbc 0;have z1:=frz hbc 1;have z2:=frz hbc 2;have z3:=frz hbc 3;have z4:=frz hbc 4;have hzb:=lt_of_block hbc;have hneA:=HAC.out gA oA none rfl;have hneA2:w.heap.size+1≠gA:=fun h=>hneA h.symm;have HBS:=jH (HB9.out.set ⟨(k:Int),⟨op2,d2,a2,b2⟩⟩);have HGS:=jH (zeq (g:=w.heap.size+1) ⟨(k:Int),⟨op2,d2,a2,b2⟩⟩ HG9.out (by omega))
       have HLS:=jH (zma (e:=⟨(k:Int),⟨op2,d2,a2,b2⟩⟩) HLC9.out HAC.out);have HZS:=jH (show EBlk (set5 w9 (w.heap.size+1) ⟨(k:Int),⟨op2,d2,a2,b2⟩⟩) w.heap.size ⟨0,⟨0,0,0,0⟩⟩ from (zeq (B:=w.heap.size+1) _ (Below.refl _ w9) (Nat.le_refl _)).block w.heap.size (by omega) |>.trans HBZ9.out)
       have hszS:=zkj w9 (w.heap.size+1) ⟨(k:Int),⟨op2,d2,a2,b2⟩⟩;clear hbc;go_wp2_with fail;go_roundw
       case rel=>exact ⟨j+1,⟨(k:Int),⟨op2,d2,a2,b2⟩⟩,s,by omega,by go_num,rfl,HGS.out,by rw [← hszS] at hsz9;exact hsz9,HBS.out,HZS.out,HLS.out,HBF.out⟩
       case measure=>simp [intOf];omega
     by_cases hsm:s<m
     ·skip
      have HLIT:=jH (zfq w8 (k:Int) op2 d2 a2 b2 60);go_wp2_with fail;refine zgf p [⟨(k:Int),⟨op2,d2,a2,b2⟩⟩] ts _ _ _ _ (HP.out.grow (HG8.out.trans ((Grow.refl w8).alloc _))) HLIT.out (HT.out.grow (HG8.out.trans ((Grow.refl w8).alloc _))) (HN.out _) hp8 HVT.out HSV.out _ ?_;intro w9 hg9;rw [HGD.out];have hg89:=((Grow.refl w8).alloc _).trans hg9;have HG9:=jH (HG8.out.trans hg89);have HB9:=jH (HB8.out.grow hg89);have HBZ9:=jH (HBZ8.out.grow hg89);have HLC9:=jH (HLC8.out.grow hg89);have hsz9:w.heap.size+2≤w9.heap.size:=Nat.le_trans hsz8 hg89.sz;have u0:=hg89.cell y0;have u1:=hg89.cell y1;have u2:=hg89.cell y2;have u3:=hg89.cell y3;have hgA9:gA<w9.heap.size:=Nat.lt_of_lt_of_le hgA8 hg89.sz;clear hg9 hg89 y0 y1 y2 y3 HLIT;cases f with
      | false=>
       have HBF:=jH (show BestP p (everyR p ts kind k++((C.take (j+1)).filter fun x=>goodR p k x ts).map (Ed.mk k)) e m from by rw [HXT.out,List.map_append,← List.append_assoc,HF.out];simpa using HBE.out)
       go_wp2_with fail;go_roundw
       case rel=>exact ⟨j+1,e,m,by omega,by go_num,rfl,HG9.out,hsz9,HB9.out,HBZ9.out,HLC9.out,HBF.out⟩
       case measure=>simp [intOf];omega
      | true=>
       have HBF:=jH (show BestP p (everyR p ts kind k++((C.take (j+1)).filter fun x=>goodR p k x ts).map (Ed.mk k)) ⟨(k:Int),⟨op2,d2,a2,b2⟩⟩ s from by rw [HXT.out,List.map_append,← List.append_assoc,HF.out];rw [if_pos rfl,← HSR.out];exact HBE.out.take (by rw [HSR.out];omega))
       obtain ⟨et,eo,ed,ea,eb⟩:=e;have hbc:=HB9.out.cells;obtain ⟨c0,c1,c2,c3,c4⟩:=box5 hbc;have z0:=frz hbc 0;have z1:=frz hbc 1;have z2:=frz hbc 2;have z3:=frz hbc 3;have z4:=frz hbc 4;have hzb:=lt_of_block hbc;have hneA:=HAC.out gA oA none rfl;have hneA2:w.heap.size+1≠gA:=fun h=>hneA h.symm;have HBS:=jH (HB9.out.set ⟨(k:Int),⟨op2,d2,a2,b2⟩⟩);have HGS:=jH (zeq (g:=w.heap.size+1) ⟨(k:Int),⟨op2,d2,a2,b2⟩⟩ HG9.out (by omega))
       have HLS:=jH (zma (e:=⟨(k:Int),⟨op2,d2,a2,b2⟩⟩) HLC9.out HAC.out);have HZS:=jH (show EBlk (set5 w9 (w.heap.size+1) ⟨(k:Int),⟨op2,d2,a2,b2⟩⟩) w.heap.size ⟨0,⟨0,0,0,0⟩⟩ from (zeq (B:=w.heap.size+1) _ (Below.refl _ w9) (Nat.le_refl _)).block w.heap.size (by omega) |>.trans HBZ9.out)
       have hszS:=zkj w9 (w.heap.size+1) ⟨(k:Int),⟨op2,d2,a2,b2⟩⟩;clear hbc;go_wp2_with fail;go_roundw
       case rel=>exact ⟨j+1,⟨(k:Int),⟨op2,d2,a2,b2⟩⟩,s,by omega,by go_num,rfl,HGS.out,by rw [← hszS] at hsz9;exact hsz9,HBS.out,HZS.out,HLS.out,HBF.out⟩
       case measure=>simp [intOf];omega
     ·skip
      have HB9:=jH (show BestP p (everyR p ts kind k++((C.take (j+1)).filter fun x=>goodR p k x ts).map (Ed.mk k)) e m from by rw [HXT.out,List.map_append,← List.append_assoc];have:=HBE.out.skip (x:=⟨(k:Int),⟨op2,d2,a2,b2⟩⟩) hm0 (by rw [HSR.out];exact hsm) (goodR p k ⟨op2,d2,a2,b2⟩ ts);cases hgo:goodR p k ⟨op2,d2,a2,b2⟩ ts<;>(rw [hgo] at this;simpa using this))
      go_wp2_with fail;go_roundw
      case rel=>exact ⟨j+1,e,m,by omega,by go_num,rfl,HG8.out,hsz8,HB8.out,HBZ8.out,HLC8.out,HB9.out⟩
      case measure=>simp [intOf];omega
    ·have hjn:j=C.length:=by omega
     have HB9:=jH (show BestP p (everyR p ts kind (k+1)) e m by
      have:=HBE.out;rw [hjn,List.take_length,← HC2.out] at this;rw [zkm];exact this)
     clear hjn;go_wp2_with fail;go_roundw
     case rel=>exact ⟨k+1,e,m,by omega,by go_num,rfl,HG.out,hsz,HB.out,HBZ.out,HB9.out⟩
     case measure=>simp [intOf];omega
  ·have hkn:k=p.length:=by omega
   have hbe:=HBE.out;rw [hkn] at hbe;have HBF:=jH hbe;obtain ⟨et,eo,ed,ea,eb⟩:=e;have hbc:=HB.out.cells;obtain ⟨c0,c1,c2,c3,c4⟩:=box5 hbc;have hzb:=lt_of_block hbc;have hbz:=HBZ.out.cells;obtain ⟨n0,n1,n2,n3,n4⟩:=box5 hbz;have z0:=frz hbz 0;have z1:=frz hbz 1;have z2:=frz hbz 2;have z3:=frz hbz 3;have z4:=frz hbz 4;have hzz:=lt_of_block hbz;obtain ⟨bb,hbb⟩:∃ bb,decide (0≤m)=bb:=⟨_,rfl⟩;have t1:decide (m≥0)=bb:=hbb;have HF:=jH (HR.out (set5 wr w.heap.size ⟨et,⟨eo,ed,ea,eb⟩⟩) ⟨et,⟨eo,ed,ea,eb⟩⟩ m (zeq _ HG.out (Nat.le_refl _)) HBF.out);rw [hbb] at HF;clear hbc hbz hbe hkn;go_wp2_with fail;refine bodyPost_ret (v:=.tuple #[.agg #[.int .i64 et,.int .i64 eo,.int .i64 ed,.int .i64 ea,.int .i64 eb],.bool bb]) (by simp [results,Tryz.results173,go_sem,n0,n1,n2,n3,n4]) rfl HF.out
end Go.Proofs.YtmeejlgnhfkeaaaGreatDoor
