
import Derived.Test.YtmeejlgnhfkeaaaGreatDoorR09
import Derived.Test.YtmeejlgnhfkeaaaGreatDoorR08
import Derived.Test.YtmeejlgnhfkeaaaGreatDoorR10
namespace Go.Proofs.YtmeejlgnhfkeaaaGreatDoor
open Go.RowKit Go.Proofs.Tryz
set_option maxRecDepth 100000
set_option maxHeartbeats 8000000
def cntB (bs:List Bool):Nat:=(bs.filter id).length
theorem zdk {bs:List Bool} {k:Nat} {b:Bool} (h:bs[k]?=some b):cntB (bs.take (k+1))=cntB (bs.take k)+b.toNat:=by
 unfold cntB;rw [List.take_add_one,h,List.filter_append,List.length_append];cases b<;>rfl
theorem znu (x y:Int):∃ b:Bool,(x != y)=b∧(x == y)=!b∧((b=true∧x≠y)∨(b=false∧x=y)):=by
 by_cases h:x=y
 ·exact ⟨false,by simpa using h,by simpa using h,.inr ⟨rfl,h⟩⟩
 ·exact ⟨true,by simpa using h,by simpa using h,.inl ⟨rfl,h⟩⟩
theorem ztt (op d a b op' d' a' b':Int) (w:World) (R:Ending→World→Prop) (hR:∀ w',Grow w w'→R (.returned (.int .i64 (fieldsN ⟨op,d,a,b⟩ ⟨op',d',a',b'⟩))) w') :
  Calls Tryz.prog 292 #[.agg #[.int .i64 op,.int .i64 d,.int .i64 a,.int .i64 b],.agg #[.int .i64 op',.int .i64 d',.int .i64 a',.int .i64 b']] w R:=by
 obtain ⟨b0,t0,s0,r0⟩:=znu op op';obtain ⟨b1,t1,s1,r1⟩:=znu d d';obtain ⟨b2,t2,s2,r2⟩:=znu a a';obtain ⟨b3,t3,s3,r3⟩:=znu b b';have hv:fieldsN ⟨op,d,a,b⟩ ⟨op',d',a',b'⟩=(cntB [b0,b1,b2,b3]:Nat):=by
  show (if op=op' then (0:Int) else 1)+(if d=d' then 0 else 1)+(if a=a' then 0 else 1)+(if b=b' then 0 else 1)=_
  rcases r0 with ⟨rfl,h0⟩ | ⟨rfl,h0⟩<;>rcases r1 with ⟨rfl,h1⟩ | ⟨rfl,h1⟩<;>rcases r2 with ⟨rfl,h2⟩ | ⟨rfl,h2⟩<;>rcases r3 with ⟨rfl,h3⟩ | ⟨rfl,h3⟩<;>simp [h0,h1,h2,h3,cntB]
 rw [hv] at hR;have HR:=jH hR;clear hR hv r0 r1 r2 r3
 go_enter func292,ntmps292
 go_wp2_with fail;have hg:=((Grow.refl w).alloc (.cells #[.int .i64 op,.int .i64 d,.int .i64 a,.int .i64 b] 57)).alloc (.cells #[.int .i64 op',.int .i64 d',.int .i64 a',.int .i64 b'] 57);have hsz:((w.alloc (.cells #[.int .i64 op,.int .i64 d,.int .i64 a,.int .i64 b] 57)).alloc (.cells #[.int .i64 op',.int .i64 d',.int .i64 a',.int .i64 b'] 57)).heap.size=w.heap.size+2:=by simp
 generalize (w.alloc (.cells #[.int .i64 op,.int .i64 d,.int .i64 a,.int .i64 b] 57)).alloc (.cells #[.int .i64 op',.int .i64 d',.int .i64 a',.int .i64 b'] 57)=W at hg hsz ⊢;have hb:=heap_alloc_new W (.cells #[.bool b0,.bool b1,.bool b2,.bool b3] 4);rw [hsz] at hb;have hg2:=hg.alloc (.cells #[.bool b0,.bool b1,.bool b2,.bool b3] 4);generalize W.alloc (.cells #[.bool b0,.bool b1,.bool b2,.bool b3] 4)=W1 at hb hg2 ⊢;obtain ⟨c0,c1,c2,c3⟩:=box4 hb;have hz:=lt_of_block hb;clear hb hg hsz t0 t1 t2 t3 s0 s1 s2 s3
 go_loopw [5,7,30] (fun n _ i wr=>∃ k m:Nat,k≤4∧m≤k∧i=.int .i64 k∧n=.int .i64 m∧wr=W1∧m=cntB ([b0,b1,b2,b3].take k)) (fun _ _ i _=>(4 - intOf i).toNat)
 case atStart=>exact ⟨0,0,by omega,by omega,rfl,rfl,rfl,rfl⟩
 case round=>
  obtain ⟨k,m,hk,hm,rfl,rfl,rfl,hc⟩:=hrel;have HC:=jH hc;clear hc;have hk5:k=0∨k=1∨k=2∨k=3∨k=4:=by omega
  rcases hk5 with rfl | rfl | rfl | rfl | rfl
  ·cases b0 with
   | true=>
    go_wp2_with fail;go_roundw
    case rel=>exact ⟨1,m+1,by omega,by omega,by first | rfl | go_num,by first | rfl | go_num,by first | trivial | rfl,by rw [zdk (k:=0) (b:=true) rfl,← HC.out];rfl⟩
    case measure=>simp [intOf]
   | false=>
    go_wp2_with fail;go_roundw
    case rel=>exact ⟨1,m,by omega,by omega,by first | rfl | go_num,by first | rfl | go_num,by first | trivial | rfl,by rw [zdk (k:=0) (b:=false) rfl,← HC.out];rfl⟩
    case measure=>simp [intOf]
  ·cases b1 with
   | true=>
    go_wp2_with fail;go_roundw
    case rel=>exact ⟨2,m+1,by omega,by omega,by first | rfl | go_num,by first | rfl | go_num,by first | trivial | rfl,by rw [zdk (k:=1) (b:=true) rfl,← HC.out];rfl⟩
    case measure=>simp [intOf]
   | false=>
    go_wp2_with fail;go_roundw
    case rel=>exact ⟨2,m,by omega,by omega,by first | rfl | go_num,by first | rfl | go_num,by first | trivial | rfl,by rw [zdk (k:=1) (b:=false) rfl,← HC.out];rfl⟩
    case measure=>simp [intOf]
  ·cases b2 with
   | true=>
    go_wp2_with fail;go_roundw
    case rel=>exact ⟨3,m+1,by omega,by omega,by first | rfl | go_num,by first | rfl | go_num,by first | trivial | rfl,by rw [zdk (k:=2) (b:=true) rfl,← HC.out];rfl⟩
    case measure=>simp [intOf]
   | false=>
    go_wp2_with fail;go_roundw
    case rel=>exact ⟨3,m,by omega,by omega,by first | rfl | go_num,by first | rfl | go_num,by first | trivial | rfl,by rw [zdk (k:=2) (b:=false) rfl,← HC.out];rfl⟩
    case measure=>simp [intOf]
  ·cases b3 with
   | true=>
    go_wp2_with fail;go_roundw
    case rel=>exact ⟨4,m+1,by omega,by omega,by first | rfl | go_num,by first | rfl | go_num,by first | trivial | rfl,by rw [zdk (k:=3) (b:=true) rfl,← HC.out];rfl⟩
    case measure=>simp [intOf]
   | false=>
    go_wp2_with fail;go_roundw
    case rel=>exact ⟨4,m,by omega,by omega,by first | rfl | go_num,by first | rfl | go_num,by first | trivial | rfl,by rw [zdk (k:=3) (b:=false) rfl,← HC.out];rfl⟩
    case measure=>simp [intOf]
  ·have HC2:=HC.out;rw [show [b0,b1,b2,b3].take 4=[b0,b1,b2,b3] from rfl] at HC2;have HF:=jH (HR.out _ hg2);rw [← HC2] at HF;clear HC HC2;go_wp2_with fail;exact HF.out
theorem keep9 {w2 X Y:World} {a0 a1 a2 a3 a4 a5 a6 a7 a8:Addr} {v0 v1 v2 v3 v4 v5 v6 v7 v8:Value} (g:Grow X Y)
  (h:X.cell? a0=some v0∧X.cell? a1=some v1∧X.cell? a2=some v2∧X.cell? a3=some v3∧X.cell? a4=some v4∧X.cell? a5=some v5∧X.cell? a6=some v6∧X.cell? a7=some v7∧X.cell? a8=some v8∧Grow w2 X) :
  Y.cell? a0=some v0∧Y.cell? a1=some v1∧Y.cell? a2=some v2∧Y.cell? a3=some v3∧Y.cell? a4=some v4∧Y.cell? a5=some v5∧Y.cell? a6=some v6∧Y.cell? a7=some v7∧Y.cell? a8=some v8∧Grow w2 Y:=
 ⟨g.cell h.1,g.cell h.2.1,g.cell h.2.2.1,g.cell h.2.2.2.1,g.cell h.2.2.2.2.1,g.cell h.2.2.2.2.2.1,g.cell h.2.2.2.2.2.2.1,g.cell h.2.2.2.2.2.2.2.1,g.cell h.2.2.2.2.2.2.2.2.1,h.2.2.2.2.2.2.2.2.2.trans g⟩
def sizeL (p:List Ln):List Ed→Int
 | []=>0
 | e :: r=>fieldsN ((p[e.at_.toNat]?).getD ⟨0,0,0,0⟩) e.l+sizeL p r
theorem zlz (p:List Ln) (e:Ed):∀ x:List Ed,sizeL p (x++[e])=sizeL p x+fieldsN ((p[e.at_.toNat]?).getD ⟨0,0,0,0⟩) e.l
 | []=>by simp [sizeL]
 | f :: r=>by rw [List.cons_append,sizeL,zlz p e r,sizeL];omega
theorem zdu (l m:Ln):0≤fieldsN l m∧fieldsN l m≤4:=by
 obtain ⟨x0,x1,x2,x3,hf,c0,c1,c2,c3⟩:=zhq l m;omega
theorem zmr (p:List Ln):∀ x:List Ed,0≤sizeL p x∧sizeL p x≤4 * x.length
 | []=>by simp [sizeL]
 | e :: r=>by
  have:=zmr p r;have:=zdu ((p[e.at_.toNat]?).getD ⟨0,0,0,0⟩) e.l;rw [sizeL,List.length_cons];omega
def sizeE (p:List Ln) (x:List Ed):Int:=if chkX p x []=0 then sizeL p x else 0
theorem Size_any (p:List Ln) (x:List Ed) (pv xv:Value) (w:World) (hp:LinesAt w pv p) (hx:EditsAt w xv x) (R:Ending→World→Prop)
  (hR:∀ w',Grow w w'→R (.returned (.tuple #[.int .i64 (sizeE p x),.int .i64 (chkX p x [])])) w') :
  Calls Tryz.prog 276 #[pv,xv] w R:=by
 have HP:=jH hp;have HX:=jH hx;rw [show sizeE p x=if chkX p x []=0 then sizeL p x else 0 from rfl] at hR;have HR:=jH hR;obtain ⟨e,he⟩:∃ e,chkX p x []=e:=⟨_,rfl⟩;have hok:=fun h:e=0=>zdn.1 (he.trans h);rw [he] at HR;have HE:=jH he;obtain ⟨pa,pc,rfl,p1,p2,_⟩:=hp;obtain ⟨xa,xc,rfl,x1,x2,_⟩:=hx;clear hR he;by_cases h0:e=0;rotate_left
 ·rw [if_neg h0] at HR;have t1:(e != 0)=true:=by simpa using h0
  clear hok h0
  go_enter func276,ntmps276
  go_wp2_with fail;refine zdd p x [] _ _ _ _ HP.out HX.out (TestsAt.nil _) _ ?_;intro w1 hg1;rw [HE.out];have HF:=jH (HR.out w1 hg1);clear hg1;go_wp2_with fail;exact HF.out
 obtain ⟨hv,hvx,_,hoff⟩:=hok h0;subst h0;rw [if_pos rfl] at HR;have hx4:=(zdm.1 hvx).1;have HOK:=jH (zdm.1 hvx).2;have HOFF:=jH hoff;clear hok hv hvx hoff
 go_enter func276,ntmps276
 go_wp2_with fail;refine zdd p x [] _ _ _ _ HP.out HX.out (TestsAt.nil _) _ ?_;intro w1 hg1;rw [HE.out];have HG1:=jH hg1;clear hg1;go_wp2_with fail
 go_loopw [7,9,18] (fun n _ i wr=>∃ k:Nat,k≤x.length∧i=.int .i64 k∧n=.int .i64 (sizeL p (x.take k))∧Grow w wr) (fun _ _ i _=>x.length - (intOf i).toNat)
 case atStart=>exact ⟨0,by omega,rfl,rfl,HG1.out⟩
 case round=>
  obtain ⟨k,hk,rfl,rfl,hg⟩:=hrel;have HG:=jH hg;have hzw:=hg.sz;clear hg;by_cases hlt:k<x.length
  ·obtain ⟨⟨t,⟨o1,d1,a1,b1⟩⟩,hx⟩:∃ y,x[k]?=some y:=⟨_,List.getElem?_eq_getElem hlt⟩;obtain ⟨⟨e0,_⟩,_⟩:=zde HOK.out hx;have e1:t<(p.length:Int):=by
    have h:=HOFF.out;unfold offB at h;have:=List.any_eq_false.1 h _ (List.mem_of_getElem? hx);simp at this;omega
   dsimp only at e0;obtain ⟨m,rfl⟩:∃ m:Nat,t=m:=⟨t.toNat,by omega⟩
   have hmn:m<p.length:=by omega
   obtain ⟨⟨o2,d2,a2,b2⟩,hy⟩:∃ y,p[m]?=some y:=⟨_,List.getElem?_eq_getElem hmn⟩;obtain ⟨gb,o,rfl,hgb,y0,y1,y2,y3,y4⟩:=zci (HX.out.grow HG.out) hx;obtain ⟨ga,oa,rfl,hga,z0,z1,z2,z3⟩:=zbr (HP.out.grow HG.out) hy;have hS:=zlz p ⟨(m:Int),⟨o1,d1,a1,b1⟩⟩ (x.take k);rw [show x.take k++[⟨(m:Int),⟨o1,d1,a1,b1⟩⟩]=x.take (k+1) by rw [List.take_add_one,hx];rfl] at hS
   rw [show ((p[((⟨(m:Int),⟨o1,d1,a1,b1⟩⟩:Ed).at_).toNat]?).getD ⟨0,0,0,0⟩)=(⟨o2,d2,a2,b2⟩:Ln) by rw [show ((⟨(m:Int),⟨o1,d1,a1,b1⟩⟩:Ed).at_).toNat=m from rfl,hy];rfl] at hS
   have hb1:=zmr p (x.take k);have hb2:=zdu ⟨o2,d2,a2,b2⟩ ⟨o1,d1,a1,b1⟩;rw [List.length_take] at hb1;obtain ⟨s,hs⟩:∃ s,sizeL p (x.take k)=s:=⟨_,rfl⟩;obtain ⟨f,hf⟩:∃ f,fieldsN ⟨o2,d2,a2,b2⟩ ⟨o1,d1,a1,b1⟩=f:=⟨_,rfl⟩;dsimp only at hS;rw [hs] at hb1 ⊢;rw [hf] at hb2;rw [hs,hf] at hS;have HS:=jH hS;have HF:=jH hf;have hwr:IntKind.i64.wrap (s+f)=s+f:=IntWalk.i64_in _ (by omega)
   have hj1:(k:Int)<(x.length:Int):=by omega
   have hj2:(m:Int)<(p.length:Int):=by omega
   clear hx hy hS hs hf hb1 hb2 e0 e1;go_wp2_with fail;have hbb:=heap_alloc_new wr (.cells #[.int .i64 (m:Int),.int .i64 o1,.int .i64 d1,.int .i64 a1,.int .i64 b1] 60);have hgg:=(Grow.refl wr).alloc (.cells #[.int .i64 (m:Int),.int .i64 o1,.int .i64 d1,.int .i64 a1,.int .i64 b1] 60);generalize wr.alloc (.cells #[.int .i64 (m:Int),.int .i64 o1,.int .i64 d1,.int .i64 a1,.int .i64 b1] 60)=W at hbb hgg ⊢;obtain ⟨u0,u1,u2,u3,u4⟩:=box5 hbb;have hzb:=lt_of_block hbb;have v0:=hgg.cell z0;have v1:=hgg.cell z1;have v2:=hgg.cell z2;have v3:=hgg.cell z3;have hga2:ga<W.heap.size:=Nat.lt_of_lt_of_le hga hgg.sz;have HGG:=jH hgg;clear hbb hgg y0 y1 y2 y3 y4 z0 z1 z2 z3
   go_region_held3 (fun X=>X.cell? ⟨wr.heap.size,0,none⟩=some (.int .i64 (m:Int))∧X.cell? ⟨wr.heap.size,1,none⟩=some (.int .i64 o1)∧X.cell? ⟨wr.heap.size,2,none⟩=some (.int .i64 d1)∧X.cell? ⟨wr.heap.size,3,none⟩=some (.int .i64 a1)∧X.cell? ⟨wr.heap.size,4,none⟩=some (.int .i64 b1)∧X.cell? ⟨ga,oa+m * 4,none⟩=some (.int .i64 o2)∧X.cell? ⟨ga,oa+m * 4+1,none⟩=some (.int .i64 d2)∧X.cell? ⟨ga,oa+m * 4+2,none⟩=some (.int .i64 a2)∧X.cell? ⟨ga,oa+m * 4+3,none⟩=some (.int .i64 b2)∧Grow W X)
    (first | exact ⟨u0,u1,u2,u3,u4,v0,v1,v2,v3,(Grow.refl W).drew⟩ | exact ⟨u0,u1,u2,u3,u4,v0,v1,v2,v3,Grow.refl W⟩ | exact keep9 hg8 (by assumption))
    (first | (go_at_call 292;refine ztt o2 d2 a2 b2 o1 d1 a1 b1 _ _ ?_;intro w8 hg8;rw [HF.out]))
   rename_i hS
   have HG8:=jH (HG.out.trans (HGG.out.trans hS.2.2.2.2.2.2.2.2.2));go_wp2_with fail;go_roundw
   case rel=>exact ⟨k+1,by omega,by go_num,by rw [HS.out],HG8.out⟩
   case measure=>simp [intOf];omega
  ·have hkn:k=x.length:=by omega
   subst hkn;rw [List.take_length];have HF:=jH (HR.out _ HG.out);generalize sizeL p x=s at HF ⊢;go_wp2_with fail;exact HF.out
theorem zrw (p:List Ln) (x:List Ed) (pv xv:Value) (w:World) (hp:LinesAt w pv p) (hx:EditsAt w xv x) (R:Ending→World→Prop)
  (hR:∀ w',Grow w w'→R (.returned (.int .i64 (sizeE p x))) w') :
  Calls Tryz.prog 264 #[pv,xv] w R:=by
 have HP:=jH hp;have HX:=jH hx;have HR:=jH hR;obtain ⟨s,hs⟩:∃ s,sizeE p x=s:=⟨_,rfl⟩;obtain ⟨e,he⟩:∃ s,chkX p x []=s:=⟨_,rfl⟩;rw [hs] at HR;have HS:=jH hs;have HE:=jH he;obtain ⟨pa,pc,rfl,_⟩:=hp;obtain ⟨xa,xc,rfl,_⟩:=hx;clear hR hs he
 go_enter func264,ntmps264
 go_wp2_with fail;refine Size_any p x _ _ _ HP.out HX.out _ ?_;intro w1 hg1;rw [HS.out,HE.out];have HF:=jH (HR.out w1 hg1);clear hg1;go_wp2_with fail;exact HF.out
end Go.Proofs.YtmeejlgnhfkeaaaGreatDoor
