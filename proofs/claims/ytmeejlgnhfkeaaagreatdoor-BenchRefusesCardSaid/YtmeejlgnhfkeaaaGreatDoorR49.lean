/- Parts. -/
import Derived.Test.YtmeejlgnhfkeaaaGreatDoorR00
import Derived.Test.YtmeejlgnhfkeaaaGreatDoorRows
import Derived.Deep.QuietTactic
import Derived.BigQuiet
namespace Go.Proofs.YtmeejlgnhfkeaaaGreatDoor
open Go.RowKit Go.Proofs.Tryz
set_option maxHeartbeats 2000000
theorem zfe {α:Type} {xs ys:List α} {k:Nat} {x:α} (h:xs.take k=ys.take k) (hx:xs[k]?=some x) (hy:ys[k]?=some x):xs.take (k+1)=ys.take (k+1):=by
 rw [List.take_add_one,List.take_add_one,h,hx,hy]
theorem zpz {xs ys:List Ln} (k:Nat) (hl:xs.length=ys.length) (h:xs.take k=ys.take k) (hk:xs.length≤k):decide (xs=ys)=true:=by
 rw [List.take_of_length_le hk,List.take_of_length_le (by omega)] at h
 simp [h]
theorem zvg (xs ys:List Ln) (v u:Value) (w:World) (hx:LinesAt w v xs) (hy:LinesAt w u ys) (R:Ending→World→Prop) (hR:∀ w',Grow w w'→R (.returned (.bool (decide (xs=ys)))) w') :
  Calls Tryz.prog 40 #[v,u] w R:=by
 have HR:=jH hR;clear hR;obtain ⟨a,c,rfl,h1,h2,h3⟩:=hx;obtain ⟨a',c',rfl,h1',h2',h3'⟩:=hy;by_cases hl:xs.length=ys.length
 ·rw [← hl] at h1' ⊢
  go_enter func40,ntmps40
  go_wp2_with fail
  go_loopw [5] (fun i wr=>∃ k:Nat,k≤xs.length∧i=.int .i64 k∧xs.take k=ys.take k∧Grow w wr) (fun i _=>xs.length - (intOf i).toNat)
  case atStart=>exact ⟨0,Nat.zero_le _,rfl,rfl,Grow.refl _⟩
  case round=>
   obtain ⟨k,hk,rfl,hs,hg⟩:=hrel;by_cases hlt:k<xs.length
   ·replace h3:=h3.resolve_left (by intro h;simp [h.1] at hlt)
    replace h3':=h3'.resolve_left (by intro h;have h0:=h.1;rw [h0] at hl;rw [hl] at hlt;simp at hlt)
    obtain ⟨b,o,rfl,hb,hc⟩:=h3;obtain ⟨b',o',rfl,hb',hc'⟩:=h3';obtain ⟨⟨op,d,p,q⟩,hx⟩:∃ l,xs[k]?=some l:=⟨_,List.getElem?_eq_getElem hlt⟩;obtain ⟨⟨op',d',p',q'⟩,hy⟩:∃ l,ys[k]?=some l:=⟨_,List.getElem?_eq_getElem (by omega)⟩
    obtain ⟨c0,c1,c2,c3⟩:=zbf hc k _ _ _ _ hx;obtain ⟨d0,d1,d2,d3⟩:=zbf hc' k _ _ _ _ hy;have e0:=hg.cell c0;have e1:=hg.cell c1;have e2:=hg.cell c2;have e3:=hg.cell c3;have f0:=hg.cell d0;have f1:=hg.cell d1;have f2:=hg.cell d2;have f3:=hg.cell d3;have hz:=hg.sz;have n1:b<wr.heap.size:=by omega
    have n2:b'<wr.heap.size:=by omega
    have HX:=jH hx;have HY:=jH hy;have HG:=jH hg;have HS:=jH hs;have HL:=jH hl;clear hc hc' hx hy hg hs hl c0 c1 c2 c3 d0 d1 d2 d3;by_cases hxy:(⟨op,d,p,q⟩:Ln)=⟨op',d',p',q'⟩
    ·cases hxy;go_wp2_with (go_quiet (fail));go_roundw
     case rel=>exact ⟨k+1,by omega,by go_num,zfe HS.out HX.out HY.out,HG.out.drewN _⟩
     case measure=>simp [intOf];omega
    ·have hne:decide (xs=ys)=false:=by
      simp only [decide_eq_false_iff_not];intro e;rw [e,HY.out] at HX;exact hxy (Option.some.inj HX.out).symm
     rw [hne] at HR;by_cases g0:op=op';rotate_left
     ·have t1:(op == op')=false:=by simpa using g0
      have t2:(op != op')=true:=by simpa using g0
      go_wp2_with (go_quiet (fail));exact HR.out _ (HG.out.drewN _)
     subst g0;by_cases g1:d=d';rotate_left
     ·have t1:(d == d')=false:=by simpa using g1
      have t2:(d != d')=true:=by simpa using g1
      go_wp2_with (go_quiet (fail));exact HR.out _ (HG.out.drewN _)
     subst g1;by_cases g2:p=p';rotate_left
     ·have t1:(p == p')=false:=by simpa using g2
      have t2:(p != p')=true:=by simpa using g2
      go_wp2_with (go_quiet (fail));exact HR.out _ (HG.out.drewN _)
     subst g2;by_cases g3:q=q';rotate_left
     ·have t1:(q == q')=false:=by simpa using g3
      have t2:(q != q')=true:=by simpa using g3
      go_wp2_with (go_quiet (fail));exact HR.out _ (HG.out.drewN _)
     subst g3;exact absurd rfl hxy
   ·have ht:=zpz k hl hs (by omega)
    rw [ht] at HR;go_wp2_with fail;exact HR.out _ hg
 ·have hne:decide (xs=ys)=false:=by
   simp only [decide_eq_false_iff_not];intro e;exact hl (by rw [e])
  rw [hne] at HR;have hl2:(xs.length:Int)≠ys.length:=by omega
  have t1:((xs.length:Int) == ys.length)=false:=beq_eq_false_iff_ne.2 hl2;have t2:((xs.length:Int) != ys.length)=true:=bne_iff_ne.2 hl2
  go_enter func40,ntmps40
  go_wp2_with fail;exact HR.out _ (Grow.refl _)
set_option maxHeartbeats 2000000
theorem zqf {xs ys:List Int} (k:Nat) (hl:xs.length=ys.length) (h:xs.take k=ys.take k) (hk:xs.length≤k):decide (xs=ys)=true:=by
 rw [List.take_of_length_le hk,List.take_of_length_le (by omega)] at h
 simp [h]
theorem zgx (xs ys:List Int) (v u:Value) (w:World) (hx:IntsAt w v xs) (hy:IntsAt w u ys) (R:Ending→World→Prop) (hR:∀ w',Grow w w'→R (.returned (.bool (decide (xs=ys)))) w') :
  Calls Tryz.prog 43 #[v,u] w R:=by
 have HR:=jH hR;clear hR;obtain ⟨a,c,rfl,h1,h2,h3⟩:=hx;obtain ⟨a',c',rfl,h1',h2',h3'⟩:=hy;by_cases hl:xs.length=ys.length
 ·rw [← hl] at h1' ⊢
  go_enter func43,ntmps43
  go_wp2_with fail
  go_loopw [5] (fun i wr=>∃ k:Nat,k≤xs.length∧i=.int .i64 k∧xs.take k=ys.take k∧Grow w wr) (fun i _=>xs.length - (intOf i).toNat)
  case atStart=>exact ⟨0,Nat.zero_le _,rfl,rfl,Grow.refl _⟩
  case round=>
   obtain ⟨k,hk,rfl,hs,hg⟩:=hrel;by_cases hlt:k<xs.length
   ·replace h3:=h3.resolve_left (by intro h;simp [h.1] at hlt)
    replace h3':=h3'.resolve_left (by intro h;have h0:=h.1;rw [h0] at hl;rw [hl] at hlt;simp at hlt)
    obtain ⟨b,o,rfl,hb,hc⟩:=h3;obtain ⟨b',o',rfl,hb',hc'⟩:=h3';obtain ⟨x,hx⟩:∃ l,xs[k]?=some l:=⟨_,List.getElem?_eq_getElem hlt⟩;obtain ⟨y,hy⟩:∃ l,ys[k]?=some l:=⟨_,List.getElem?_eq_getElem (by omega)⟩
    have e0:=hg.cell (zbb hc k x hx);have e1:=hg.cell (zbb hc' k y hy);have HX:=jH hx;have HY:=jH hy;have HG:=jH hg;have HS:=jH hs;have HL:=jH hl;clear hc hc' hx hy hg hs hl;by_cases hxy:x=y
    ·subst hxy;go_wp2_with (go_quiet (fail));go_roundw
     case rel=>exact ⟨k+1,by omega,by go_num,zfe HS.out HX.out HY.out,HG.out.drewN _⟩
     case measure=>simp [intOf];omega
    ·have t1:(x == y)=false:=by simpa using hxy
     have t2:(x != y)=true:=by simpa using hxy
     have hne:decide (xs=ys)=false:=by
      simp only [decide_eq_false_iff_not];intro e;rw [e,HY.out] at HX;exact hxy (Option.some.inj HX.out).symm
     rw [hne] at HR;go_wp2_with (go_quiet (fail));exact HR.out _ (HG.out.drewN _)
   ·have ht:=zqf k hl hs (by omega)
    rw [ht] at HR;go_wp2_with fail;exact HR.out _ hg
 ·have hne:decide (xs=ys)=false:=by
   simp only [decide_eq_false_iff_not];intro e;exact hl (by rw [e])
  rw [hne] at HR;have hl2:(xs.length:Int)≠ys.length:=by omega
  have t1:((xs.length:Int) == ys.length)=false:=beq_eq_false_iff_ne.2 hl2;have t2:((xs.length:Int) != ys.length)=true:=bne_iff_ne.2 hl2
  go_enter func43,ntmps43
  go_wp2_with fail;exact HR.out _ (Grow.refl _)
set_option maxHeartbeats 2000000
theorem zum {xs ys:List Ed} (k:Nat) (hl:xs.length=ys.length) (h:xs.take k=ys.take k) (hk:xs.length≤k):decide (xs=ys)=true:=by
 rw [List.take_of_length_le hk,List.take_of_length_le (by omega)] at h
 simp [h]
theorem ztr (xs ys:List Ed) (v u:Value) (w:World) (hx:EditsAt w v xs) (hy:EditsAt w u ys) (R:Ending→World→Prop) (hR:∀ w',Grow w w'→R (.returned (.bool (decide (xs=ys)))) w') :
  Calls Tryz.prog 80 #[v,u] w R:=by
 have HR:=jH hR;clear hR;have HX0:=jH hx;have HY0:=jH hy;obtain ⟨a,c,rfl,h1,h2,_⟩:=hx;obtain ⟨a',c',rfl,h1',h2',_⟩:=hy;by_cases hl:xs.length=ys.length
 ·rw [← hl] at h1' HY0 ⊢
  go_enter func80,ntmps80
  go_wp2_with fail
  go_loopw [5] (fun i wr=>∃ k:Nat,k≤xs.length∧i=.int .i64 k∧xs.take k=ys.take k∧Grow w wr) (fun i _=>xs.length - (intOf i).toNat)
  case atStart=>exact ⟨0,Nat.zero_le _,rfl,rfl,Grow.refl _⟩
  case round=>
   obtain ⟨k,hk,rfl,hs,hg⟩:=hrel;by_cases hlt:k<xs.length
   ·obtain ⟨⟨tt,op,d,p,q⟩,hx⟩:∃ l,xs[k]?=some l:=⟨_,List.getElem?_eq_getElem hlt⟩;obtain ⟨⟨tt',op',d',p',q'⟩,hy⟩:∃ l,ys[k]?=some l:=⟨_,List.getElem?_eq_getElem (by omega)⟩
    obtain ⟨b,o,rfl,hb,c0,c1,c2,c3,c4⟩:=zci HX0.out hx;obtain ⟨b',o',rfl,hb',d0,d1,d2,d3,d4⟩:=zci HY0.out hy;have e0:=hg.cell c0;have e1:=hg.cell c1;have e2:=hg.cell c2;have e3:=hg.cell c3;have e4:=hg.cell c4;have f0:=hg.cell d0;have f1:=hg.cell d1;have f2:=hg.cell d2;have f3:=hg.cell d3;have f4:=hg.cell d4;have hz:=hg.sz;have n1:b<wr.heap.size:=by omega
    have n2:b'<wr.heap.size:=by omega
    have HX:=jH hx;have HY:=jH hy;have HG:=jH hg;have HS:=jH hs;have HL:=jH hl;clear hx hy hg hs hl c0 c1 c2 c3 c4 d0 d1 d2 d3 d4;by_cases hxy:(⟨tt,⟨op,d,p,q⟩⟩:Ed)=⟨tt',⟨op',d',p',q'⟩⟩
    ·cases hxy;go_wp2_with (go_quiet (fail));go_roundw
     case rel=>exact ⟨k+1,by omega,by go_num,zfe HS.out HX.out HY.out,HG.out.drewN _⟩
     case measure=>simp [intOf];omega
    ·have hne:decide (xs=ys)=false:=by
      simp only [decide_eq_false_iff_not];intro e;rw [e,HY.out] at HX;exact hxy (Option.some.inj HX.out).symm
     rw [hne] at HR;by_cases gt:tt=tt';rotate_left
     ·have t1:(tt == tt')=false:=by simpa using gt
      have t2:(tt != tt')=true:=by simpa using gt
      go_wp2_with (go_quiet (fail));exact HR.out _ (HG.out.drewN _)
     subst gt;by_cases g0:op=op';rotate_left
     ·have t1:(op == op')=false:=by simpa using g0
      have t2:(op != op')=true:=by simpa using g0
      go_wp2_with (go_quiet (fail));exact HR.out _ (HG.out.drewN _)
     subst g0;by_cases g1:d=d';rotate_left
     ·have t1:(d == d')=false:=by simpa using g1
      have t2:(d != d')=true:=by simpa using g1
      go_wp2_with (go_quiet (fail));exact HR.out _ (HG.out.drewN _)
     subst g1;by_cases g2:p=p';rotate_left
     ·have t1:(p == p')=false:=by simpa using g2
      have t2:(p != p')=true:=by simpa using g2
      go_wp2_with (go_quiet (fail));exact HR.out _ (HG.out.drewN _)
     subst g2;by_cases g3:q=q';rotate_left
     ·have t1:(q == q')=false:=by simpa using g3
      have t2:(q != q')=true:=by simpa using g3
      go_wp2_with (go_quiet (fail));exact HR.out _ (HG.out.drewN _)
     subst g3;exact absurd rfl hxy
   ·have ht:=zum k hl hs (by omega)
    rw [ht] at HR;go_wp2_with fail;exact HR.out _ hg
 ·have hne:decide (xs=ys)=false:=by
   simp only [decide_eq_false_iff_not];intro e;exact hl (by rw [e])
  rw [hne] at HR;have hl2:(xs.length:Int)≠ys.length:=by omega
  have t1:((xs.length:Int) == ys.length)=false:=beq_eq_false_iff_ne.2 hl2;have t2:((xs.length:Int) != ys.length)=true:=bne_iff_ne.2 hl2
  go_enter func80,ntmps80
  go_wp2_with fail;exact HR.out _ (Grow.refl _)
end Go.Proofs.YtmeejlgnhfkeaaaGreatDoor
