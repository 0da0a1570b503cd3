/- Parts. -/
import Derived.Shelf.Spec.SlicesInsertGrow
import Derived.Shelf.Spec.SlicesInsert
import Derived.Test.YtmeejlgnhfkeaaaGreatDoorProg
import Derived.Test.YtmeejlgnhfkeaaaGreatDoorR24
import Derived.Test.YtmeejlgnhfkeaaaGreatDoorR27
namespace Go.Proofs
open Go.Shelf
def Tryz.laysNm221_ren:Go.Shelf.Ren:=⟨fun | 21=>168 | 27=>202 | 28=>203 | 35=>236 | 39=>258 | n=>n,fun | 22=>61 | 3=>3 | 4=>4 | 0=>0 | n=>n,fun | n=>n⟩
theorem Tryz.laysNm221:Go.Proofs.Lays2.n21 Tryz.prog Tryz.laysNm221_ren:={
 mixed:=by kernel_rfl
 f21:=Tryz.func168.trans (congrArg some (by kernel_rfl))
 f27:=Tryz.func202.trans (congrArg some (by kernel_rfl))
 f28:=Tryz.func203.trans (congrArg some (by kernel_rfl))
 f35:=Tryz.func236.trans (congrArg some (by kernel_rfl))
 f39:=Tryz.func258.trans (congrArg some (by kernel_rfl))
 t0:=Tryz.underlying0
 a0:=Tryz.isAgg0
 z0:=Tryz.sizeOf0
 v0:=Tryz.zeroValue0
 t3:=Tryz.underlying3
 a3:=Tryz.isAgg3
 z3:=Tryz.sizeOf3
 v3:=Tryz.zeroValue3
 t4:=Tryz.underlying4
 a4:=Tryz.isAgg4
 z4:=Tryz.sizeOf4
 v4:=Tryz.zeroValue4
 t22:=Tryz.underlying61
 a22:=Tryz.isAgg61
 z22:=Tryz.sizeOf61
 v22:=Tryz.zeroValue61
 i3:=by kernel_rfl }
end Go.Proofs

namespace Go.Proofs.YtmeejlgnhfkeaaaGreatDoor
open Go.RowKit
set_option maxHeartbeats 4000000
theorem zia {w:World} {b c:Nat} {xs:List Int} (hn:xs.length≤c) (hc:c≤9223372036854775807) (hb:b<w.heap.size) (h:∀ j x,xs[j]?=some x→w.cell? ⟨b,j,none⟩=some (.int .i64 x)):IntsAt w (.slice (some ⟨b,0,none⟩) xs.length c) xs:=by
 refine ⟨_,c,rfl,hn,hc,.inr ⟨b,0,rfl,hb,fun j x hj i u hu=>?_⟩⟩;cases i with
 | succ i=>simp [encI] at hu
 | zero=>
  simp [encI] at hu;subst hu;rw [show 0+j * 1+0=j by omega]
  exact h j x hj
theorem insJ (xs:List Int) (i:Nat) (x:Int) (hi:i≤xs.length):∀ j y,(xs.take i++x :: xs.drop i)[j]?=some y→(j<i∧xs[j]?=some y)∨(j=i∧y=x)∨(i<j∧xs[j - 1]?=some y):=by
 intro j y hy;rcases Nat.lt_trichotomy j i with h | h | h
 ·rw [List.getElem?_append_left (by rw [List.length_take];omega),List.getElem?_take,if_pos h] at hy
  exact .inl ⟨h,hy⟩
 ·subst h;rw [List.getElem?_append_right (by rw [List.length_take];omega),List.length_take,Nat.min_eq_left hi,Nat.sub_self] at hy
  exact .inr (.inl ⟨rfl,(Option.some.inj hy).symm⟩)
 ·rw [List.getElem?_append_right (by rw [List.length_take];omega),List.length_take,Nat.min_eq_left hi] at hy
  obtain ⟨k,hk⟩:∃ k,j - i=k+1:=⟨j - i - 1,by omega⟩
  rw [hk,List.getElem?_cons_succ,List.getElem?_drop] at hy;exact .inr (.inr ⟨h,by rw [show j - 1=i+k by omega];exact hy⟩)
theorem flatI (xs:List Int):xs.flatMap encI=xs.map (Value.int .i64):=by
 induction xs with
 | nil=>rfl
 | cons x r ih=>rw [List.flatMap_cons,ih];rfl
theorem mapI_at {xs:List Int} {j:Nat} {v:Value} (h:(xs.map (Value.int .i64))[j]?=some v):∃ y,xs[j]?=some y∧v=.int .i64 y:=by
 rw [List.getElem?_map] at h;cases hx:xs[j]? with
 | none=>rw [hx] at h;cases h
 | some y=>rw [hx] at h;exact ⟨y,rfl,(Option.some.inj h).symm⟩
theorem oneI (xs:List Int):∀ v∈xs.map (Value.int .i64),v.oneCell'=true:=by
 intro v hv;obtain ⟨y,_,rfl⟩:=List.mem_map.1 hv
 rfl
theorem World.size_setCells' (b:Nat):∀ (vs:List Value) (o:Nat) (w:World),(w.setCells b o vs).heap.size=w.heap.size
 | [],_,_=>rfl
 | v :: r,o,w=>by rw [World.setCells,World.size_setCells' b r];simp [World.setCell]
theorem zcw {B b:Nat} {a:World} (hb:B≤b):∀ (vs:List Value) (o:Nat) {w:World},Below B a w→Below B a (w.setCells b o vs)
 | [],_,_,h=>h
 | _ :: r,o,_,h=>zcw hb r (o+1) (Below.setCell h hb _)
theorem insI_any (xs:List Int) (i:Nat) (x:Int) (v lv:Value) (base vb:Nat) (w:World) (hown:w.ownsRow base 3 1 v xs.length (xs.flatMap encI)) (hi:i≤xs.length) (hl:xs.length<1000000) (hlv:lv=.slice (some ⟨vb,0,none⟩) 1 1)
  (hlit:w.heap[vb]?=some (.cells #[.int .i64 x] 3 (0,0))) (hvb:∀ g o n c,v=.slice (some ⟨g,o,none⟩) n c→vb≠g) (hbase:base≤w.heap.size) (R:Ending→World→Prop)
  (hR:∀ w' v',Below base w w'→NewS base v'→IntsAt w' v' (xs.take i++x :: xs.drop i)→R (.returned v') w') :
  Calls Tryz.prog 168 #[v,.int .i64 i,lv] w R:=by
 subst hlv;have hys:(xs.take i++x :: xs.drop i).length=xs.length+1:=by simp;omega
 have hJ:=insJ xs i x hi;have hvs:∀ j u,[Value.int .i64 x][j]?=some u→w.cell? ⟨vb,0+j,none⟩=some u:=fun j u hj=>by
  cases j with
  | succ j=>simp at hj
  | zero=>simp at hj;subst hj;exact cellOf hlit _ rfl
 have h1v:∀ u∈[Value.int .i64 x],u.oneCell'=true:=by intro u hu;simp at hu;subst hu;rfl
 rcases hown.2 with ⟨rfl,h0⟩ | ⟨g,cap,cur,rfl,hb,hh,hn,hm,hcs,htake⟩
 ·obtain rfl:xs=[]:=List.eq_nil_of_length_eq_zero h0;obtain rfl:i=0:=by simpa using hi
  refine (Any2.slices_Insert_int_end_grow Tryz.laysNm221 none 0 0 vb 0 1 1 [] [.int .i64 x] w (by decide) (by decide) (by decide) (by decide) rfl rfl (fun _=>rfl) (by simp) hvs h1v).mono ?_
  rintro e w' ⟨rfl,rfl⟩;refine hR _ _ (Below.alloc (Below.drew (Below.refl _ _)) hbase _) (fun a n c e=>by injection e with e;injection e with e;rw [← e];exact hbase) ?_
  have h9:=zia (w:=w.drew.alloc (.cells (([]++[Value.int .i64 x]).toArray++Builtin.zeroCells (Value.int .i64 0).cells (grownCap w 1 0 3 - 1)) 3)) (b:=w.heap.size) (xs:=[x]) (grownCap_ge w 1 0 3) (grownCap_le_maxLen w 1 0 3 (by decide)) (by simp) (fun j y hj=>by
   cases j with
   | succ j=>simp at hj
   | zero=>
    simp at hj;subst hj;exact (World.cell?_alloc_new w.drew _ _ _).trans (by rw [Array.getElem?_append_left (by simp)];rfl))
  exact h9
 rw [Nat.mul_one] at hcs htake;rw [flatI] at htake;have hcell:∀ j y,xs[j]?=some y→w.cell? ⟨g,j,none⟩=some (.int .i64 y):=fun j y hj=>by
  refine cellOf hh j ?_;have h1:(cur.toList.take xs.length)[j]?=some (.int .i64 y):=by rw [htake,List.getElem?_map,hj];rfl
  rw [List.getElem?_take] at h1
  split at h1
  ·rw [← Array.getElem?_toList];exact h1
  ·cases h1
 have hcell0:∀ j u,(xs.map (Value.int .i64))[j]?=some u→w.cell? ⟨g,0+j,none⟩=some u:=fun j u hj=>by
  obtain ⟨y,hy,rfl⟩:=mapI_at hj;rw [Nat.zero_add];exact hcell j y hy
 have hsome:∀ j,j<cap→(w.cell? ⟨g,j,none⟩).isSome=true:=fun j hj=>by
  rw [cellOf hh j (Array.getElem?_eq_getElem (by omega))];rfl
 have hfz:∀ j,w.frozen? ⟨g,j,none⟩=false:=frz hh;have hglt:=lt_of_block hh;have hxl:(xs.map (Value.int .i64)).length=xs.length:=by simp
 have hmx:cap≤9223372036854775807:=hm;have hne:=hvb _ _ _ _ rfl;have hnew:∀ c,NewS base (.slice (some ⟨g,0,none⟩) (xs.length+1) c):=fun c a n c' e=>by injection e with e;injection e with e;rw [← e];exact hb
 have hnew2:∀ c,NewS base (.slice (some ⟨w.heap.size,0,none⟩) (xs.length+1) c):=fun c a n c' e=>by injection e with e;injection e with e;rw [← e];exact hbase
 by_cases hin:i=xs.length
 ·subst hin;by_cases hr:xs.length+1≤cap
  ·refine (Any2.slices_Insert_int_end_room Tryz.laysNm221 g 0 xs.length cap vb 0 1 1 [.int .i64 x] w (by decide) hr hmx rfl (fun j hj=>hsome _ (by omega)) (fun j _=>hfz _) hvs h1v).mono ?_
   rintro e w' ⟨rfl,rfl⟩;refine hR _ _ (zcw hb _ _ (Below.refl _ _)) (hnew _) ?_;have h9:=zia (w:=w.setCells g (0+xs.length) [.int .i64 x]) (b:=g) (c:=cap) (xs:=xs.take xs.length++x :: xs.drop xs.length) (by rw [hys];exact hr) hmx (by rw [World.size_setCells'];exact hglt) (fun j y hj=>by
    rcases hJ j y hj with ⟨h,hy⟩ | ⟨rfl,rfl⟩ | ⟨h,hy⟩
    ·rw [World.cell?_setCells_out _ _ _ _ _ (fun _ _=>by show j<_∨_;omega)]
     exact hcell j y hy
    ·have:=World.cell?_setCells_in g [.int .i64 y] (0+xs.length) w (fun j hj=>hsome _ (by simp at hj;omega)) 0 (by simp)
     rw [show 0+xs.length+0=xs.length by omega] at this
     exact this
    ·rw [List.getElem?_eq_none (by omega)] at hy;cases hy)
   rw [hys] at h9;exact h9
  ·refine (Any2.slices_Insert_int_end_grow Tryz.laysNm221 (some ⟨g,0,none⟩) xs.length cap vb 0 1 1 (xs.map (Value.int .i64)) [.int .i64 x] w (by decide) hn (by omega) (by omega) hxl rfl (fun h=>by cases h) (fun a e j u hj=>by injection e with e;subst e;rw [Addr.add_lit];exact hcell0 j u hj) hvs h1v).mono ?_
   rintro e w' ⟨rfl,rfl⟩;refine hR _ _ (Below.alloc (Below.drew (Below.refl _ _)) hbase _) (hnew2 _) ?_;have h9:=zia (w:=w.drew.alloc (.cells ((xs.map (Value.int .i64)++[Value.int .i64 x]).toArray++Builtin.zeroCells (Value.int .i64 0).cells (grownCap w (xs.length+1) cap 3 - (xs.length+1))) 3)) (b:=w.heap.size) (c:=grownCap w (xs.length+1) cap 3) (xs:=xs.take xs.length++x :: xs.drop xs.length) (by rw [hys];exact grownCap_ge w _ _ 3) (grownCap_le_maxLen w _ _ 3 (by unfold maxLen;omega)) (by simp) (fun j y hj=>by
    refine (World.cell?_alloc_new w.drew _ _ _).trans ?_;have hjl:j<xs.length+1:=by have:=(List.getElem?_eq_some_iff.1 hj).1;omega
    rw [Array.getElem?_append_left (by simp;omega),List.getElem?_toArray]
    rw [List.take_of_length_le (Nat.le_refl _),List.drop_length] at hj;rw [show xs.map (Value.int .i64)++[Value.int .i64 x]=(xs++[x]).map (Value.int .i64) by simp,List.getElem?_map,hj];rfl)
   rw [hys] at h9;exact h9
 have hin':i<xs.length:=by omega
 by_cases hr:xs.length+1≤cap
 ·refine (Any2.slices_Insert_int_shift Tryz.laysNm221 g 0 xs.length cap i vb 0 1 1 (xs.map (Value.int .i64)) [.int .i64 x] w hin' (by decide) hr hmx hne hxl rfl hcell0 (fun j hj=>hsome _ (by omega)) (fun j _=>hfz _) hvs (oneI xs) h1v 3 3 1 cur.size (by unfold World.shape?;rw [hlit];rfl) (by unfold World.shape?;rw [hh]) (by omega) (frz hlit _) (frz hlit _)).mono ?_
  rintro e w' ⟨rfl,rfl⟩;refine hR _ _ (zcw hb _ _ (zcw hb _ _ (Below.drew (Below.refl _ _)))) (hnew _) ?_;have hsz2:∀ (k o:Nat),k<cap→((w.drew.setCells g o ((xs.map (Value.int .i64)).drop i)).cell? ⟨g,k,none⟩).isSome=true:=fun k o hk=>World.isSome_setCells g _ _ _ _ (hsome k hk);have h9:=zia (w:=(w.drew.setCells g (0+(i+1)) ((xs.map (Value.int .i64)).drop i)).setCells g (0+i) [.int .i64 x]) (b:=g) (c:=cap) (xs:=xs.take i++x :: xs.drop i) (by rw [hys];exact hr) hmx (by rw [World.size_setCells',World.size_setCells'];exact hglt) (fun j y hj=>by
   rcases hJ j y hj with ⟨h,hy⟩ | ⟨rfl,rfl⟩ | ⟨h,hy⟩
   ·rw [World.cell?_setCells_out _ _ _ _ _ (fun _ _=>by show j<_∨_;omega),World.cell?_setCells_out _ _ _ _ _ (fun _ _=>by show j<_∨_;omega)]
    exact hcell j y hy
   ·have:=World.cell?_setCells_in g [.int .i64 y] (0+j) (w.drew.setCells g (0+(j+1)) ((xs.map (Value.int .i64)).drop j)) (fun k hk=>hsz2 _ _ (by simp at hk;omega)) 0 (by simp)
    rw [show 0+j+0=j by omega] at this
    exact this
   ·have hjl:=(List.getElem?_eq_some_iff.1 hy).1;rw [World.cell?_setCells_out _ _ _ _ _ (fun _ _=>by show j<_∨_≤j;simp;omega)]
    have:=World.cell?_setCells_in g ((xs.map (Value.int .i64)).drop i) (0+(i+1)) w.drew (fun k hk=>hsome _ (by simp at hk;omega)) (j - (i+1)) (by simp;omega)
    rw [show 0+(i+1)+(j - (i+1))=j by omega] at this
    rw [this,← List.getElem?_eq_getElem,List.getElem?_drop,List.getElem?_map,show i+(j - (i+1))=j - 1 by omega,hy];rfl)
  rw [hys] at h9;exact h9
 ·refine (Any2.slices_Insert_int_grow Tryz.laysNm221 g 0 xs.length cap i vb 0 1 1 (xs.map (Value.int .i64)) [.int .i64 x] w hin' (by decide) hn (by omega) (by omega) hxl rfl hcell0 hvs (oneI xs) h1v).mono ?_
  rintro e w' ⟨rfl,rfl⟩;obtain ⟨W,hW⟩:∃ W:World,W=(w.alloc (.cells (((xs.map (Value.int .i64)).take i).toArray++Builtin.zeroCells (Value.int .i64 0).cells (xs.length+1 - i)++Builtin.zeroCells (Value.int .i64 0).cells (grownCap w (xs.length+1) cap 3 - (xs.length+1))) 3)):=⟨_,rfl⟩;have hzl:(Builtin.zeroCells (Value.int .i64 0).cells (xs.length+1 - i)).size=xs.length+1 - i:=by rw [size_zeroCells];simp [Value.cells]
  have hWs:∀ k,k<xs.length+1→(W.cell? ⟨w.heap.size,k,none⟩).isSome=true:=fun k hk=>by
   rw [hW,World.cell?_alloc_new,Array.getElem?_append_left (by rw [Array.size_append,hzl];simp;omega)]
   rw [Array.getElem?_eq_getElem (by rw [Array.size_append,hzl];simp;omega)];rfl
  have hWi:∀ k y,k<i→xs[k]?=some y→W.cell? ⟨w.heap.size,k,none⟩=some (.int .i64 y):=fun k y hk hy=>by
   rw [hW,World.cell?_alloc_new,Array.getElem?_append_left (by rw [Array.size_append,hzl];simp;omega),Array.getElem?_append_left (by simp;omega),List.getElem?_toArray,List.getElem?_take,if_pos hk,List.getElem?_map,hy];rfl
  have hWz:w.heap.size<W.heap.size:=by rw [hW];simp
  have hBW:Below base w W:=by rw [hW];exact Below.alloc (Below.refl _ _) hbase _
  have hsz2:∀ (k:Nat),k<xs.length+1→(((W.drew.setCells w.heap.size i [.int .i64 x]).drew).cell? ⟨w.heap.size,k,none⟩).isSome=true:=fun k hk=>World.isSome_setCells w.heap.size _ _ _ _ (hWs k hk);rw [show (some ⟨w.heap.size,0,none⟩:Option Addr)=some ⟨w.heap.size,0,none⟩ from rfl];refine hR _ _ ?_ (hnew2 _) ?_
  ·have hBf:Below base w ((W.drew.setCells w.heap.size i [.int .i64 x]).drew.setCells w.heap.size (i+1) ((xs.map (Value.int .i64)).drop i)):=zcw hbase _ _ (Below.drew (zcw hbase _ _ (Below.drew hBW)));rw [hW] at hBf;exact hBf
  have h9:=zia (w:=((W.drew.setCells w.heap.size i [.int .i64 x]).drew).setCells w.heap.size (i+1) ((xs.map (Value.int .i64)).drop i)) (b:=w.heap.size) (c:=grownCap w (xs.length+1) cap 3) (xs:=xs.take i++x :: xs.drop i) (by rw [hys];exact grownCap_ge w _ _ 3) (grownCap_le_maxLen w _ _ 3 (by unfold maxLen;omega)) (by rw [World.size_setCells'];show _<(W.drew.setCells w.heap.size i [.int .i64 x]).heap.size;rw [World.size_setCells'];exact hWz) (fun j y hj=>by
   rcases hJ j y hj with ⟨h,hy⟩ | ⟨rfl,rfl⟩ | ⟨h,hy⟩
   ·rw [World.cell?_setCells_out _ _ _ _ _ (fun _ _=>by show j<_∨_;omega)]
    show (W.drew.setCells w.heap.size i [.int .i64 x]).cell? _=_
    rw [World.cell?_setCells_out _ _ _ _ _ (fun _ _=>by show j<_∨_;omega)]
    exact hWi j y h hy
   ·rw [World.cell?_setCells_out _ _ _ _ _ (fun _ _=>by show j<_∨_;omega)]
    have:=World.cell?_setCells_in w.heap.size [.int .i64 y] j W.drew (fun k hk=>hWs _ (by simp at hk;omega)) 0 (by simp)
    exact this
   ·have hjl:=(List.getElem?_eq_some_iff.1 hy).1;have:=World.cell?_setCells_in w.heap.size ((xs.map (Value.int .i64)).drop i) (i+1) ((W.drew.setCells w.heap.size i [.int .i64 x]).drew) (fun k hk=>hsz2 _ (by simp at hk;omega)) (j - (i+1)) (by simp;omega)
    rw [show i+1+(j - (i+1))=j by omega] at this
    rw [this,← List.getElem?_eq_getElem,List.getElem?_drop,List.getElem?_map,show i+(j - (i+1))=j - 1 by omega,hy];rfl)
  rw [hys,hW] at h9;exact h9
end Go.Proofs.YtmeejlgnhfkeaaaGreatDoor
