/- Parts. -/
import Derived.Test.YtmeejlgnhfkeaaaGreatDoorR00
import Derived.Test.YtmeejlgnhfkeaaaGreatDoorRows
namespace Go.Proofs.YtmeejlgnhfkeaaaGreatDoor
open Go.RowKit Go.Proofs.Tryz
set_option maxHeartbeats 1000000
theorem zaq (n lo hi:Int) (w:World) (R:Ending→World→Prop) (hR:R (.returned (.bool (inB n lo hi))) w) :
  Calls Tryz.prog 146 #[.int .i64 n,.int .i64 lo,.int .i64 hi] w R:=by
 by_cases h:lo≤n
 ·by_cases h2:n≤hi
  ·rw [zbd.2 ⟨h,h2⟩] at hR
   go_enter func146,ntmps146
   go_wp2
   simpa using hR
  ·rw [zbq.2 (by omega)] at hR
   go_enter func146,ntmps146
   go_wp2
   simpa using hR
 ·rw [zbq.2 (by omega)] at hR
  go_enter func146,ntmps146
  go_wp2
  simpa using hR
theorem zai (n:Int) (w:World) (R:Ending→World→Prop) (hR:R (.returned (.bool (inB n 0 3))) w) :
  Calls Tryz.prog 145 #[.int .i64 n] w R:=by
 go_enter func145,ntmps145
 go_wp2_with (go_at_call 146;refine (zaq _ _ _ _ _ ?_));simpa using hR
theorem zld (d a b:Int) (w:World) (R:Ending→World→Prop) (hR:∀ w',Grow w w'→R (.returned (.int .i64 (errB (vL 0 d a b)))) w') :
  Calls Tryz.prog 101 #[.agg #[.int .i64 0,.int .i64 d,.int .i64 a,.int .i64 b]] w R:=by
 by_cases c0:d=0;rotate_left
 ·rw [show errB (vL 0 d a b)=1 by simp [vL,errB,c0]] at hR
  go_enter func101,ntmps101
  go_wp2_with (first | (go_at_call 145;refine zai _ _ _ ?_) | (go_at_call 146;refine zaq _ _ _ _ _ ?_))
  exact (Grow.refl _).alloc _
 subst c0;by_cases c1:a=0;rotate_left
 ·rw [show errB (vL 0 0 a b)=1 by simp [vL,errB,c1]] at hR
  go_enter func101,ntmps101
  go_wp2_with (first | (go_at_call 145;refine zai _ _ _ ?_) | (go_at_call 146;refine zaq _ _ _ _ _ ?_))
  exact (Grow.refl _).alloc _
 subst c1;by_cases c2:b=0;rotate_left
 ·rw [show errB (vL 0 0 0 b)=1 by simp [vL,errB,c2]] at hR
  go_enter func101,ntmps101
  go_wp2_with (first | (go_at_call 145;refine zai _ _ _ ?_) | (go_at_call 146;refine zaq _ _ _ _ _ ?_))
  exact (Grow.refl _).alloc _
 subst c2;rw [show errB (vL 0 0 0 0)=0 by simp [vL,errB]] at hR
 go_enter func101,ntmps101
 go_wp2_with (first | (go_at_call 145;refine zai _ _ _ ?_) | (go_at_call 146;refine zaq _ _ _ _ _ ?_))
 exact (Grow.refl _).alloc _
theorem zku (d a b:Int) (w:World) (R:Ending→World→Prop) (hR:∀ w',Grow w w'→R (.returned (.int .i64 (errB (vL 1 d a b)))) w') :
  Calls Tryz.prog 101 #[.agg #[.int .i64 1,.int .i64 d,.int .i64 a,.int .i64 b]] w R:=by
 by_cases c0:inB d 0 3=true;rotate_left
 ·rw [show errB (vL 1 d a b)=1 by simp [vL,errB,c0]] at hR
  replace c0:inB d 0 3=false:=by simpa using c0
  go_enter func101,ntmps101
  go_wp2_with (first | (go_at_call 145;refine zai _ _ _ ?_) | (go_at_call 146;refine zaq _ _ _ _ _ ?_))
  exact (Grow.refl _).alloc _
 by_cases c1:inB a (-9) 9=true;rotate_left
 ·rw [show errB (vL 1 d a b)=1 by simp [vL,errB,c1]] at hR
  replace c1:inB a (-9) 9=false:=by simpa using c1
  go_enter func101,ntmps101
  go_wp2_with (first | (go_at_call 145;refine zai _ _ _ ?_) | (go_at_call 146;refine zaq _ _ _ _ _ ?_))
  exact (Grow.refl _).alloc _
 by_cases c2:b=0;rotate_left
 ·rw [show errB (vL 1 d a b)=1 by simp [vL,errB,c2]] at hR
  have _d:(b == 0)=false:=by simpa using c2
  go_enter func101,ntmps101
  go_wp2_with (first | (go_at_call 145;refine zai _ _ _ ?_) | (go_at_call 146;refine zaq _ _ _ _ _ ?_))
  exact (Grow.refl _).alloc _
 subst c2;rw [show errB (vL 1 d a 0)=0 by simp [vL,errB,c0,c1]] at hR
 go_enter func101,ntmps101
 go_wp2_with (first | (go_at_call 145;refine zai _ _ _ ?_) | (go_at_call 146;refine zaq _ _ _ _ _ ?_))
 exact (Grow.refl _).alloc _
theorem zlj (d a b:Int) (w:World) (R:Ending→World→Prop) (hR:∀ w',Grow w w'→R (.returned (.int .i64 (errB (vL 2 d a b)))) w') :
  Calls Tryz.prog 101 #[.agg #[.int .i64 2,.int .i64 d,.int .i64 a,.int .i64 b]] w R:=by
 by_cases c0:inB d 0 3=true;rotate_left
 ·rw [show errB (vL 2 d a b)=1 by simp [vL,errB,c0]] at hR
  replace c0:inB d 0 3=false:=by simpa using c0
  go_enter func101,ntmps101
  go_wp2_with (first | (go_at_call 145;refine zai _ _ _ ?_) | (go_at_call 146;refine zaq _ _ _ _ _ ?_))
  exact (Grow.refl _).alloc _
 by_cases c1:inB a 0 3=true;rotate_left
 ·rw [show errB (vL 2 d a b)=1 by simp [vL,errB,c1]] at hR
  replace c1:inB a 0 3=false:=by simpa using c1
  go_enter func101,ntmps101
  go_wp2_with (first | (go_at_call 145;refine zai _ _ _ ?_) | (go_at_call 146;refine zaq _ _ _ _ _ ?_))
  exact (Grow.refl _).alloc _
 by_cases c2:b=0;rotate_left
 ·rw [show errB (vL 2 d a b)=1 by simp [vL,errB,c2]] at hR
  have _d:(b == 0)=false:=by simpa using c2
  go_enter func101,ntmps101
  go_wp2_with (first | (go_at_call 145;refine zai _ _ _ ?_) | (go_at_call 146;refine zaq _ _ _ _ _ ?_))
  exact (Grow.refl _).alloc _
 subst c2;rw [show errB (vL 2 d a 0)=0 by simp [vL,errB,c0,c1]] at hR
 go_enter func101,ntmps101
 go_wp2_with (first | (go_at_call 145;refine zai _ _ _ ?_) | (go_at_call 146;refine zaq _ _ _ _ _ ?_))
 exact (Grow.refl _).alloc _
theorem zle (d a b:Int) (w:World) (R:Ending→World→Prop) (hR:∀ w',Grow w w'→R (.returned (.int .i64 (errB (vL 3 d a b)))) w') :
  Calls Tryz.prog 101 #[.agg #[.int .i64 3,.int .i64 d,.int .i64 a,.int .i64 b]] w R:=by
 by_cases c0:inB d 0 3=true;rotate_left
 ·rw [show errB (vL 3 d a b)=1 by simp [vL,errB,c0]] at hR
  replace c0:inB d 0 3=false:=by simpa using c0
  go_enter func101,ntmps101
  go_wp2_with (first | (go_at_call 145;refine zai _ _ _ ?_) | (go_at_call 146;refine zaq _ _ _ _ _ ?_))
  exact (Grow.refl _).alloc _
 by_cases c1:inB a 0 3=true;rotate_left
 ·rw [show errB (vL 3 d a b)=1 by simp [vL,errB,c1]] at hR
  replace c1:inB a 0 3=false:=by simpa using c1
  go_enter func101,ntmps101
  go_wp2_with (first | (go_at_call 145;refine zai _ _ _ ?_) | (go_at_call 146;refine zaq _ _ _ _ _ ?_))
  exact (Grow.refl _).alloc _
 by_cases c2:inB b 0 3=true;rotate_left
 ·rw [show errB (vL 3 d a b)=1 by simp [vL,errB,c2]] at hR
  replace c2:inB b 0 3=false:=by simpa using c2
  go_enter func101,ntmps101
  go_wp2_with (first | (go_at_call 145;refine zai _ _ _ ?_) | (go_at_call 146;refine zaq _ _ _ _ _ ?_))
  exact (Grow.refl _).alloc _
 rw [show errB (vL 3 d a b)=0 by simp [vL,errB,c0,c1,c2]] at hR
 go_enter func101,ntmps101
 go_wp2_with (first | (go_at_call 145;refine zai _ _ _ ?_) | (go_at_call 146;refine zaq _ _ _ _ _ ?_))
 exact (Grow.refl _).alloc _
theorem zll (d a b:Int) (w:World) (R:Ending→World→Prop) (hR:∀ w',Grow w w'→R (.returned (.int .i64 (errB (vL 4 d a b)))) w') :
  Calls Tryz.prog 101 #[.agg #[.int .i64 4,.int .i64 d,.int .i64 a,.int .i64 b]] w R:=by
 by_cases c0:inB d 0 3=true;rotate_left
 ·rw [show errB (vL 4 d a b)=1 by simp [vL,errB,c0]] at hR
  replace c0:inB d 0 3=false:=by simpa using c0
  go_enter func101,ntmps101
  go_wp2_with (first | (go_at_call 145;refine zai _ _ _ ?_) | (go_at_call 146;refine zaq _ _ _ _ _ ?_))
  exact (Grow.refl _).alloc _
 by_cases c1:inB a 0 3=true;rotate_left
 ·rw [show errB (vL 4 d a b)=1 by simp [vL,errB,c1]] at hR
  replace c1:inB a 0 3=false:=by simpa using c1
  go_enter func101,ntmps101
  go_wp2_with (first | (go_at_call 145;refine zai _ _ _ ?_) | (go_at_call 146;refine zaq _ _ _ _ _ ?_))
  exact (Grow.refl _).alloc _
 by_cases c2:inB b 0 3=true;rotate_left
 ·rw [show errB (vL 4 d a b)=1 by simp [vL,errB,c2]] at hR
  replace c2:inB b 0 3=false:=by simpa using c2
  go_enter func101,ntmps101
  go_wp2_with (first | (go_at_call 145;refine zai _ _ _ ?_) | (go_at_call 146;refine zaq _ _ _ _ _ ?_))
  exact (Grow.refl _).alloc _
 rw [show errB (vL 4 d a b)=0 by simp [vL,errB,c0,c1,c2]] at hR
 go_enter func101,ntmps101
 go_wp2_with (first | (go_at_call 145;refine zai _ _ _ ?_) | (go_at_call 146;refine zaq _ _ _ _ _ ?_))
 exact (Grow.refl _).alloc _
theorem zla (d a b:Int) (w:World) (R:Ending→World→Prop) (hR:∀ w',Grow w w'→R (.returned (.int .i64 (errB (vL 5 d a b)))) w') :
  Calls Tryz.prog 101 #[.agg #[.int .i64 5,.int .i64 d,.int .i64 a,.int .i64 b]] w R:=by
 by_cases c0:inB d 0 3=true;rotate_left
 ·rw [show errB (vL 5 d a b)=1 by simp [vL,errB,c0]] at hR
  replace c0:inB d 0 3=false:=by simpa using c0
  go_enter func101,ntmps101
  go_wp2_with (first | (go_at_call 145;refine zai _ _ _ ?_) | (go_at_call 146;refine zaq _ _ _ _ _ ?_))
  exact (Grow.refl _).alloc _
 by_cases c1:inB a 0 3=true;rotate_left
 ·rw [show errB (vL 5 d a b)=1 by simp [vL,errB,c1]] at hR
  replace c1:inB a 0 3=false:=by simpa using c1
  go_enter func101,ntmps101
  go_wp2_with (first | (go_at_call 145;refine zai _ _ _ ?_) | (go_at_call 146;refine zaq _ _ _ _ _ ?_))
  exact (Grow.refl _).alloc _
 by_cases c2:inB b 0 3=true;rotate_left
 ·rw [show errB (vL 5 d a b)=1 by simp [vL,errB,c2]] at hR
  replace c2:inB b 0 3=false:=by simpa using c2
  go_enter func101,ntmps101
  go_wp2_with (first | (go_at_call 145;refine zai _ _ _ ?_) | (go_at_call 146;refine zaq _ _ _ _ _ ?_))
  exact (Grow.refl _).alloc _
 rw [show errB (vL 5 d a b)=0 by simp [vL,errB,c0,c1,c2]] at hR
 go_enter func101,ntmps101
 go_wp2_with (first | (go_at_call 145;refine zai _ _ _ ?_) | (go_at_call 146;refine zaq _ _ _ _ _ ?_))
 exact (Grow.refl _).alloc _
theorem zky (d a b:Int) (w:World) (R:Ending→World→Prop) (hR:∀ w',Grow w w'→R (.returned (.int .i64 (errB (vL 6 d a b)))) w') :
  Calls Tryz.prog 101 #[.agg #[.int .i64 6,.int .i64 d,.int .i64 a,.int .i64 b]] w R:=by
 by_cases c0:inB d 0 3=true;rotate_left
 ·rw [show errB (vL 6 d a b)=1 by simp [vL,errB,c0]] at hR
  replace c0:inB d 0 3=false:=by simpa using c0
  go_enter func101,ntmps101
  go_wp2_with (first | (go_at_call 145;refine zai _ _ _ ?_) | (go_at_call 146;refine zaq _ _ _ _ _ ?_))
  exact (Grow.refl _).alloc _
 by_cases c1:inB a 0 3=true;rotate_left
 ·rw [show errB (vL 6 d a b)=1 by simp [vL,errB,c1]] at hR
  replace c1:inB a 0 3=false:=by simpa using c1
  go_enter func101,ntmps101
  go_wp2_with (first | (go_at_call 145;refine zai _ _ _ ?_) | (go_at_call 146;refine zaq _ _ _ _ _ ?_))
  exact (Grow.refl _).alloc _
 by_cases c2:inB b 0 3=true;rotate_left
 ·rw [show errB (vL 6 d a b)=1 by simp [vL,errB,c2]] at hR
  replace c2:inB b 0 3=false:=by simpa using c2
  go_enter func101,ntmps101
  go_wp2_with (first | (go_at_call 145;refine zai _ _ _ ?_) | (go_at_call 146;refine zaq _ _ _ _ _ ?_))
  exact (Grow.refl _).alloc _
 rw [show errB (vL 6 d a b)=0 by simp [vL,errB,c0,c1,c2]] at hR
 go_enter func101,ntmps101
 go_wp2_with (first | (go_at_call 145;refine zai _ _ _ ?_) | (go_at_call 146;refine zaq _ _ _ _ _ ?_))
 exact (Grow.refl _).alloc _
theorem zkw (d a b:Int) (w:World) (R:Ending→World→Prop) (hR:∀ w',Grow w w'→R (.returned (.int .i64 (errB (vL 7 d a b)))) w') :
  Calls Tryz.prog 101 #[.agg #[.int .i64 7,.int .i64 d,.int .i64 a,.int .i64 b]] w R:=by
 by_cases c0:inB d 1 8=true;rotate_left
 ·rw [show errB (vL 7 d a b)=1 by simp [vL,errB,c0]] at hR
  replace c0:inB d 1 8=false:=by simpa using c0
  go_enter func101,ntmps101
  go_wp2_with (first | (go_at_call 145;refine zai _ _ _ ?_) | (go_at_call 146;refine zaq _ _ _ _ _ ?_))
  exact (Grow.refl _).alloc _
 by_cases c1:inB a 0 3=true;rotate_left
 ·rw [show errB (vL 7 d a b)=1 by simp [vL,errB,c1]] at hR
  replace c1:inB a 0 3=false:=by simpa using c1
  go_enter func101,ntmps101
  go_wp2_with (first | (go_at_call 145;refine zai _ _ _ ?_) | (go_at_call 146;refine zaq _ _ _ _ _ ?_))
  exact (Grow.refl _).alloc _
 by_cases c2:inB b 0 3=true;rotate_left
 ·rw [show errB (vL 7 d a b)=1 by simp [vL,errB,c2]] at hR
  replace c2:inB b 0 3=false:=by simpa using c2
  go_enter func101,ntmps101
  go_wp2_with (first | (go_at_call 145;refine zai _ _ _ ?_) | (go_at_call 146;refine zaq _ _ _ _ _ ?_))
  exact (Grow.refl _).alloc _
 rw [show errB (vL 7 d a b)=0 by simp [vL,errB,c0,c1,c2]] at hR
 go_enter func101,ntmps101
 go_wp2_with (first | (go_at_call 145;refine zai _ _ _ ?_) | (go_at_call 146;refine zaq _ _ _ _ _ ?_))
 exact (Grow.refl _).alloc _
theorem zbe (op d a b:Int) (w:World) (R:Ending→World→Prop) (hR:∀ w',Grow w w'→R (.returned (.int .i64 (errB (vL op d a b)))) w') :
  Calls Tryz.prog 101 #[.agg #[.int .i64 op,.int .i64 d,.int .i64 a,.int .i64 b]] w R:=by
 by_cases h0:op=0
 ·subst h0;exact zld d a b w R hR
 by_cases h1:op=1
 ·subst h1;exact zku d a b w R hR
 by_cases h2:op=2
 ·subst h2;exact zlj d a b w R hR
 by_cases h3:op=3
 ·subst h3;exact zle d a b w R hR
 by_cases h4:op=4
 ·subst h4;exact zll d a b w R hR
 by_cases h5:op=5
 ·subst h5;exact zla d a b w R hR
 by_cases h6:op=6
 ·subst h6;exact zky d a b w R hR
 by_cases h7:op=7
 ·subst h7;exact zkw d a b w R hR
 rw [show errB (vL op d a b)=1 by simp [vL,errB,h0,h1,h2,h3,h4,h5,h6,h7]] at hR
 go_enter func101,ntmps101
 go_wp2_with fail;exact (Grow.refl _).alloc _
set_option maxHeartbeats 1000000
theorem zhc {α:Type} {p:List α} {f:α→Bool} {k:Nat} {x:α} (h:∀ l∈p.take k,f l=true) (hx:p[k]?=some x) (hf:f x=true):∀ l∈p.take (k+1),f l=true:=by
 intro l hl;rw [List.take_add_one,hx] at hl;rcases List.mem_append.1 hl with hl | hl
 ·exact h l hl
 ·simp at hl;subst hl;exact hf
theorem zip {α:Type} {p:List α} {f:α→Bool} {k:Nat} {x:α} (hx:p[k]?=some x) (hf:f x=false):p.all f=false:=by
 rw [← Bool.not_eq_true];intro h;have:=List.all_eq_true.1 h x (List.mem_of_getElem? hx);rw [this] at hf;cases hf
theorem zkc {α:Type} {p:List α} {f:α→Bool} {k:Nat} (h:∀ l∈p.take k,f l=true) (hk:p.length≤k):p.all f=true:=by
 rw [List.take_of_length_le hk] at h;exact List.all_eq_true.2 h
theorem zbm (p:List Ln) (v:Value) (w:World) (hp:LinesAt w v p) (R:Ending→World→Prop) (hR:∀ w',Grow w w'→R (.returned (.int .i64 (valP p))) w') :
  Calls Tryz.prog 64 #[v] w R:=by
 obtain ⟨a,c,rfl,h1,h2,h3⟩:=hp;by_cases hl:8<p.length
 ·rw [show valP p=3 by simp [valP,hl]] at hR
  go_enter func64,ntmps64
  go_wp2_with fail;exact Grow.refl _
 ·have hV:valP p=errB (p.all Ln.ok):=by simp [valP,hl]
  rw [hV] at hR;clear hV;have hm:p.length≤9223372036854775807:=by omega
  go_enter func64,ntmps64
  go_wp2_with fail
  go_loopw [2,4,5,11] (fun _ _ _ i wr=>∃ k:Nat,k≤p.length∧i=.int .i64 k∧Grow w wr∧∀ l∈p.take k,Ln.ok l=true) (fun _ _ _ i _=>p.length - (intOf i).toNat)
  case atStart=>exact ⟨0,Nat.zero_le _,rfl,Grow.refl _,by simp⟩
  case round=>
   obtain ⟨k,hk,rfl,hg,hall⟩:=hrel;by_cases hlt:k<p.length
   ·replace h3:=h3.resolve_left (by intro h;simp [h] at hlt)
    obtain ⟨b,o,rfl,hb,hc⟩:=h3;obtain ⟨⟨op,d,x,y⟩,hx⟩:∃ l,p[k]?=some l:=⟨_,List.getElem?_eq_getElem hlt⟩;obtain ⟨c0,c1,c2,c3⟩:=zbf hc k op d x y hx;have e0:=hg.cell c0;have e1:=hg.cell c1;have e2:=hg.cell c2;have e3:=hg.cell c3;have hz:=hg.sz;clear hc c0 c1 c2 c3;have HX:=jH hx;clear hx;by_cases hv:vL op d x y=true
    ·have he:errB (vL op d x y)=0:=by rw [hv];rfl
     have HE:=jH he;clear he;go_wp2_with fail;refine zbe _ _ _ _ _ _ ?_;intro w1 hg1;rw [HE.out];have hg2:=(hg.alloc _).trans hg1;clear hg hg1;go_wp2_with fail;go_roundw
     case rel=>exact ⟨k+1,by omega,by go_num,hg2,zhc hall HX.out hv⟩
     case measure=>simp [intOf];omega
    ·replace hv:vL op d x y=false:=by simpa using hv
     have he:errB (vL op d x y)=1:=by rw [hv];rfl
     have HE:=jH he;clear he;rw [zip HX.out hv] at hR;rw [show errB false=1 from rfl] at hR;go_wp2_with fail;refine zbe _ _ _ _ _ _ ?_;intro w1 hg1;rw [HE.out];have hg2:=(hg.alloc _).trans hg1;clear hg hg1;go_wp2_with fail;exact hg2
   ·rw [zkc hall (by omega)] at hR
    rw [show errB true=0 from rfl] at hR;go_wp2_with fail;exact hg
def PredI (g:Nat) (cb:Array Value) (w:World) (pr:Int→Bool):Prop:=
 ∀ x W,Grow w W→∀ R:Ending→World→Prop,(∀ W',Grow W W'→R (.returned (.bool (pr x))) W')→Calls Tryz.prog g (#[.int .i64 x]++cb) W R
def idxI (pr:Int→Bool) (xs:List Int):Int:=if xs.any pr then (xs.findIdx pr:Int) else -1
theorem ztp {pr:Int→Bool} {xs:List Int} {k:Nat} {x:Int} (h:∀ y∈xs.take k,pr y=false) (hx:xs[k]?=some x) (hp:pr x=true):idxI pr xs=k:=by
 have ha:xs.any pr=true:=List.any_eq_true.2 ⟨x,List.mem_of_getElem? hx,hp⟩;have hlt:k<xs.length:=(List.getElem?_eq_some_iff.1 hx).1;have hxe:xs[k]=x:=by rw [List.getElem?_eq_getElem hlt] at hx;exact Option.some.inj hx
 unfold idxI;rw [if_pos ha];have:xs.findIdx pr=k:=by
  rw [List.findIdx_eq hlt];refine ⟨by rw [hxe];exact hp,fun j hj=>?_⟩
  have:=h xs[j] (by rw [List.mem_take_iff_getElem];exact ⟨j,by omega,rfl⟩)
  simpa using this
 rw [this]
theorem zyn {pr:Int→Bool} {xs:List Int} {k:Nat} (h:∀ y∈xs.take k,pr y=false) (hk:xs.length≤k):idxI pr xs=-1:=by
 rw [List.take_of_length_le hk] at h;unfold idxI;rw [if_neg];intro ha;obtain ⟨y,hy,hp⟩:=List.any_eq_true.1 ha;rw [h y hy] at hp;cases hp
theorem zkb {pr:Int→Bool} {xs:List Int} {k:Nat} {x:Int} (h:∀ y∈xs.take k,pr y=false) (hx:xs[k]?=some x) (hp:pr x=false):∀ y∈xs.take (k+1),pr y=false:=by
 intro l hl;rw [List.take_add_one,hx] at hl;rcases List.mem_append.1 hl with hl | hl
 ·exact h l hl
 ·simp at hl;subst hl;exact hp
theorem idxI_ge (pr:Int→Bool) (xs:List Int):decide (0≤idxI pr xs)=xs.any pr:=by
 unfold idxI;cases xs.any pr<;>simp
theorem zkx (g:Nat) (cb:Array Value) (eg:Enters Tryz.prog g) (pr:Int→Bool) (xs:List Int) (v:Value) (w:World) (hx:IntsAt w v xs) (hp:PredI g cb w pr)
  (R:Ending→World→Prop) (hR:∀ w',Grow w w'→R (.returned (.int .i64 (idxI pr xs))) w') :
  Calls Tryz.prog 143 #[v,.func (.func g) #[] cb] w R:=by
 obtain ⟨a,c,rfl,h1,h2,h3⟩:=hx;have hm:xs.length≤9223372036854775807:=by omega
 unfold Enters at eg
 go_enter func143,ntmps143
 go_wp2_with fail
 go_loopw [4,5,8] (fun _ _ i wr=>∃ k:Nat,k≤xs.length∧i=.int .i64 k∧Grow w wr∧∀ y∈xs.take k,pr y=false) (fun _ _ i _=>xs.length - (intOf i).toNat)
 case atStart=>exact ⟨0,Nat.zero_le _,rfl,Grow.refl _,by simp⟩
 case round=>
  obtain ⟨k,hk,rfl,hg,hall⟩:=hrel;by_cases hlt:k<xs.length
  ·replace h3:=h3.resolve_left (by intro h;simp [h] at hlt)
   obtain ⟨b,o,rfl,hb,hc⟩:=h3;obtain ⟨x,hx⟩:∃ x,xs[k]?=some x:=⟨_,List.getElem?_eq_getElem hlt⟩;have e0:=hg.cell (zbb hc k x hx);have hz:=hg.sz;clear hc;have HX:=jH hx;have HP:=jH hp;clear hx hp;by_cases hv:pr x=true
   ·rw [ztp hall HX.out hv] at hR;go_wp2_with fail;refine HP.out x _ hg _ ?_;intro w1 hg1;rw [hv];have hg2:=hg.trans hg1;clear hg hg1;go_wp2_with fail;exact hg2
   ·replace hv:pr x=false:=by simpa using hv
    go_wp2_with fail;refine HP.out x _ hg _ ?_;intro w1 hg1;rw [hv];have hg2:=hg.trans hg1;clear hg hg1;go_wp2_with fail;go_roundw
    case rel=>exact ⟨k+1,by omega,by go_num,hg2,zkb hall HX.out hv⟩
    case measure=>simp [intOf];omega
  ·rw [zyn hall (by omega)] at hR
   go_wp2_with fail;exact hg
theorem zeu (g:Nat) (cb:Array Value) (eg:Enters Tryz.prog g) (pr:Int→Bool) (xs:List Int) (v:Value) (w:World) (hx:IntsAt w v xs) (hp:PredI g cb w pr)
  (R:Ending→World→Prop) (hR:∀ w',Grow w w'→R (.returned (.bool (xs.any pr))) w') :
  Calls Tryz.prog 92 #[v,.func (.func g) #[] cb] w R:=by
 rw [← idxI_ge] at hR;generalize hi:idxI pr xs=i at hR;have HI:=jH hi;clear hi
 go_enter func92,ntmps92
 go_wp2_with fail;refine zkx g cb eg pr xs v _ hx hp _ ?_;intro w1 hg1;rw [HI.out];go_wp2_with fail;exact hg1
theorem zhn (x:Int) (w:World) (R:Ending→World→Prop) (hR:R (.returned (.bool (!inB x (-999) 999))) w) :
  Calls Tryz.prog 274 #[.int .i64 x] w R:=by
 go_enter func274,ntmps274
 go_wp2_with (go_at_call 146;refine (zaq _ _ _ _ _ ?_));simpa using hR
theorem zzf (xs:List Int):(xs.any fun x=>!inB x (-999) 999)=!(xs.all fun n=>inB n (-999) 999):=by
 rw [List.not_all_eq_any_not]
theorem zex (s:List Int) (v:Value) (w:World) (hs:IntsAt w v s) (R:Ending→World→Prop) (hR:∀ w',Grow w w'→R (.returned (.int .i64 (valS s))) w') :
  Calls Tryz.prog 253 #[v] w R:=by
 have hs':=hs;obtain ⟨a,c,rfl,h1,h2,h3⟩:=hs';clear h3;by_cases hl:s.length=4
 ·have hV:valS s=errB (s.all fun n=>inB n (-999) 999):=by simp [valS,hl]
  rw [hV] at hR;clear hV;have hb:((s.length:Int) == 4)=true:=by simp [hl]
  have hb2:((s.length:Int) != 4)=false:=by simp [hl]
  have HL:=jH hl;clear hl;have hp:PredI 274 #[] w (fun x=>!inB x (-999) 999):=fun x W _ R hR=>zhn x W R (hR W (Grow.refl _));have HS:=jH hs;have HP:=jH hp;clear hs hp
  go_enter func253,ntmps253
  cases hq:s.all fun n=>inB n (-999) 999
  ·rw [hq] at hR;rw [show errB false=1 from rfl] at hR;have HQ:=jH hq;clear hq;go_wp2_with fail;refine zeu _ _ (enters_of func274 (by kernel_rfl) rfl) _ s _ _ HS.out HP.out _ ?_
   intro w1 hg1;rw [zzf,HQ.out];go_wp2_with fail;exact hg1
  ·rw [hq] at hR;rw [show errB true=0 from rfl] at hR;have HQ:=jH hq;clear hq;go_wp2_with fail;refine zeu _ _ (enters_of func274 (by kernel_rfl) rfl) _ s _ _ HS.out HP.out _ ?_
   intro w1 hg1;rw [zzf,HQ.out];go_wp2_with fail;exact hg1
 ·have hV:valS s=1:=by simp [valS,hl]
  rw [hV] at hR;clear hV;have hb:((s.length:Int) == 4)=false:=by simp;omega
  have hb2:((s.length:Int) != 4)=true:=by simp;omega
  go_enter func253,ntmps253
  go_wp2_with fail;exact Grow.refl _
set_option maxHeartbeats 4000000
set_option maxRecDepth 100000
theorem zkt (n lo hi:Int) (w:World) (R:Ending→World→Prop) (hR:R (.returned (.bool (inB n lo hi))) w) :
  Calls Tryz.prog 254 #[.int .i64 n,.int .i64 lo,.int .i64 hi] w R:=by
 by_cases h:lo≤n
 ·by_cases h2:n≤hi
  ·rw [zbd.2 ⟨h,h2⟩] at hR
   go_enter func254,ntmps254
   go_wp2
   simpa using hR
  ·rw [zbq.2 (by omega)] at hR
   go_enter func254,ntmps254
   go_wp2
   simpa using hR
 ·rw [zbq.2 (by omega)] at hR
  go_enter func254,ntmps254
  go_wp2
  simpa using hR
theorem box3 {w:World} {b:Nat} {c0 c1 c2:Value} {e:TypeId} (h:w.heap[b]?=some (.cells #[c0,c1,c2] e (0,0))):w.cell? ⟨b,0,none⟩=some c0∧w.cell? ⟨b,1,none⟩=some c1∧w.cell? ⟨b,2,none⟩=some c2:=by
 refine ⟨?_,?_,?_⟩<;>(unfold World.cell?;simp only [h];rfl)
theorem zfr (n:Int) (w:World) (R:Ending→World→Prop) (hR:R (.returned (.bool (inB n 0 3))) w) :
  Calls Tryz.prog 227 #[.int .i64 n] w R:=by
 go_enter func227,ntmps227
 go_wp2_with (go_at_call 254;refine (zkt _ _ _ _ _ ?_));simpa using hR
theorem zpa (n:Int) (w:World) (R:Ending→World→Prop) (hR:R (.returned (.bool (inB n (-999) 999))) w) :
  Calls Tryz.prog 228 #[.int .i64 n] w R:=by
 go_enter func228,ntmps228
 go_wp2_with (go_at_call 254;refine (zkt _ _ _ _ _ ?_));simpa using hR
theorem zgu (s:List Int) (v:Value) (w:World) (hs:IntsAt w v s) (R:Ending→World→Prop) (hR:∀ w',Grow w w'→R (.returned (.bool (decide (valS s=0)))) w') :
  Calls Tryz.prog 226 #[v] w R:=by
 have HS:=jH hs;have HR:=jH hR;obtain ⟨e,he⟩:∃ e,valS s=e:=⟨_,rfl⟩;rw [he] at HR;have HE:=jH he;obtain ⟨a,c,rfl,_⟩:=hs;clear hR he;have t1:(e == 0)=decide (e=0):=by by_cases h:e=0<;>simp [h]
 generalize decide (e=0)=b at HR t1
 go_enter func226,ntmps226
 go_wp2_with fail;refine zex s _ _ HS.out _ ?_;intro w1 hg1;rw [HE.out];have HF:=jH (HR.out w1 hg1);clear hg1;go_wp2_with fail;exact HF.out
theorem zud (t:Tst) (w:World) (ht:IntsAt w t.v t.xs) (R:Ending→World→Prop) (hR:∀ w',Grow w w'→R (.returned (.bool t.ok)) w') :
  Calls Tryz.prog 191 #[.agg #[t.v,.int .i64 t.o,.int .i64 t.wt]] w R:=by
 obtain ⟨v,xs,o,wt⟩:=t;have HT:=jH ht;dsimp only at ht ⊢;have hok:Tst.ok ⟨v,xs,o,wt⟩=(decide (valS xs=0) && inB o 0 3 && inB wt (-999) 999):=rfl;rw [hok] at hR;have HR:=jH hR;clear hR hok;obtain ⟨a,c,rfl,_⟩:=ht;obtain ⟨b0,h0⟩:∃ b,decide (valS xs=0)=b:=⟨_,rfl⟩;obtain ⟨b1,h1⟩:∃ b,inB o 0 3=b:=⟨_,rfl⟩;obtain ⟨b2,h2⟩:∃ b,inB wt (-999) 999=b:=⟨_,rfl⟩;rw [h0,h1,h2] at HR;have H0:=jH h0;have H1:=jH h1;have H2:=jH h2;clear h0 h1 h2;cases b0 with
 | false=>
  go_enter func191,ntmps191
  go_wp2_with fail;have hb:=heap_alloc_new w (.cells #[.slice a xs.length c,.int .i64 o,.int .i64 wt] 63);have hg:=(Grow.refl w).alloc (.cells #[.slice a xs.length c,.int .i64 o,.int .i64 wt] 63);generalize w.alloc (.cells #[.slice a xs.length c,.int .i64 o,.int .i64 wt] 63)=W at hb hg ⊢;refine zgu xs _ _ (HT.out.grow hg) _ ?_;intro w1 hg1;rw [H0.out];have hb1:=hg1.blk hb;obtain ⟨c0,c1,c2⟩:=box3 hb1;have hz:=lt_of_block hb1;have HF:=jH (HR.out w1 (hg.trans hg1));clear hb hg hg1 hb1;go_wp2_with fail;exact HF.out
 | true=>
  cases b1 with
  | false=>
   go_enter func191,ntmps191
   go_wp2_with fail;have hb:=heap_alloc_new w (.cells #[.slice a xs.length c,.int .i64 o,.int .i64 wt] 63);have hg:=(Grow.refl w).alloc (.cells #[.slice a xs.length c,.int .i64 o,.int .i64 wt] 63);generalize w.alloc (.cells #[.slice a xs.length c,.int .i64 o,.int .i64 wt] 63)=W at hb hg ⊢;refine zgu xs _ _ (HT.out.grow hg) _ ?_;intro w1 hg1;rw [H0.out];have hb1:=hg1.blk hb;obtain ⟨c0,c1,c2⟩:=box3 hb1;have hz:=lt_of_block hb1;have HF:=jH (HR.out w1 (hg.trans hg1));clear hb hg hg1 hb1;go_wp2_with fail;refine zfr _ _ _ ?_;rw [H1.out];go_wp2_with fail;exact HF.out
  | true=>
   go_enter func191,ntmps191
   go_wp2_with fail;have hb:=heap_alloc_new w (.cells #[.slice a xs.length c,.int .i64 o,.int .i64 wt] 63);have hg:=(Grow.refl w).alloc (.cells #[.slice a xs.length c,.int .i64 o,.int .i64 wt] 63);generalize w.alloc (.cells #[.slice a xs.length c,.int .i64 o,.int .i64 wt] 63)=W at hb hg ⊢;refine zgu xs _ _ (HT.out.grow hg) _ ?_;intro w1 hg1;rw [H0.out];have hb1:=hg1.blk hb;obtain ⟨c0,c1,c2⟩:=box3 hb1;have hz:=lt_of_block hb1;have HF:=jH (HR.out w1 (hg.trans hg1));clear hb hg hg1 hb1;go_wp2_with fail;refine zfr _ _ _ ?_;rw [H1.out];go_wp2_with fail;refine zpa _ _ _ ?_;rw [H2.out];go_wp2_with fail;exact HF.out
def PredT (g:Nat) (cb:Array Value) (w:World) (ts:List Tst) (pr:Tst→Bool):Prop:=
 ∀ t,t∈ts→∀ W,Grow w W→∀ R:Ending→World→Prop,(∀ W',Grow W W'→R (.returned (.bool (pr t))) W')→Calls Tryz.prog g (#[.agg #[t.v,.int .i64 t.o,.int .i64 t.wt]]++cb) W R
theorem any_at {α:Type} {pr:α→Bool} {xs:List α} {k:Nat} {x:α} (hx:xs[k]?=some x) (hp:pr x=true):xs.any pr=true:=List.any_eq_true.2 ⟨x,List.mem_of_getElem? hx,hp⟩
theorem zsr {α:Type} {pr:α→Bool} {xs:List α} {k:Nat} (h:∀ y∈xs.take k,pr y=false) (hk:xs.length≤k):xs.any pr=false:=by
 rw [List.take_of_length_le hk] at h;exact List.any_eq_false.2 fun x hx=>by rw [h x hx];decide
theorem take_succ_false' {α:Type} {pr:α→Bool} {xs:List α} {k:Nat} {x:α} (h:∀ y∈xs.take k,pr y=false) (hx:xs[k]?=some x) (hp:pr x=false):∀ y∈xs.take (k+1),pr y=false:=by
 intro y hy;rw [List.take_add_one,hx] at hy;rcases List.mem_append.1 hy with hy | hy
 ·exact h y hy
 ·simp at hy;subst hy;exact hp
theorem zlf (g:Nat) (cb:Array Value) (eg:Enters Tryz.prog g) (pr:Tst→Bool) (ts:List Tst) (v:Value) (w:World) (hx:SlcAt 3 encTs w v ts) (hp:PredT g cb w ts pr)
  (R:Ending→World→Prop) (hR1:∀ w' (k:Nat),Grow w w'→ts.any pr=true→R (.returned (.int .i64 k)) w') (hR2:∀ w',Grow w w'→ts.any pr=false→R (.returned (.int .i64 (-1))) w') :
  Calls Tryz.prog 225 #[v,.func (.func g) #[] cb] w R:=by
 have HX:=jH hx;obtain ⟨a,c,rfl,h1,h2,_⟩:=hx;have hm:ts.length≤9223372036854775807:=by omega
 have HR1:=jH hR1;have HR2:=jH hR2;have HP:=jH hp;unfold Enters at eg;clear hR1 hR2 hp
 go_enter func225,ntmps225
 go_wp2_with fail
 go_loopw [4,5,8] (fun _ _ i wr=>∃ k:Nat,k≤ts.length∧i=.int .i64 k∧Grow w wr∧∀ y∈ts.take k,pr y=false) (fun _ _ i _=>ts.length - (intOf i).toNat)
 case atStart=>exact ⟨0,Nat.zero_le _,rfl,Grow.refl _,by simp⟩
 case round=>
  obtain ⟨k,hk,rfl,hg,hall⟩:=hrel;have HALL:=jH hall;have HG:=jH hg;clear hall hg;by_cases hlt:k<ts.length
  ·obtain ⟨t,ht⟩:∃ x,ts[k]?=some x:=⟨_,List.getElem?_eq_getElem hlt⟩;obtain ⟨b,o,rfl,hb,e0,e1,e2⟩:=zez (HX.out.grow HG.out) ht;have HT:=jH ht;have HMEM:=jH (List.mem_of_getElem? ht);clear ht;by_cases hv:pr t=true
   ·have HA:=jH (any_at HT.out hv);have HV:=jH hv;clear hv;go_wp2_with fail;refine HP.out t HMEM.out _ HG.out _ ?_;intro w1 hg1;rw [HV.out];have HF:=jH (HR1.out w1 k (HG.out.trans hg1) HA.out);clear hg1;go_wp2_with fail;exact HF.out
   ·replace hv:pr t=false:=by simpa using hv
    have HV:=jH hv;clear hv;go_wp2_with fail;refine HP.out t HMEM.out _ HG.out _ ?_;intro w1 hg1;rw [HV.out];have HG2:=jH (HG.out.trans hg1);clear hg1;go_wp2_with fail;go_roundw
    case rel=>exact ⟨k+1,by omega,by go_num,HG2.out,take_succ_false' HALL.out HT.out HV.out⟩
    case measure=>simp [intOf];omega
  ·have HF:=jH (HR2.out _ HG.out (zsr HALL.out (by omega)))
   go_wp2_with fail;exact HF.out
theorem zib (g:Nat) (cb:Array Value) (eg:Enters Tryz.prog g) (pr:Tst→Bool) (ts:List Tst) (v:Value) (w:World) (hx:SlcAt 3 encTs w v ts) (hp:PredT g cb w ts pr)
  (R:Ending→World→Prop) (hR:∀ w',Grow w w'→R (.returned (.bool (ts.any pr))) w') :
  Calls Tryz.prog 189 #[v,.func (.func g) #[] cb] w R:=by
 have HR:=jH hR;clear hR
 go_enter func189,ntmps189
 go_wp2_with fail;refine zlf g cb eg pr ts v _ hx hp _ ?_ ?_
 ·intro w1 k hg1 h;have HF:=jH (HR.out w1 hg1);rw [h] at HF;have hk:(k:Int)≥0:=by omega
  clear h hg1;go_wp2_with fail;exact HF.out
 ·intro w1 hg1 h;have HF:=jH (HR.out w1 hg1);rw [h] at HF;clear h hg1;go_wp2_with fail;exact HF.out
theorem zyj (t:Tst) (w:World) (ht:IntsAt w t.v t.xs) (R:Ending→World→Prop) (hR:∀ w',Grow w w'→R (.returned (.bool (!t.ok))) w') :
  Calls Tryz.prog 190 #[.agg #[t.v,.int .i64 t.o,.int .i64 t.wt]] w R:=by
 have HT:=jH ht;have HR:=jH hR;obtain ⟨b,hb⟩:∃ b,t.ok=b:=⟨_,rfl⟩;rw [hb] at HR;have HB:=jH hb;clear hb hR;obtain ⟨a,c,hv,_⟩:=ht;obtain ⟨v,xs,o,wt⟩:=t;dsimp only at hv;subst hv;dsimp only at HT ⊢
 go_enter func190,ntmps190
 go_wp2_with fail;have hg:=(Grow.refl w).alloc (.cells #[.slice a xs.length c,.int .i64 o,.int .i64 wt] 63);generalize w.alloc (.cells #[.slice a xs.length c,.int .i64 o,.int .i64 wt] 63)=W at hg ⊢;refine zud ⟨.slice a xs.length c,xs,o,wt⟩ _ (HT.out.grow hg) _ ?_;intro w1 hg1;rw [HB.out];have HF:=jH (HR.out w1 (hg.trans hg1));clear hg hg1;cases b<;>(go_wp2_with fail;exact HF.out)
theorem zuv (ts:List Tst):(ts.any fun t=>!t.ok)=!(ts.all Tst.ok):=by
 rw [List.not_all_eq_any_not]
theorem zbw (ts:List Tst) (v:Value) (w:World) (hx:TestsAt w v ts) (R:Ending→World→Prop) (hR:∀ w',Grow w w'→R (.returned (.int .i64 (valT ts))) w') :
  Calls Tryz.prog 139 #[v] w R:=by
 have HX:=jH hx;have HR:=jH hR;obtain ⟨⟨a,c,rfl,h1,h2,_⟩,_⟩:=hx;clear hR;by_cases hl:8<ts.length
 ·have hv:valT ts=3:=by unfold valT;rw [if_pos hl]
  rw [hv] at HR;have hl2:(ts.length:Int) > 8:=by omega
  go_enter func139,ntmps139
  go_wp2_with fail;exact HR.out _ (Grow.refl _)
 ·have hv:valT ts=errB (ts.all Tst.ok):=by unfold valT;rw [if_neg hl]
  rw [hv] at HR;clear hv;have hl2:¬ (ts.length:Int) > 8:=by omega
  have hpred:PredT 190 #[] w ts (fun t=>!t.ok):=fun t ht W hg R hR=>zyj t W ((HX.out.ins t ht).grow hg) R hR;have HPR:=jH hpred;have HAN:=jH (zuv ts);clear hpred;generalize ts.all Tst.ok=b at HR HAN;have eg:Enters Tryz.prog 190:=enters_of func190 (by kernel_rfl) rfl
  go_enter func139,ntmps139
  go_wp2_with fail;refine zib 190 #[] eg (fun t=>!t.ok) ts _ _ HX.out.at_ HPR.out _ ?_;intro w1 hg1;rw [HAN.out];have HF:=jH (HR.out w1 hg1);clear hg1;cases b with
  | true=>
   rw [zeb] at HF;go_wp2_with fail;exact HF.out
  | false=>
   rw [zbv] at HF;go_wp2_with fail;exact HF.out
set_option maxHeartbeats 1000000
theorem zok (p:List Ln) (s:List Int) (v u:Value) (w:World) (hp:LinesAt w v p) (hs:IntsAt w u s) (R:Ending→World→Prop) (hR:∀ w',Grow w w'→R (.returned (.int .i64 (chk p s))) w') :
  Calls Tryz.prog 250 #[v,u] w R:=by
 have HP:=jH hp;have HS:=jH hs;clear hp hs;by_cases h:valP p=0
 ·rw [show chk p s=valS s by simp [chk,h]] at hR
  have HE:=jH h;clear h
  go_enter func250,ntmps250
  go_wp2_with fail;refine zbm p _ _ HP.out _ ?_;intro w1 hg1;rw [HE.out];go_wp2_with fail;refine zex s _ _ (HS.out.grow hg1) _ ?_;intro w2 hg2;have hg3:=hg1.trans hg2;clear hg1 hg2;go_wp2_with fail;exact hg3
 ·rw [show chk p s=valP p by simp [chk,h]] at hR
  generalize hev:valP p=e at h hR;have HE:=jH hev;clear hev;have hb:(e == 0)=false:=by simpa using h
  have hb2:(e != 0)=true:=by simpa using h
  go_enter func250,ntmps250
  go_wp2_with fail;refine zbm p _ _ HP.out _ ?_;intro w1 hg1;rw [HE.out];go_wp2_with fail;exact hg1
def wrT (op d:Int):Int:=if wrB op then d else 0
theorem zmj (op d a b:Int) (w:World) (R:Ending→World→Prop) (hR:∀ w',Grow w w'→R (.returned (.tuple #[.int .i64 (wrT op d),.bool (wrB op)])) w') :
  Calls Tryz.prog 273 #[.agg #[.int .i64 op,.int .i64 d,.int .i64 a,.int .i64 b]] w R:=by
 by_cases h:wrB op=true
 ·rw [show wrT op d=d by simp [wrT,h],h] at hR
  unfold wrB at h
  go_enter func273,ntmps273
  go_wp2_with (go_at_call 146;refine zaq _ _ _ _ _ ?_);exact (Grow.refl _).alloc _
 ·replace h:wrB op=false:=by simpa using h
  rw [show wrT op d=0 by simp [wrT,h],h] at hR
  unfold wrB at h
  go_enter func273,ntmps273
  go_wp2_with (go_at_call 146;refine zaq _ _ _ _ _ ?_);exact (Grow.refl _).alloc _
def opsC:List Value:=[.int .i64 0,.nilFunc,.int .i64 0,.func (.func 285) #[] #[],.int .i64 1,.func (.func 286) #[] #[],.int .i64 2,.func (.func 287) #[] #[],
 .int .i64 2,.func (.func 288) #[] #[],.int .i64 2,.func (.func 289) #[] #[],.int .i64 2,.func (.func 290) #[] #[],.int .i64 2,.nilFunc]
theorem zlb (w:World) (R:Ending→World→Prop) (hR:∀ w',Grow w w'→R (.returned (.agg opsC.toArray)) w') :
  Calls Tryz.prog 272 #[] w R:=by
 go_enter func272,ntmps272
 go_wp2_with fail;simp [bodyPost,results,Tryz.results272,go_sem];exact hR _ ((Grow.refl _).alloc _)
theorem op1_any (a b n:Int) (w:World) (R:Ending→World→Prop) (hR:R (.returned (.int .i64 n)) w) :
  Calls Tryz.prog 285 #[.int .i64 a,.int .i64 b,.int .i64 n] w R:=by
 go_enter func285,ntmps285
 go_wp2_with fail;simpa using hR
theorem op2_any (a b n:Int) (w:World) (R:Ending→World→Prop) (hR:R (.returned (.int .i64 a)) w) :
  Calls Tryz.prog 286 #[.int .i64 a,.int .i64 b,.int .i64 n] w R:=by
 go_enter func286,ntmps286
 go_wp2_with fail;simpa using hR
theorem op3_any (a b n:Int) (w:World) (ha : -9999≤a∧a≤9999) (hb : -9999≤b∧b≤9999) (R:Ending→World→Prop) (hR:R (.returned (.int .i64 (a+b))) w) :
  Calls Tryz.prog 287 #[.int .i64 a,.int .i64 b,.int .i64 n] w R:=by
 obtain ⟨_,_⟩:=ha;obtain ⟨_,_⟩:=hb
 go_enter func287,ntmps287
 go_wp2_with fail;simpa using hR
theorem op4_any (a b n:Int) (w:World) (ha : -9999≤a∧a≤9999) (hb : -9999≤b∧b≤9999) (R:Ending→World→Prop) (hR:R (.returned (.int .i64 (a - b))) w) :
  Calls Tryz.prog 288 #[.int .i64 a,.int .i64 b,.int .i64 n] w R:=by
 obtain ⟨_,_⟩:=ha;obtain ⟨_,_⟩:=hb
 go_enter func288,ntmps288
 go_wp2_with fail;simpa using hR
theorem op5_any (a b n : Int) (w : World) (R : Ending → World → Prop) (hR : R (.returned (.int .i64 (min a b))) w) :
    Calls Tryz.prog 289 #[.int .i64 a, .int .i64 b, .int .i64 n] w R := by
  go_enter func289, ntmps289
  first
    | (go_wp2_with fail; exact hR)
    | (go_wp2_with fail
       · rw [show min a b = b by omega] at hR; simpa using hR
       · rw [show min a b = a by omega] at hR; simpa using hR)
theorem op6_any (a b n : Int) (w : World) (R : Ending → World → Prop) (hR : R (.returned (.int .i64 (max a b))) w) :
    Calls Tryz.prog 290 #[.int .i64 a, .int .i64 b, .int .i64 n] w R := by
  go_enter func290, ntmps290
  first
    | (go_wp2_with fail; exact hR)
    | (go_wp2_with fail
       · rw [show max a b = b by omega] at hR; simpa using hR
       · rw [show max a b = a by omega] at hR; simpa using hR)
theorem free_any (i:Int) (w:World) (R:Ending→World→Prop) (hR:R (.returned (.tuple #[.int .i64 0,.bool false])) w) :
  Calls Tryz.prog 252 #[.int .i64 i] w R:=by
 go_enter func252,ntmps252
 go_wp2_with fail;simpa using hR
set_option maxHeartbeats 1000000
theorem zam (n lo hi:Int) (w:World) (R:Ending→World→Prop) (hR:R (.returned (.bool (inB n lo hi))) w) :
  Calls Tryz.prog 148 #[.int .i64 n,.int .i64 lo,.int .i64 hi] w R:=by
 by_cases h:lo≤n
 ·by_cases h2:n≤hi
  ·rw [zbd.2 ⟨h,h2⟩] at hR
   go_enter func148,ntmps148
   go_wp2
   simpa using hR
  ·rw [zbq.2 (by omega)] at hR
   go_enter func148,ntmps148
   go_wp2
   simpa using hR
 ·rw [zbq.2 (by omega)] at hR
  go_enter func148,ntmps148
  go_wp2
  simpa using hR
theorem zaf (n:Int) (w:World) (R:Ending→World→Prop) (hR:R (.returned (.bool (inB n 0 3))) w) :
  Calls Tryz.prog 147 #[.int .i64 n] w R:=by
 go_enter func147,ntmps147
 go_wp2_with (go_at_call 148;refine (zam _ _ _ _ _ ?_));simpa using hR
theorem zxe (d a b:Int) (w:World) (R:Ending→World→Prop) (hR:∀ w',Grow w w'→R (.returned (.bool (vL 0 d a b))) w') :
  Calls Tryz.prog 102 #[.agg #[.int .i64 0,.int .i64 d,.int .i64 a,.int .i64 b]] w R:=by
 by_cases c0:d=0;rotate_left
 ·rw [show vL 0 d a b=false by simp [vL,c0]] at hR
  have _d:(d == 0)=false:=by simpa using c0
  go_enter func102,ntmps102
  go_wp2_with (first | (go_at_call 147;refine zaf _ _ _ ?_) | (go_at_call 148;refine zam _ _ _ _ _ ?_))
  exact (Grow.refl _).alloc _
 subst c0;by_cases c1:a=0;rotate_left
 ·rw [show vL 0 0 a b=false by simp [vL,c1]] at hR
  have _d:(a == 0)=false:=by simpa using c1
  go_enter func102,ntmps102
  go_wp2_with (first | (go_at_call 147;refine zaf _ _ _ ?_) | (go_at_call 148;refine zam _ _ _ _ _ ?_))
  exact (Grow.refl _).alloc _
 subst c1;by_cases c2:b=0;rotate_left
 ·rw [show vL 0 0 0 b=false by simp [vL,c2]] at hR
  have _d:(b == 0)=false:=by simpa using c2
  go_enter func102,ntmps102
  go_wp2_with (first | (go_at_call 147;refine zaf _ _ _ ?_) | (go_at_call 148;refine zam _ _ _ _ _ ?_))
  exact (Grow.refl _).alloc _
 subst c2;rw [show vL 0 0 0 0=true by simp [vL]] at hR
 go_enter func102,ntmps102
 go_wp2_with (first | (go_at_call 147;refine zaf _ _ _ ?_) | (go_at_call 148;refine zam _ _ _ _ _ ?_))
 exact (Grow.refl _).alloc _
theorem zyb (d a b:Int) (w:World) (R:Ending→World→Prop) (hR:∀ w',Grow w w'→R (.returned (.bool (vL 1 d a b))) w') :
  Calls Tryz.prog 102 #[.agg #[.int .i64 1,.int .i64 d,.int .i64 a,.int .i64 b]] w R:=by
 by_cases c0:inB d 0 3=true;rotate_left
 ·rw [show vL 1 d a b=false by simp [vL,c0]] at hR
  replace c0:inB d 0 3=false:=by simpa using c0
  go_enter func102,ntmps102
  go_wp2_with (first | (go_at_call 147;refine zaf _ _ _ ?_) | (go_at_call 148;refine zam _ _ _ _ _ ?_))
  exact (Grow.refl _).alloc _
 by_cases c1:inB a (-9) 9=true;rotate_left
 ·rw [show vL 1 d a b=false by simp [vL,c1]] at hR
  replace c1:inB a (-9) 9=false:=by simpa using c1
  go_enter func102,ntmps102
  go_wp2_with (first | (go_at_call 147;refine zaf _ _ _ ?_) | (go_at_call 148;refine zam _ _ _ _ _ ?_))
  exact (Grow.refl _).alloc _
 by_cases c2:b=0;rotate_left
 ·rw [show vL 1 d a b=false by simp [vL,c2]] at hR
  have _d:(b == 0)=false:=by simpa using c2
  go_enter func102,ntmps102
  go_wp2_with (first | (go_at_call 147;refine zaf _ _ _ ?_) | (go_at_call 148;refine zam _ _ _ _ _ ?_))
  exact (Grow.refl _).alloc _
 subst c2;rw [show vL 1 d a 0=true by simp [vL,c0,c1]] at hR
 go_enter func102,ntmps102
 go_wp2_with (first | (go_at_call 147;refine zaf _ _ _ ?_) | (go_at_call 148;refine zam _ _ _ _ _ ?_))
 exact (Grow.refl _).alloc _
theorem zyo (d a b:Int) (w:World) (R:Ending→World→Prop) (hR:∀ w',Grow w w'→R (.returned (.bool (vL 2 d a b))) w') :
  Calls Tryz.prog 102 #[.agg #[.int .i64 2,.int .i64 d,.int .i64 a,.int .i64 b]] w R:=by
 by_cases c0:inB d 0 3=true;rotate_left
 ·rw [show vL 2 d a b=false by simp [vL,c0]] at hR
  replace c0:inB d 0 3=false:=by simpa using c0
  go_enter func102,ntmps102
  go_wp2_with (first | (go_at_call 147;refine zaf _ _ _ ?_) | (go_at_call 148;refine zam _ _ _ _ _ ?_))
  exact (Grow.refl _).alloc _
 by_cases c1:inB a 0 3=true;rotate_left
 ·rw [show vL 2 d a b=false by simp [vL,c1]] at hR
  replace c1:inB a 0 3=false:=by simpa using c1
  go_enter func102,ntmps102
  go_wp2_with (first | (go_at_call 147;refine zaf _ _ _ ?_) | (go_at_call 148;refine zam _ _ _ _ _ ?_))
  exact (Grow.refl _).alloc _
 by_cases c2:b=0;rotate_left
 ·rw [show vL 2 d a b=false by simp [vL,c2]] at hR
  have _d:(b == 0)=false:=by simpa using c2
  go_enter func102,ntmps102
  go_wp2_with (first | (go_at_call 147;refine zaf _ _ _ ?_) | (go_at_call 148;refine zam _ _ _ _ _ ?_))
  exact (Grow.refl _).alloc _
 subst c2;rw [show vL 2 d a 0=true by simp [vL,c0,c1]] at hR
 go_enter func102,ntmps102
 go_wp2_with (first | (go_at_call 147;refine zaf _ _ _ ?_) | (go_at_call 148;refine zam _ _ _ _ _ ?_))
 exact (Grow.refl _).alloc _
theorem zyf (d a b:Int) (w:World) (R:Ending→World→Prop) (hR:∀ w',Grow w w'→R (.returned (.bool (vL 3 d a b))) w') :
  Calls Tryz.prog 102 #[.agg #[.int .i64 3,.int .i64 d,.int .i64 a,.int .i64 b]] w R:=by
 by_cases c0:inB d 0 3=true;rotate_left
 ·rw [show vL 3 d a b=false by simp [vL,c0]] at hR
  replace c0:inB d 0 3=false:=by simpa using c0
  go_enter func102,ntmps102
  go_wp2_with (first | (go_at_call 147;refine zaf _ _ _ ?_) | (go_at_call 148;refine zam _ _ _ _ _ ?_))
  exact (Grow.refl _).alloc _
 by_cases c1:inB a 0 3=true;rotate_left
 ·rw [show vL 3 d a b=false by simp [vL,c1]] at hR
  replace c1:inB a 0 3=false:=by simpa using c1
  go_enter func102,ntmps102
  go_wp2_with (first | (go_at_call 147;refine zaf _ _ _ ?_) | (go_at_call 148;refine zam _ _ _ _ _ ?_))
  exact (Grow.refl _).alloc _
 by_cases c2:inB b 0 3=true;rotate_left
 ·rw [show vL 3 d a b=false by simp [vL,c2]] at hR
  replace c2:inB b 0 3=false:=by simpa using c2
  go_enter func102,ntmps102
  go_wp2_with (first | (go_at_call 147;refine zaf _ _ _ ?_) | (go_at_call 148;refine zam _ _ _ _ _ ?_))
  exact (Grow.refl _).alloc _
 rw [show vL 3 d a b=true by simp [vL,c0,c1,c2]] at hR
 go_enter func102,ntmps102
 go_wp2_with (first | (go_at_call 147;refine zaf _ _ _ ?_) | (go_at_call 148;refine zam _ _ _ _ _ ?_))
 exact (Grow.refl _).alloc _
theorem zyp (d a b:Int) (w:World) (R:Ending→World→Prop) (hR:∀ w',Grow w w'→R (.returned (.bool (vL 4 d a b))) w') :
  Calls Tryz.prog 102 #[.agg #[.int .i64 4,.int .i64 d,.int .i64 a,.int .i64 b]] w R:=by
 by_cases c0:inB d 0 3=true;rotate_left
 ·rw [show vL 4 d a b=false by simp [vL,c0]] at hR
  replace c0:inB d 0 3=false:=by simpa using c0
  go_enter func102,ntmps102
  go_wp2_with (first | (go_at_call 147;refine zaf _ _ _ ?_) | (go_at_call 148;refine zam _ _ _ _ _ ?_))
  exact (Grow.refl _).alloc _
 by_cases c1:inB a 0 3=true;rotate_left
 ·rw [show vL 4 d a b=false by simp [vL,c1]] at hR
  replace c1:inB a 0 3=false:=by simpa using c1
  go_enter func102,ntmps102
  go_wp2_with (first | (go_at_call 147;refine zaf _ _ _ ?_) | (go_at_call 148;refine zam _ _ _ _ _ ?_))
  exact (Grow.refl _).alloc _
 by_cases c2:inB b 0 3=true;rotate_left
 ·rw [show vL 4 d a b=false by simp [vL,c2]] at hR
  replace c2:inB b 0 3=false:=by simpa using c2
  go_enter func102,ntmps102
  go_wp2_with (first | (go_at_call 147;refine zaf _ _ _ ?_) | (go_at_call 148;refine zam _ _ _ _ _ ?_))
  exact (Grow.refl _).alloc _
 rw [show vL 4 d a b=true by simp [vL,c0,c1,c2]] at hR
 go_enter func102,ntmps102
 go_wp2_with (first | (go_at_call 147;refine zaf _ _ _ ?_) | (go_at_call 148;refine zam _ _ _ _ _ ?_))
 exact (Grow.refl _).alloc _
theorem zwf (d a b:Int) (w:World) (R:Ending→World→Prop) (hR:∀ w',Grow w w'→R (.returned (.bool (vL 5 d a b))) w') :
  Calls Tryz.prog 102 #[.agg #[.int .i64 5,.int .i64 d,.int .i64 a,.int .i64 b]] w R:=by
 by_cases c0:inB d 0 3=true;rotate_left
 ·rw [show vL 5 d a b=false by simp [vL,c0]] at hR
  replace c0:inB d 0 3=false:=by simpa using c0
  go_enter func102,ntmps102
  go_wp2_with (first | (go_at_call 147;refine zaf _ _ _ ?_) | (go_at_call 148;refine zam _ _ _ _ _ ?_))
  exact (Grow.refl _).alloc _
 by_cases c1:inB a 0 3=true;rotate_left
 ·rw [show vL 5 d a b=false by simp [vL,c1]] at hR
  replace c1:inB a 0 3=false:=by simpa using c1
  go_enter func102,ntmps102
  go_wp2_with (first | (go_at_call 147;refine zaf _ _ _ ?_) | (go_at_call 148;refine zam _ _ _ _ _ ?_))
  exact (Grow.refl _).alloc _
 by_cases c2:inB b 0 3=true;rotate_left
 ·rw [show vL 5 d a b=false by simp [vL,c2]] at hR
  replace c2:inB b 0 3=false:=by simpa using c2
  go_enter func102,ntmps102
  go_wp2_with (first | (go_at_call 147;refine zaf _ _ _ ?_) | (go_at_call 148;refine zam _ _ _ _ _ ?_))
  exact (Grow.refl _).alloc _
 rw [show vL 5 d a b=true by simp [vL,c0,c1,c2]] at hR
 go_enter func102,ntmps102
 go_wp2_with (first | (go_at_call 147;refine zaf _ _ _ ?_) | (go_at_call 148;refine zam _ _ _ _ _ ?_))
 exact (Grow.refl _).alloc _
theorem zxo (d a b:Int) (w:World) (R:Ending→World→Prop) (hR:∀ w',Grow w w'→R (.returned (.bool (vL 6 d a b))) w') :
  Calls Tryz.prog 102 #[.agg #[.int .i64 6,.int .i64 d,.int .i64 a,.int .i64 b]] w R:=by
 by_cases c0:inB d 0 3=true;rotate_left
 ·rw [show vL 6 d a b=false by simp [vL,c0]] at hR
  replace c0:inB d 0 3=false:=by simpa using c0
  go_enter func102,ntmps102
  go_wp2_with (first | (go_at_call 147;refine zaf _ _ _ ?_) | (go_at_call 148;refine zam _ _ _ _ _ ?_))
  exact (Grow.refl _).alloc _
 by_cases c1:inB a 0 3=true;rotate_left
 ·rw [show vL 6 d a b=false by simp [vL,c1]] at hR
  replace c1:inB a 0 3=false:=by simpa using c1
  go_enter func102,ntmps102
  go_wp2_with (first | (go_at_call 147;refine zaf _ _ _ ?_) | (go_at_call 148;refine zam _ _ _ _ _ ?_))
  exact (Grow.refl _).alloc _
 by_cases c2:inB b 0 3=true;rotate_left
 ·rw [show vL 6 d a b=false by simp [vL,c2]] at hR
  replace c2:inB b 0 3=false:=by simpa using c2
  go_enter func102,ntmps102
  go_wp2_with (first | (go_at_call 147;refine zaf _ _ _ ?_) | (go_at_call 148;refine zam _ _ _ _ _ ?_))
  exact (Grow.refl _).alloc _
 rw [show vL 6 d a b=true by simp [vL,c0,c1,c2]] at hR
 go_enter func102,ntmps102
 go_wp2_with (first | (go_at_call 147;refine zaf _ _ _ ?_) | (go_at_call 148;refine zam _ _ _ _ _ ?_))
 exact (Grow.refl _).alloc _
theorem risLine_7 (d a b:Int) (w:World) (R:Ending→World→Prop) (hR:∀ w',Grow w w'→R (.returned (.bool (vL 7 d a b))) w') :
  Calls Tryz.prog 102 #[.agg #[.int .i64 7,.int .i64 d,.int .i64 a,.int .i64 b]] w R:=by
 by_cases c0:inB d 1 8=true;rotate_left
 ·rw [show vL 7 d a b=false by simp [vL,c0]] at hR
  replace c0:inB d 1 8=false:=by simpa using c0
  go_enter func102,ntmps102
  go_wp2_with (first | (go_at_call 147;refine zaf _ _ _ ?_) | (go_at_call 148;refine zam _ _ _ _ _ ?_))
  exact (Grow.refl _).alloc _
 by_cases c1:inB a 0 3=true;rotate_left
 ·rw [show vL 7 d a b=false by simp [vL,c1]] at hR
  replace c1:inB a 0 3=false:=by simpa using c1
  go_enter func102,ntmps102
  go_wp2_with (first | (go_at_call 147;refine zaf _ _ _ ?_) | (go_at_call 148;refine zam _ _ _ _ _ ?_))
  exact (Grow.refl _).alloc _
 by_cases c2:inB b 0 3=true;rotate_left
 ·rw [show vL 7 d a b=false by simp [vL,c2]] at hR
  replace c2:inB b 0 3=false:=by simpa using c2
  go_enter func102,ntmps102
  go_wp2_with (first | (go_at_call 147;refine zaf _ _ _ ?_) | (go_at_call 148;refine zam _ _ _ _ _ ?_))
  exact (Grow.refl _).alloc _
 rw [show vL 7 d a b=true by simp [vL,c0,c1,c2]] at hR
 go_enter func102,ntmps102
 go_wp2_with (first | (go_at_call 147;refine zaf _ _ _ ?_) | (go_at_call 148;refine zam _ _ _ _ _ ?_))
 exact (Grow.refl _).alloc _
theorem zfc (op d a b:Int) (w:World) (R:Ending→World→Prop) (hR:∀ w',Grow w w'→R (.returned (.bool (vL op d a b))) w') :
  Calls Tryz.prog 102 #[.agg #[.int .i64 op,.int .i64 d,.int .i64 a,.int .i64 b]] w R:=by
 by_cases h0:op=0
 ·subst h0;exact zxe d a b w R hR
 by_cases h1:op=1
 ·subst h1;exact zyb d a b w R hR
 by_cases h2:op=2
 ·subst h2;exact zyo d a b w R hR
 by_cases h3:op=3
 ·subst h3;exact zyf d a b w R hR
 by_cases h4:op=4
 ·subst h4;exact zyp d a b w R hR
 by_cases h5:op=5
 ·subst h5;exact zwf d a b w R hR
 by_cases h6:op=6
 ·subst h6;exact zxo d a b w R hR
 by_cases h7:op=7
 ·subst h7;exact risLine_7 d a b w R hR
 rw [show vL op d a b=false by simp [vL,h0,h1,h2,h3,h4,h5,h6,h7]] at hR
 go_enter func102,ntmps102
 go_wp2_with fail;exact (Grow.refl _).alloc _
theorem zdc (op d a b:Int) (w:World) (R:Ending→World→Prop) (hR:∀ w',Grow w w'→R (.returned (.int .i64 (errB (vL op d a b)))) w') :
  Calls Tryz.prog 125 #[.agg #[.int .i64 op,.int .i64 d,.int .i64 a,.int .i64 b]] w R:=by
 have HR:=jH hR;clear hR;cases hv:vL op d a b with
 | true=>
  have HRR:=jH (hv ▸ HR.out)
  go_enter func125,ntmps125
  go_wp2_with fail;refine zfc op d a b _ _ ?_;intro w1 hg1;rw [hv];go_wp2_with fail;exact HRR.out _ (((Grow.refl w).alloc _).trans hg1)
 | false=>
  have HRR:=jH (hv ▸ HR.out)
  go_enter func125,ntmps125
  go_wp2_with fail;refine zfc op d a b _ _ ?_;intro w1 hg1;rw [hv];go_wp2_with fail;exact HRR.out _ (((Grow.refl w).alloc _).trans hg1)
set_option maxHeartbeats 2000000
theorem zbs (p:List Ln) (v:Value) (w:World) (hp:LinesAt w v p) (R:Ending→World→Prop) (hR:∀ w',Grow w w'→R (.returned (.int .i64 (valP p))) w') :
  Calls Tryz.prog 65 #[v] w R:=by
 obtain ⟨a,c,rfl,h1,h2,h3⟩:=hp;by_cases hl:8<p.length
 ·rw [show valP p=3 by simp [valP,hl]] at hR
  go_enter func65,ntmps65
  go_wp2_with fail;exact Grow.refl _
 ·have hV:valP p=errB (p.all Ln.ok):=by simp [valP,hl]
  rw [hV] at hR;clear hV;have hm:p.length≤9223372036854775807:=by omega
  go_enter func65,ntmps65
  go_wp2_with fail
  go_loopw [3] (fun i wr=>∃ k:Nat,k≤p.length∧i=.int .i64 k∧Grow w wr∧∀ l∈p.take k,Ln.ok l=true) (fun i _=>p.length - (intOf i).toNat)
  case atStart=>exact ⟨0,Nat.zero_le _,rfl,Grow.refl _,by simp⟩
  case round=>
   obtain ⟨k,hk,rfl,hg,hall⟩:=hrel;by_cases hlt:k<p.length
   ·replace h3:=h3.resolve_left (by intro h;simp [h] at hlt)
    obtain ⟨b,o,rfl,hb,hc⟩:=h3;obtain ⟨⟨op,d,x,y⟩,hx⟩:∃ l,p[k]?=some l:=⟨_,List.getElem?_eq_getElem hlt⟩;obtain ⟨c0,c1,c2,c3⟩:=zbf hc k op d x y hx;have e0:=hg.cell c0;have e1:=hg.cell c1;have e2:=hg.cell c2;have e3:=hg.cell c3;have hz:=hg.sz;clear hc c0 c1 c2 c3;have HX:=jH hx;have HA:=jH hall;have HG:=jH hg;clear hx hall hg;cases hv:vL op d x y with
    | true=>
     go_wp2_with fail;refine zfc _ _ _ _ _ _ ?_;intro w1 hg1;rw [hv];have hg2:=HG.out.trans hg1;clear hg1;go_wp2_with fail;go_roundw
     case rel=>exact ⟨k+1,by omega,by go_num,hg2,zhc HA.out HX.out hv⟩
     case measure=>simp [intOf];omega
    | false=>
     rw [zip HX.out hv] at hR;rw [show errB false=1 from rfl] at hR;have HR:=jH hR;clear hR;go_wp2_with fail;refine zfc _ _ _ _ _ _ ?_;intro w1 hg1;rw [hv];have hg2:=HG.out.trans hg1;clear hg1;go_wp2_with fail;exact HR.out _ hg2
   ·rw [zkc hall (by omega)] at hR
    rw [show errB true=0 from rfl] at hR;go_wp2_with fail;exact hg
end Go.Proofs.YtmeejlgnhfkeaaaGreatDoor
