/- Parts. -/
import Derived.Test.YtmeejlgnhfkeaaaGreatDoorR00
import Derived.Lib.ItoaNum
import Derived.Lib.IndexMore
namespace Go.Proofs.YtmeejlgnhfkeaaaGreatDoor
open Go.RowKit
namespace Bk
def sumL (s:Int):List UInt8→Int
 | []=>s
 | c :: r=>sumL ((s * 257+(c.toNat:Int)+1) % 1000003) r
def sumS (before:Int) (l:List UInt8):Int:=sumL (before % 1000003) l
theorem sumL_bd:∀ (l:List UInt8) {s:Int},0≤s→s<1000003→0≤sumL s l∧sumL s l<1000003
 | [],s,h0,h1=>⟨h0,h1⟩
 | c :: r,s,_,_=>sumL_bd r (Int.emod_nonneg _ (by decide)) (Int.emod_lt_of_pos _ (by decide))
theorem sumS_bd (b:Int) (l:List UInt8):0≤sumS b l∧sumS b l<1000003:=sumL_bd l (Int.emod_nonneg _ (by decide)) (Int.emod_lt_of_pos _ (by decide))
theorem sumS_of {s:Int} (h0:0≤s) (h1:s<1000003) (l:List UInt8):sumS s l=sumL s l:=by unfold sumS;rw [Int.emod_eq_of_lt h0 h1]
theorem sumL_snoc (s:Int) (l:List UInt8) (c:UInt8):sumL s (l++[c])=(sumL s l * 257+(c.toNat:Int)+1) % 1000003:=by
 induction l generalizing s with
 | nil=>rfl
 | cons x r ih=>exact ih _
def okT (l:List UInt8):Bool:=decide (1≤l.length) && decide (l.length≤30) && !l.contains 10
theorem okT_iff {l:List UInt8}:okT l=true↔1≤l.length∧l.length≤30∧10 ∉ l:=by
 unfold okT;simp [and_assoc]
def lineL (s:Int) (t:List UInt8):List UInt8:=Lib.itoa s++32 :: (t++[10])
def bookL (s:Int):List (List UInt8)→List UInt8
 | []=>[]
 | t :: r=>lineL (sumL s t) t++bookL (sumL s t) r
def sumsL (s:Int):List (List UInt8)→Int
 | []=>s
 | t :: r=>sumsL (sumL s t) r
theorem bookL_append (s:Int) (a b:List (List UInt8)):bookL s (a++b)=bookL s a++bookL (sumsL s a) b:=by
 induction a generalizing s with
 | nil=>rfl
 | cons t r ih=>simp only [List.cons_append,bookL,sumsL,ih,List.append_assoc]
theorem sumsL_append (s:Int) (a b:List (List UInt8)):sumsL s (a++b)=sumsL (sumsL s a) b:=by
 induction a generalizing s with
 | nil=>rfl
 | cons t r ih=>exact ih _
theorem sumsL_bd:∀ (l:List (List UInt8)) {s:Int},0≤s→s<1000003→0≤sumsL s l∧sumsL s l<1000003
 | [],_,h0,h1=>⟨h0,h1⟩
 | t :: r,_,h0,h1=>sumsL_bd r (sumL_bd t h0 h1).1 (sumL_bd t h0 h1).2
def cutL (c:UInt8):List UInt8→Option (List UInt8 × List UInt8)
 | []=>none
 | x :: r=>if x=c then some ([],r) else (cutL c r).map fun p=>(x :: p.1,p.2)
theorem cutL_some {c : UInt8} : ∀ {l a b : List UInt8}, cutL c l = some (a, b) ↔ l = a ++ c :: b ∧ c ∉ a
  | [], a, b => by simp [cutL]
  | x :: r, a, b => by
    unfold cutL
    by_cases h : x = c
    · subst h
      rw [if_pos rfl]
      cases a with
      | nil => simp
      | cons y a => simp only [Option.some.injEq, Prod.mk.injEq, List.cons_append, List.cons.injEq, List.mem_cons, not_or]; constructor
                    · rintro ⟨h1, _⟩; cases h1
                    · rintro ⟨⟨h1, _⟩, h2, _⟩; exact absurd h1 h2
    · rw [if_neg h, Option.map_eq_some_iff]
      constructor
      · rintro ⟨⟨a', b'⟩, h1, h2⟩
        obtain ⟨rfl, rfl⟩ := Prod.mk.injEq _ _ _ _ ▸ h2
        obtain ⟨rfl, h3⟩ := cutL_some.1 h1
        refine ⟨rfl, ?_⟩
        rw [List.mem_cons]
        rintro (h4 | h4)
        · exact h h4.symm
        · exact h3 h4
      · rintro ⟨h1, h2⟩
        cases a with
        | nil => simp at h1; exact absurd h1.1 h
        | cons y a =>
          simp only [List.cons_append, List.cons.injEq] at h1
          obtain ⟨rfl, h1⟩ := h1
          exact ⟨(a, b), cutL_some.2 ⟨h1, fun h3 => h2 (List.mem_cons_of_mem _ h3)⟩, rfl⟩
theorem zoy (u:Nat):∀ c∈Lib.decDigits u,48≤c.toNat∧c.toNat≤57:=by
 induction u using Nat.strongRecOn with
 | _ u ih=>
  intro c hc;rw [Lib.decDigits] at hc
  split at hc
  ·next h=>
   obtain rfl:=List.mem_singleton.1 hc;rw [show (UInt8.ofNat (48+u)).toNat=(48+u) % 256 from rfl];omega
  ·next h=>
   rcases List.mem_append.1 hc with hc | hc
   ·exact ih (u / 10) (by omega) c hc
   ·obtain rfl:=List.mem_singleton.1 hc;rw [show (UInt8.ofNat (48+u % 10)).toNat=(48+u % 10) % 256 from rfl];omega
theorem zlv (n:Int):∀ c∈Lib.itoa n,c=45∨(48≤c.toNat∧c.toNat≤57):=by
 intro c hc;unfold Lib.itoa at hc
 split at hc
 ·rcases List.mem_cons.1 hc with rfl | hc
  ·exact .inl rfl
  ·exact .inr (zoy _ c hc)
 ·exact .inr (zoy _ c hc)
theorem itoa_no10 (n:Int):(10:UInt8) ∉ Lib.itoa n:=fun h=>by
 rcases zlv n _ h with h1 | ⟨h1,_⟩
 ·exact absurd h1 (by decide)
 ·exact absurd h1 (by decide)
theorem zyk (n:Int):(32:UInt8) ∉ Lib.itoa n:=fun h=>by
 rcases zlv n _ h with h1 | ⟨h1,_⟩
 ·exact absurd h1 (by decide)
 ·exact absurd h1 (by decide)
def stepL (s:Int) (b:List UInt8):Option (List UInt8 × List UInt8):=
 match cutL 10 b with
 | none=>none
 | some (t,rest)=>match cutL 32 t with
  | none=>none
  | some (h,o)=>if okT o=true∧h=Lib.itoa (sumL s o) then some (o,rest) else none
def readL:Nat→Int→List UInt8→List (List UInt8) × List UInt8
 | 0,_,b=>([],b)
 | n+1,s,b=>match stepL s b with
  | none=>([],b)
  | some (o,rest)=>(o :: (readL n (sumL s o) rest).1,(readL n (sumL s o) rest).2)
theorem zui {s:Int} {b o rest:List UInt8}:stepL s b=some (o,rest)↔b=lineL (sumL s o) o++rest∧okT o=true:=by
 unfold stepL;constructor
 ·intro h
  split at h
  ·cases h
  ·next t r h1=>
   split at h
   ·cases h
   ·next hd o' h2=>
    split at h
    ·next h3=>
     simp only [Option.some.injEq,Prod.mk.injEq] at h;obtain ⟨rfl,rfl⟩:=h;obtain ⟨rfl,h4⟩:=cutL_some.1 h1;obtain ⟨rfl,h5⟩:=cutL_some.1 h2;refine ⟨?_,h3.1⟩;unfold lineL;rw [h3.2];simp
    ·cases h
 ·rintro ⟨rfl,hok⟩;obtain ⟨_,_,hn⟩:=okT_iff.1 hok;have h1:cutL 10 (lineL (sumL s o) o++rest)=some (Lib.itoa (sumL s o)++32 :: o,rest):=by
   rw [cutL_some];refine ⟨by simp [lineL],?_⟩
   rw [List.mem_append,List.mem_cons];rintro (h | h | h)
   ·exact itoa_no10 _ h
   ·exact absurd h (by decide)
   ·exact hn h
  have h2:cutL 32 (Lib.itoa (sumL s o)++32 :: o)=some (Lib.itoa (sumL s o),o):=cutL_some.2 ⟨rfl,zyk _⟩;rw [h1];dsimp only;rw [h2];dsimp only;rw [if_pos ⟨hok,rfl⟩]
theorem ztw {n:Nat} {s:Int} {o rest:List UInt8} (h:okT o=true):readL (n+1) s (lineL (sumL s o) o++rest)=(o :: (readL n (sumL s o) rest).1,(readL n (sumL s o) rest).2):=by
 rw [readL,zui.2 ⟨rfl,h⟩]
theorem zxy (n:Nat) (s:Int):readL n s []=([],[]):=by
 cases n with
 | zero=>rfl
 | succ n=>rfl
theorem readL_book:∀ (l:List (List UInt8)) (n:Nat) (s:Int),(∀ t∈l,okT t=true)→l.length≤n→readL n s (bookL s l)=(l,[])
 | [],n,s,_,_=>zxy n s
 | t :: r,0,s,_,h=>by simp at h
 | t :: r,n+1,s,hok,h=>by
  rw [bookL,ztw (hok t (by simp)),readL_book r n _ (fun u hu=>hok u (List.mem_cons_of_mem _ hu)) (by simpa using h)]
end Bk
theorem zij (c:UInt8):∀ l:List UInt8,(Bk.cutL c l=none→Lib.index l [c]=-1)∧(∀ a b,Bk.cutL c l=some (a,b)→Lib.index l [c]=(a.length:Int))
 | []=>⟨fun _=>by simp [Lib.index],fun a b h=>by simp [Bk.cutL] at h⟩
 | x :: r=>by
  obtain ⟨h1,h2⟩:=zij c r;unfold Bk.cutL Lib.index;by_cases hx:x=c
  ·subst hx;simp [List.isPrefixOf]
  ·have hp:List.isPrefixOf [c] (x :: r)=false:=by
    simp [List.isPrefixOf];exact fun e=>hx e.symm
   rw [if_neg hx,hp];simp only [Bool.false_eq_true,if_false];cases hr:Bk.cutL c r with
   | none=>
    refine ⟨fun _=>?_,fun a b h=>(by cases h)⟩
    rw [h1 hr];rfl
   | some p=>
    obtain ⟨a',b'⟩:=p;refine ⟨fun h=>(by cases h),fun a b h=>?_⟩
    simp only [Option.map_some,Option.some.injEq,Prod.mk.injEq] at h;obtain ⟨rfl,rfl⟩:=h;have h3:=h2 a' b' hr;rw [h3];have:((a'.length:Int) == -1)=false:=by rw [beq_eq_false_iff_ne];omega
    rw [this];simp
theorem zsq {c:UInt8} {l:List UInt8} (h:Bk.cutL c l=none):Lib.cut l [c]=(l,[],false):=by
 unfold Lib.cut;rw [(zij c l).1 h,if_neg (by decide)]
theorem zsd {c:UInt8} {l a b:List UInt8} (h:Bk.cutL c l=some (a,b)):Lib.cut l [c]=(a,b,true):=by
 obtain ⟨rfl,_⟩:=Bk.cutL_some.1 h;unfold Lib.cut;rw [(zij c _).2 a b h,if_pos (by omega)]
 simp
end Go.Proofs.YtmeejlgnhfkeaaaGreatDoor
