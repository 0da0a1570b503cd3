/-
General lemmas on worlds and slices: what a later world keeps, when a slice value holds a list, and what a list that was made holds. No program is named.
The plain functions behind layer 1: what the program's functions compute, on lists of integers. No program is named.
The plain functions behind layer 1: states, what a line does, and the run of a program as a list of visits. No program is named.
General lemmas, more of them: whole lists appended, what a cut of a list holds. No program is named.
The plain functions behind layer 2: tests, and which of them pass. No program is named.
The plain functions behind layer 1, more of them: what a line reads, slices. No program is named.
The plain functions behind layer 1: the slice of a register. No program is named.
The plain functions of the document's answer to layer 1. No program is named.
The plain law of CodeJoins: two programs one after the other run one after the other. No program is named.
The plain functions behind layer 1: independent lines. No program is named.
The plain law of CodeExchanges: a program with two lines exchanged that are independent runs the same. No program is named.
The plain law of CodeSteps: what a run does from one line that is done to the next one. No program is named.
Small lemmas: one element of a list that can be read. No program is named.
Stores into a list that the call has made. No program is named.
The plain functions behind Force: its errors, and the numbers that lists force upon lines. No program is named.
The plain functions behind the document's slice: marks, and that they list what the walk back collects. No program is named.
The plain law of CodeOutside: what lines outside a slice write does not change its register. No program is named.
The plain functions behind layer 4: patches. No program is named.
-/
import Derived.WalkKit
import Derived.WalkSpells
import Derived.WalkLawsBesides
import Derived.WalkSmall
import Derived.Lib.Hide
import Derived.Laws.EntriesVeiled
import Derived.Shelf.Abstract
namespace Go.Proofs.YtmlbgfnddgbpbaaGreat
open Go.RowKit

/-- Every block that was there in w is in w' as it was. -/
def Grow (w w' : World) : Prop := Below w.heap.size w w'

namespace Grow
variable {a b c w w' : World}
theorem refl (w : World) : Grow w w := Below.refl _ _
theorem sz (h : Grow w w') : w.heap.size ≤ w'.heap.size := Below.size h
theorem trans (h : Grow a b) (k : Grow b c) : Grow a c := Below.trans h (Below.mono k h.sz)
theorem alloc (h : Grow a w) (o : Obj) : Grow a (w.alloc o) := Below.alloc h h.sz o
theorem drew (h : Grow a w) : Grow a w.drew := Below.drew h
theorem drewN (h : Grow a w) (n : Nat) : Grow a (w.drewN n) := below_drewN h n
theorem heap (h : Grow w w') {k : Nat} (hk : k < w.heap.size) : w'.heap[k]? = w.heap[k]? := Below.block h k hk
theorem blk (h : Grow w w') {k : Nat} {o : Obj} (hk : w.heap[k]? = some o) : w'.heap[k]? = some o := (h.heap (lt_of_block hk)).trans hk
theorem cellsB (hb : Grow w w') : (∀ b o, b < w.heap.size → w'.cell? ⟨b, o, none⟩ = w.cell? ⟨b, o, none⟩) ∧ (∀ b o, b < w.heap.size → w'.frozen? ⟨b, o, none⟩ = w.frozen? ⟨b, o, none⟩) :=
  ⟨fun b o h => Below.cell (p := ⟨b, o, none⟩) hb h, fun b o h => Below.frozen (p := ⟨b, o, none⟩) hb h⟩
theorem cell (hb : Grow w w') {a : Addr} {v : Value} (h : w.cell? a = some v) : w'.cell? a = some v :=
  (Below.cell hb (World.block_lt_of_cell? _ _ h)).trans h
theorem grownBy (h : Grow w w') (r : Option Nat) : w.grownBy w' r := ⟨Below.os h, Below.tape h, Below.output h, Below.size h, fun k hk _ => Below.block h k hk⟩
theorem of_grownBy (h : w.grownBy w' none) : Grow w w' := ⟨h.os, h.tape, h.output, h.size, fun k hk => h.block k hk (by simp)⟩
theorem owns (h : Grow w w') {base : Nat} {e : TypeId} {size : Nat} {v : Value} {n : Nat} {xs : List Value} (ho : w.ownsRow base e size v n xs) : w'.ownsRow base e size v n xs :=
  ho.kept (h.grownBy none) (by cases hv : v.ownBlock <;> simp)
theorem below (h : Grow w w') {B : Nat} (hB : B ≤ w.heap.size) : Below B w w' := Below.mono h hB
end Grow

theorem Below.of_grow {B : Nat} {a w w' : World} (h : Below B a w) (k : Grow w w') (hB : B ≤ w.heap.size) : Below B a w' := Below.trans h (k.below hB)

theorem heap_two0 (w : World) (A B : Obj) : ((w.alloc A).alloc B).heap[w.heap.size]? = some A := by
  rw [Below.heap_alloc _ _ _ (by simp)]; exact heap_alloc_new w A
theorem heap_two1 (w : World) (A B : Obj) : ((w.alloc A).alloc B).heap[w.heap.size + 1]? = some B := by
  have := heap_alloc_new (w.alloc A) B
  rwa [World.size_alloc] at this

/-- A slice value holds the list xs, each element in k cells as enc says. -/
def SlcAt {α : Type} (k : Nat) (enc : α → List Value) (w : World) (v : Value) (xs : List α) : Prop :=
  ∃ a c, v = .slice a xs.length c ∧ xs.length ≤ c ∧ c ≤ 9223372036854775807 ∧
    ((xs = [] ∧ (a = none → c = 0)) ∨ ∃ b o, a = some ⟨b, o, none⟩ ∧ b < w.heap.size ∧ ∀ j x, xs[j]? = some x → ∀ i u, (enc x)[i]? = some u → w.cell? ⟨b, o + j * k + i, none⟩ = some u)

theorem SlcAt.grow {α : Type} {k : Nat} {enc : α → List Value} {w w' : World} {v : Value} {xs : List α} (h : SlcAt k enc w v xs) (g : Grow w w') : SlcAt k enc w' v xs := by
  obtain ⟨a, c, h1, h2, h3, h4⟩ := h
  refine ⟨a, c, h1, h2, h3, h4.imp id ?_⟩
  rintro ⟨b, o, e, hb, hc⟩
  exact ⟨b, o, e, Nat.lt_of_lt_of_le hb g.sz, fun j x hx i u hu => g.cell (hc j x hx i u hu)⟩

/-- Below a number that bounds its block. -/
theorem SlcAt.len_le {α : Type} {k : Nat} {enc : α → List Value} {w : World} {v : Value} {xs : List α} (h : SlcAt k enc w v xs) : xs.length ≤ 9223372036854775807 := by
  obtain ⟨a, c, h1, h2, h3, h4⟩ := h; omega

theorem SlcAt.nil {α : Type} (k : Nat) (enc : α → List Value) (w : World) : SlcAt k enc w (.slice none 0 0) [] := ⟨none, 0, rfl, by simp, by simp, .inl ⟨rfl, fun _ => rfl⟩⟩

/-- A list that the call has made, from the block base on. -/
def Own {α : Type} (k : Nat) (enc : α → List Value) (base : Nat) (w : World) (v : Value) (xs : List α) : Prop :=
  ∃ e, w.ownsRow base e k v xs.length (xs.flatMap enc)

theorem Own.grow {α : Type} {k : Nat} {enc : α → List Value} {base : Nat} {w w' : World} {v : Value} {xs : List α} (h : Own k enc base w v xs) (g : Grow w w') : Own k enc base w' v xs :=
  let ⟨e, he⟩ := h; ⟨e, g.owns he⟩

theorem ownsRow_mono {w : World} {base base' : Nat} {e : TypeId} {size : Nat} {v : Value} {n : Nat} {xs : List Value} (h : w.ownsRow base e size v n xs) (hb : base' ≤ base) : w.ownsRow base' e size v n xs := by
  obtain ⟨h1, h2⟩ := h
  refine ⟨h1, h2.imp id ?_⟩
  rintro ⟨g, cap, cur, a, b, c, d⟩
  exact ⟨g, cap, cur, a, Nat.le_trans hb b, c, d⟩

theorem Own.mono {α : Type} {k : Nat} {enc : α → List Value} {base base' : Nat} {w : World} {v : Value} {xs : List α} (h : Own k enc base w v xs) (hb : base' ≤ base) : Own k enc base' w v xs :=
  let ⟨e, he⟩ := h; ⟨e, ownsRow_mono he hb⟩

theorem flatMap_getElem? {α : Type} {k : Nat} {enc : α → List Value} (hk : ∀ x, (enc x).length = k) : ∀ (xs : List α) (j : Nat) (x : α), xs[j]? = some x → ∀ i, i < k → (xs.flatMap enc)[j * k + i]? = (enc x)[i]?
  | [], j, x, h, i, hi => by simp at h
  | y :: ys, 0, x, h, i, hi => by
    simp at h; subst h
    simp [List.flatMap_cons, List.getElem?_append, hk, hi]
  | y :: ys, j + 1, x, h, i, hi => by
    simp at h
    have ih := flatMap_getElem? hk ys j x h i hi
    rw [List.flatMap_cons, List.getElem?_append_right (by rw [hk, Nat.succ_mul]; omega), hk, ← ih]
    congr 1
    rw [Nat.succ_mul]; omega

theorem flatMap_length {α : Type} {k : Nat} {enc : α → List Value} (hk : ∀ x, (enc x).length = k) : ∀ (xs : List α), (xs.flatMap enc).length = xs.length * k
  | [] => by simp
  | y :: ys => by rw [List.flatMap_cons, List.length_append, hk, flatMap_length hk ys, List.length_cons, Nat.succ_mul]; omega

/-- What was made can be read. -/
theorem slc_of_owns {α : Type} {k : Nat} {enc : α → List Value} (hk : ∀ x, (enc x).length = k) {base : Nat} {e : TypeId} {w : World} {v : Value} {xs : List α}
    (h : w.ownsRow base e k v xs.length (xs.flatMap enc)) : SlcAt k enc w v xs := by
  rcases h.2 with ⟨rfl, h0⟩ | ⟨g, cap, cur, rfl, hb, hh, hn, hm, hcs, htake⟩
  · have : xs = [] := List.eq_nil_of_length_eq_zero h0
    subst this
    exact SlcAt.nil _ _ _
  · refine ⟨_, cap, rfl, hn, by simpa [maxLen] using hm, .inr ⟨g, 0, rfl, lt_of_block hh, fun j x hx i u hu => ?_⟩⟩
    have hi : i < k := by rw [← hk x]; exact (List.getElem?_eq_some_iff.1 hu).1
    have hj : j < xs.length := (List.getElem?_eq_some_iff.1 hx).1
    have hf := flatMap_getElem? hk xs j x hx i hi
    have hlt : j * k + i < xs.length * k := by
      have : (j + 1) * k ≤ xs.length * k := Nat.mul_le_mul_right _ hj
      rw [Nat.succ_mul] at this; omega
    have := World.ownsRow.cellAt (w := w) (base := base) (e := e) (size := k) (g := g) (n := xs.length) (cap := cap) h (j * k + i) hlt
    rw [Nat.zero_add, this, hf, hu]

theorem Own.slc {α : Type} {k : Nat} {enc : α → List Value} (hk : ∀ x, (enc x).length = k) {base : Nat} {w : World} {v : Value} {xs : List α} (h : Own k enc base w v xs) : SlcAt k enc w v xs :=
  let ⟨_, he⟩ := h; slc_of_owns hk he

theorem Own.nil {α : Type} (k : Nat) (enc : α → List Value) (base : Nat) (w : World) : Own k enc base w (.slice none 0 0) [] := ⟨0, World.ownsRow_nil _ _ _ _⟩

/-! ### One element appended to a list that the call has made -/
theorem wpList_app {P : Program} {α : Type} (w : World) {ops : Array Oper} {rest : List Oper} {o : Oper} {a : Act} {Q : Exit → Act → World → Prop} (hgd : o.guard = none) (s x : Operand) (t : TypeId)
    (ho : o.op = .call { callee := .builtin .append, args := #[s, x], argTypes := #[t, t] })
    (base : Nat) (e : TypeId) {k bytes : Nat} {z : Value} (ht : P.underlying t = some (.slice e)) (info : (P.info? e).map (fun i => (i.zero, i.size, i.bytes)) = some (some z, k, bytes))
    (hzs : z.cells.size = k) (hk : 0 < k) (hby : bytes ≤ 1000)
    (enc : α → List Value) (hen : ∀ x, (enc x).length = k) (h1 : ∀ x, ∀ u ∈ enc x, u.oneCell' = true)
    (v : Value) (xs : List α) (hs : a.eval s = v) (hown : w.ownsRow base e k v xs.length (xs.flatMap enc)) (ad : Addr) (y : α) (c : Nat) (hx : a.eval x = .slice (some ad) 1 c)
    (hnews : ∀ j u, (enc y)[j]? = some u → w.cell? (ad.add j) = some u) (hn : xs.length < 100000000000) (hbase : base ≤ w.heap.size)
    (h : ∀ v' w', w'.ownsRow base e k v' (xs ++ [y]).length ((xs ++ [y]).flatMap enc) → w.grownBy w' v.ownBlock → wpList P ops Q rest (a.put o.dst v') w') : wpList P ops Q (o :: rest) a w := by
  obtain ⟨i, hi, hz0, hz1, hz2⟩ := info_parts info
  refine wpList_append_own w hgd s x t ho base e i z k bytes ht hi hz0 hz1 hz2 hzs hk v xs.length (xs.flatMap enc) hs hown ad 1 c (enc y) hx (by rw [hen]; omega) hnews (h1 y) (by unfold maxLen; omega) ?_ hbase ?_
  · exact Nat.le_trans (Nat.mul_le_mul (show xs.length + 1 ≤ 100000000000 by omega) hby) (by decide)
  · intro v' w' a1 a2 _
    refine h v' w' ?_ a2
    rw [List.length_append, List.flatMap_append]
    simpa using a1

theorem grown_keep {w w' w0 : World} {base : Nat} {e : TypeId} {k : Nat} {v : Value} {n : Nat} {xs : List Value} (hown : w0.ownsRow base e k v n xs) (hg : w.grownBy w' v.ownBlock) {j : Nat} {o : Obj} (hj : j < base) (h : w.heap[j]? = some o) : w'.heap[j]? = some o := by
  rw [hg.block j (lt_of_block h) (fun e => by have := (hown.lt j e.symm).1; omega)]; exact h
theorem grown_keep_new {w w' w0 : World} {base : Nat} {e : TypeId} {k : Nat} {v : Value} {n : Nat} {xs : List Value} (hown : w0.ownsRow base e k v n xs) (hg : w.grownBy w' v.ownBlock) {j : Nat} {o : Obj} (hj : w0.heap.size ≤ j) (h : w.heap[j]? = some o) : w'.heap[j]? = some o := by
  rw [hg.block j (lt_of_block h) (fun e => by have := (hown.lt j e.symm).2; omega)]; exact h
theorem grown_below {w w' w0 a : World} {base B : Nat} {e : TypeId} {k : Nat} {v : Value} {n : Nat} {xs : List Value} (hown : w0.ownsRow base e k v n xs) (hg : w.grownBy w' v.ownBlock) (hB : B ≤ base) (hsz : B ≤ w.heap.size) (hb : Below B a w) : Below B a w' :=
  Below.grown hb hg hsz (fun j hj => by have := (hown.lt j hj).1; omega)
theorem news_one (w : World) (cs : List Value) (t : TypeId) : ∀ j u, cs[j]? = some u → (w.alloc (.cells cs.toArray t)).cell? ((⟨w.heap.size, 0, none⟩ : Addr).add j) = some u := by
  intro j u hj
  rw [Addr.add_lit, World.cell?_alloc_new]; simpa using hj
theorem news_two (w : World) (A : Obj) (cs : List Value) (t : TypeId) : ∀ j u, cs[j]? = some u → ((w.alloc A).alloc (.cells cs.toArray t)).cell? ((⟨w.heap.size + 1, 0, none⟩ : Addr).add j) = some u := by
  intro j u hj
  have := news_one (w.alloc A) cs t j u hj
  rwa [World.size_alloc] at this

/-! ### Lists of integers -/
def encI (n : Int) : List Value := [.int .i64 n]
theorem encI_len (n : Int) : (encI n).length = 1 := rfl
theorem flatMap_encI (xs : List Int) : xs.flatMap encI = xs.map (Value.int .i64) := by
  induction xs with
  | nil => rfl
  | cons x xs ih => rw [List.flatMap_cons, ih]; rfl
/-- The slice value v holds the integers xs. -/
abbrev IntsAt (w : World) (v : Value) (xs : List Int) : Prop := SlcAt 1 encI w v xs
abbrev OwnI (base : Nat) (w : World) (v : Value) (xs : List Int) : Prop := Own 1 encI base w v xs
theorem ints_cell {w : World} {b o : Nat} {xs : List Int} (hc : ∀ j x, xs[j]? = some x → ∀ i u, (encI x)[i]? = some u → w.cell? ⟨b, o + j * 1 + i, none⟩ = some u) (j : Nat) (x : Int) (h : xs[j]? = some x) : w.cell? ⟨b, o + j, none⟩ = some (.int .i64 x) := by
  simpa using hc j x h 0 _ rfl

/-! ### Lines -/
structure Ln where
  op : Int
  d : Int
  a : Int
  b : Int
deriving DecidableEq, Inhabited
def encL (l : Ln) : List Value := [.int .i64 l.op, .int .i64 l.d, .int .i64 l.a, .int .i64 l.b]
theorem encL_len (l : Ln) : (encL l).length = 4 := rfl
abbrev LinesAt (w : World) (v : Value) (p : List Ln) : Prop := SlcAt 4 encL w v p
abbrev OwnL (base : Nat) (w : World) (v : Value) (p : List Ln) : Prop := Own 4 encL base w v p
theorem lines_cell {w : World} {b o : Nat} {p : List Ln} (hc : ∀ j x, p[j]? = some x → ∀ i u, (encL x)[i]? = some u → w.cell? ⟨b, o + j * 4 + i, none⟩ = some u) (j : Nat) (op d a c : Int) (h : p[j]? = some ⟨op, d, a, c⟩) :
    w.cell? ⟨b, o + j * 4, none⟩ = some (.int .i64 op) ∧ w.cell? ⟨b, o + j * 4 + 1, none⟩ = some (.int .i64 d) ∧ w.cell? ⟨b, o + j * 4 + 2, none⟩ = some (.int .i64 a) ∧ w.cell? ⟨b, o + j * 4 + 3, none⟩ = some (.int .i64 c) :=
  ⟨hc j _ h 0 _ rfl, hc j _ h 1 _ rfl, hc j _ h 2 _ rfl, hc j _ h 3 _ rfl⟩

end Go.Proofs.YtmlbgfnddgbpbaaGreat

namespace Go.Proofs.YtmlbgfnddgbpbaaGreat

def inB (n lo hi : Int) : Bool := decide (lo ≤ n) && decide (n ≤ hi)
theorem inB_def (n lo hi : Int) : inB n lo hi = (decide (lo ≤ n) && decide (n ≤ hi)) := rfl
theorem inB_true {n lo hi : Int} : inB n lo hi = true ↔ lo ≤ n ∧ n ≤ hi := by simp [inB_def]
theorem inB_false {n lo hi : Int} : inB n lo hi = false ↔ n < lo ∨ hi < n := by simp [inB_def]; omega

/-- A valid line. -/
def vL (op d a b : Int) : Bool :=
  if op = 0 then decide (d = 0) && decide (a = 0) && decide (b = 0)
  else if op = 1 then inB d 0 3 && inB a (-9) 9 && decide (b = 0)
  else if op = 2 then inB d 0 3 && inB a 0 3 && decide (b = 0)
  else if op = 3 ∨ op = 4 ∨ op = 5 ∨ op = 6 then inB d 0 3 && inB a 0 3 && inB b 0 3
  else if op = 7 then inB d 1 8 && inB a 0 3 && inB b 0 3
  else false
def Ln.ok (l : Ln) : Bool := vL l.op l.d l.a l.b
/-- OK or ErrArg. -/
def errB (b : Bool) : Int := if b then 0 else 1
theorem errB_true : errB true = 0 := rfl
theorem errB_false : errB false = 1 := rfl
def valP (p : List Ln) : Int := if 8 < p.length then 3 else errB (p.all Ln.ok)
def valS (s : List Int) : Int := if s.length = 4 then errB (s.all fun n => inB n (-999) 999) else 1
/-- The errors of a program and a state. -/
def chk (p : List Ln) (s : List Int) : Int := if valP p = 0 then valS s else valP p

theorem errB_cases (b : Bool) : errB b = 0 ∨ errB b = 1 := by cases b <;> simp [errB]
theorem valP_ok {p : List Ln} : valP p = 0 ↔ p.length ≤ 8 ∧ ∀ l ∈ p, l.ok = true := by
  unfold valP errB
  by_cases h : 8 < p.length
  · simp only [h, if_true]
    exact ⟨fun h => (by cases h), fun h2 => (by omega)⟩
  · simp only [h, if_false]
    cases hp : p.all Ln.ok
    · simp only [Bool.false_eq_true, if_false]
      constructor
      · intro h; cases h
      · rintro ⟨_, h2⟩; rw [List.all_eq_true.2 h2] at hp; cases hp
    · simp only [if_true, true_iff]
      exact ⟨by omega, List.all_eq_true.1 hp⟩
theorem valS_ok {s : List Int} : valS s = 0 ↔ s.length = 4 ∧ ∀ n ∈ s, -999 ≤ n ∧ n ≤ 999 := by
  unfold valS errB
  by_cases h : s.length = 4
  · simp only [h, if_true, true_and]
    cases hp : s.all fun n => inB n (-999) 999
    · simp only [Bool.false_eq_true, if_false]
      constructor
      · intro h; cases h
      · intro h2; rw [List.all_eq_true.2 (fun n hn => inB_true.2 (h2 n hn))] at hp; cases hp
    · simp only [if_true, true_iff]
      exact fun n hn => inB_true.1 (List.all_eq_true.1 hp n hn)
  · simp [h]
theorem chk_ok {p : List Ln} {s : List Int} : chk p s = 0 ↔ valP p = 0 ∧ valS s = 0 := by
  unfold chk; by_cases h : valP p = 0 <;> simp [h]

/-- A line writes a register. -/
def wrB (op : Int) : Bool := inB op 1 6
end Go.Proofs.YtmlbgfnddgbpbaaGreat

namespace Go.Proofs.YtmlbgfnddgbpbaaGreat

/-- A state: the numbers of the four registers. -/
structure St where
  r0 : Int
  r1 : Int
  r2 : Int
  r3 : Int
deriving DecidableEq, Inhabited
def St.toL (s : St) : List Int := [s.r0, s.r1, s.r2, s.r3]
def encS (s : St) : List Value := [.int .i64 s.r0, .int .i64 s.r1, .int .i64 s.r2, .int .i64 s.r3]
def St.get (s : St) (r : Int) : Int := if r = 0 then s.r0 else if r = 1 then s.r1 else if r = 2 then s.r2 else s.r3
def St.set (s : St) (r n : Int) : St := if r = 0 then { s with r0 := n } else if r = 1 then { s with r1 := n } else if r = 2 then { s with r2 := n } else { s with r3 := n }
/-- All registers are within the bounds. -/
def St.fine (s : St) : Prop := (-999 ≤ s.r0 ∧ s.r0 ≤ 999) ∧ (-999 ≤ s.r1 ∧ s.r1 ≤ 999) ∧ (-999 ≤ s.r2 ∧ s.r2 ≤ 999) ∧ (-999 ≤ s.r3 ∧ s.r3 ≤ 999)
theorem St.get_fine {s : St} (h : s.fine) (r : Int) : -999 ≤ s.get r ∧ s.get r ≤ 999 := by
  obtain ⟨h0, h1, h2, h3⟩ := h
  unfold St.get
  split
  · exact h0
  · split
    · exact h1
    · split
      · exact h2
      · exact h3
theorem St.set_fine {s : St} (h : s.fine) (r : Int) {n : Int} (hn : -999 ≤ n ∧ n ≤ 999) : (s.set r n).fine := by
  obtain ⟨h0, h1, h2, h3⟩ := h
  unfold St.set
  split
  · exact ⟨hn, h1, h2, h3⟩
  · split
    · exact ⟨h0, hn, h2, h3⟩
    · split
      · exact ⟨h0, h1, hn, h3⟩
      · exact ⟨h0, h1, h2, hn⟩
theorem St.of_valS {s : List Int} (h : valS s = 0) : ∃ q : St, q.toL = s ∧ q.fine := by
  obtain ⟨h1, h2⟩ := valS_ok.1 h
  match s, h1 with
  | [a, b, c, d], _ => exact ⟨⟨a, b, c, d⟩, rfl, h2 a (by simp), h2 b (by simp), h2 c (by simp), h2 d (by simp)⟩

def cut (n : Int) : Int := max (-999) (min 999 n)
theorem cut_fine (n : Int) : -999 ≤ cut n ∧ cut n ≤ 999 := by unfold cut; omega
/-- What a line that writes makes of two registers and its number A. -/
def opV (op a x y : Int) : Int := if op = 1 then a else if op = 2 then x else if op = 3 then x + y else if op = 4 then x - y else if op = 5 then min x y else max x y
def stepS (f : Nat → Option Int) (l : Ln) (i : Nat) (s : St) : St :=
  if wrB l.op then s.set l.d (cut ((f i).getD (opV l.op l.a (s.get l.a) (s.get l.b)))) else s
def nextI (l : Ln) (i : Nat) (s : St) : Nat := if l.op = 7 ∧ s.get l.a < s.get l.b then i + 1 + l.d.toNat else i + 1
theorem nextI_gt (l : Ln) (i : Nat) (s : St) : i < nextI l i s := by unfold nextI; split <;> omega
theorem stepS_fine (f : Nat → Option Int) (l : Ln) (i : Nat) {s : St} (h : s.fine) : (stepS f l i s).fine := by
  unfold stepS; split
  · exact St.set_fine h _ (cut_fine _)
  · exact h

/-- The lines that are done, each with the state before it, and the state at the end. -/
def trcN (p : List Ln) (f : Nat → Option Int) : Nat → Nat → St → List (Nat × St) × St
  | 0, _, s => ([], s)
  | n + 1, i, s => match p[i]? with
    | none => ([], s)
    | some l => ((i, s) :: (trcN p f n (nextI l i s) (stepS f l i s)).1, (trcN p f n (nextI l i s) (stepS f l i s)).2)
def trc (p : List Ln) (f : Nat → Option Int) (i : Nat) (s : St) : List (Nat × St) × St := trcN p f (p.length - i) i s
theorem trcN_fuel (p : List Ln) (f : Nat → Option Int) : ∀ (n m i : Nat) (s : St), p.length ≤ i + n → p.length ≤ i + m → trcN p f n i s = trcN p f m i s
  | 0, 0, _, _, _, _ => rfl
  | 0, m + 1, i, s, h, _ => by
    have : p[i]? = none := List.getElem?_eq_none (by omega)
    simp [trcN, this]
  | n + 1, 0, i, s, _, h => by
    have : p[i]? = none := List.getElem?_eq_none (by omega)
    simp [trcN, this]
  | n + 1, m + 1, i, s, h1, h2 => by
    cases hl : p[i]? with
    | none => simp [trcN, hl]
    | some l =>
      have := nextI_gt l i s
      have ih := trcN_fuel p f n m (nextI l i s) (stepS f l i s) (by omega) (by omega)
      simp [trcN, hl, ih]
theorem trc_end {p : List Ln} {f : Nat → Option Int} {i : Nat} {s : St} (h : p.length ≤ i) : trc p f i s = ([], s) := by
  unfold trc; rw [show p.length - i = 0 by omega]; rfl
theorem trc_step {p : List Ln} {f : Nat → Option Int} {i : Nat} {s : St} {l : Ln} (h : p[i]? = some l) :
    trc p f i s = ((i, s) :: (trc p f (nextI l i s) (stepS f l i s)).1, (trc p f (nextI l i s) (stepS f l i s)).2) := by
  have hlt : i < p.length := (List.getElem?_eq_some_iff.1 h).1
  have := nextI_gt l i s
  unfold trc
  obtain ⟨n, hn⟩ : ∃ n, p.length - i = n + 1 := ⟨p.length - i - 1, by omega⟩
  rw [hn]
  simp only [trcN, h]
  rw [trcN_fuel p f n (p.length - nextI l i s) _ _ (by omega) (by omega)]

/-- How far a run has come: the visits so far, where it stands, and its state. -/
def Upto (p : List Ln) (f : Nat → Option Int) (s0 : St) (vs : List (Nat × St)) (i : Nat) (s : St) : Prop :=
  vs ++ (trc p f i s).1 = (trc p f 0 s0).1 ∧ (trc p f i s).2 = (trc p f 0 s0).2
theorem Upto.start (p : List Ln) (f : Nat → Option Int) (s0 : St) : Upto p f s0 [] 0 s0 := ⟨rfl, rfl⟩
theorem Upto.step {p : List Ln} {f : Nat → Option Int} {s0 : St} {vs : List (Nat × St)} {i : Nat} {s : St} {l : Ln} (h : Upto p f s0 vs i s) (hl : p[i]? = some l) :
    Upto p f s0 (vs ++ [(i, s)]) (nextI l i s) (stepS f l i s) := by
  obtain ⟨h1, h2⟩ := h
  rw [trc_step hl] at h1 h2
  exact ⟨by rw [← h1]; simp, h2⟩
theorem Upto.done {p : List Ln} {f : Nat → Option Int} {s0 : St} {vs : List (Nat × St)} {i : Nat} {s : St} (h : Upto p f s0 vs i s) (hi : p.length ≤ i) :
    vs = (trc p f 0 s0).1 ∧ s = (trc p f 0 s0).2 := by
  obtain ⟨h1, h2⟩ := h
  rw [trc_end hi] at h1 h2
  exact ⟨by rw [← h1]; simp, h2⟩

def encV (v : Nat × St) : List Value := [.int .i64 v.1, .int .i64 v.2.r0, .int .i64 v.2.r1, .int .i64 v.2.r2, .int .i64 v.2.r3]
theorem encV_len (v : Nat × St) : (encV v).length = 5 := rfl

/-! ### What the functions of the package answer -/
def St.ofL (l : List Int) : St := ⟨l.getD 0 0, l.getD 1 0, l.getD 2 0, l.getD 3 0⟩
theorem St.ofL_toL (s : St) : St.ofL s.toL = s := rfl
def noF : Nat → Option Int := fun _ => none
/-- A list, if there is no error. -/
def ifOK {α : Type} (e : Int) (l : List α) : List α := if e = 0 then l else []
theorem ifOK_ok {α : Type} (l : List α) : ifOK 0 l = l := rfl
theorem ifOK_err {α : Type} {e : Int} (h : e ≠ 0) (l : List α) : ifOK e l = [] := by simp [ifOK, h]
def runM (p : List Ln) (s : List Int) : List Int := (trc p noF 0 (St.ofL s)).2.toL
def visits (p : List Ln) (s : List Int) : List (Nat × St) := (trc p noF 0 (St.ofL s)).1
def doneM (p : List Ln) (s : List Int) : List Int := (visits p s).map fun v => (v.1 : Int)

theorem visits_cell {w : World} {b o : Nat} {vs : List (Nat × St)} (hc : ∀ j x, vs[j]? = some x → ∀ i u, (encV x)[i]? = some u → w.cell? ⟨b, o + j * 5 + i, none⟩ = some u) (j : Nat) (x : Nat × St) (h : vs[j]? = some x) :
    w.cell? ⟨b, o + j * 5, none⟩ = some (.int .i64 x.1) ∧ w.cell? ⟨b, o + j * 5 + 1, none⟩ = some (.int .i64 x.2.r0) ∧ w.cell? ⟨b, o + j * 5 + 2, none⟩ = some (.int .i64 x.2.r1) ∧ w.cell? ⟨b, o + j * 5 + 3, none⟩ = some (.int .i64 x.2.r2) ∧ w.cell? ⟨b, o + j * 5 + 4, none⟩ = some (.int .i64 x.2.r3) :=
  ⟨hc j _ h 0 _ rfl, hc j _ h 1 _ rfl, hc j _ h 2 _ rfl, hc j _ h 3 _ rfl, hc j _ h 4 _ rfl⟩
theorem trcN_length (p : List Ln) (f : Nat → Option Int) : ∀ (n i : Nat) (s : St), (trcN p f n i s).1.length ≤ n
  | 0, _, _ => by simp [trcN]
  | n + 1, i, s => by
    simp only [trcN]
    split
    · simp
    · have := trcN_length p f n (nextI (by assumption) i s) (stepS f (by assumption) i s)
      simp only [List.length_cons]; omega
theorem visits_length (p : List Ln) (s : List Int) : (visits p s).length ≤ p.length := by
  unfold visits trc; exact trcN_length _ _ _ _ _
/-- The state before a line, its error. -/
def befE (p : List Ln) (s : List Int) (line : Int) : Int := if chk p s = 0 then (if inB line 0 (p.length - 1) then 0 else 4) else chk p s
def befO (p : List Ln) (s : List Int) (line : Int) : Option St := if befE p s line = 0 then ((visits p s).find? fun v => (v.1 : Int) == line).map (·.2) else none
def optL (o : Option St) : List Int := (o.map St.toL).getD []

/-! ### The block of a state -/
def arrS (s : St) : Array Value := #[.int .i64 s.r0, .int .i64 s.r1, .int .i64 s.r2, .int .i64 s.r3]
theorem arr_cell {w : World} {b : Nat} {s : St} {e : TypeId} (h : w.heap[b]? = some (.cells (arrS s) e (0, 0))) (r : Int) (h0 : 0 ≤ r) (h3 : r ≤ 3) : w.cell? ⟨b, r.toNat, none⟩ = some (.int .i64 (s.get r)) := by
  have : r = 0 ∨ r = 1 ∨ r = 2 ∨ r = 3 := by omega
  rcases this with rfl | rfl | rfl | rfl <;> simp [World.cell?, h, arrS, St.get]
theorem arr_cells {w : World} {b : Nat} {s : St} {e : TypeId} (h : w.heap[b]? = some (.cells (arrS s) e (0, 0))) :
    w.cell? ⟨b, 0, none⟩ = some (.int .i64 s.r0) ∧ w.cell? ⟨b, 1, none⟩ = some (.int .i64 s.r1) ∧ w.cell? ⟨b, 2, none⟩ = some (.int .i64 s.r2) ∧ w.cell? ⟨b, 3, none⟩ = some (.int .i64 s.r3) := by
  simp [World.cell?, h, arrS]
theorem arr_free {w : World} {b : Nat} {s : St} {e : TypeId} (h : w.heap[b]? = some (.cells (arrS s) e (0, 0))) (o : Nat) : w.frozen? ⟨b, o, none⟩ = false := by
  simp [World.frozen?, h]
theorem arr_set {w : World} {b : Nat} {s : St} {e : TypeId} (h : w.heap[b]? = some (.cells (arrS s) e (0, 0))) (r n : Int) (h0 : 0 ≤ r) (h3 : r ≤ 3) :
    (w.setCell ⟨b, r.toNat, none⟩ (.int .i64 n)).heap[b]? = some (.cells (arrS (s.set r n)) e (0, 0)) := by
  rw [heap_setCell_same w b _ _ e _ h]
  have : r = 0 ∨ r = 1 ∨ r = 2 ∨ r = 3 := by omega
  rcases this with rfl | rfl | rfl | rfl <;> rfl
/-- The four stores of a whole state. -/
def fillS (w : World) (b : Nat) (q : St) : World :=
  ((((w.setCell ⟨b, 0, none⟩ (.int .i64 q.r0)).setCell ⟨b, 1, none⟩ (.int .i64 q.r1)).setCell ⟨b, 2, none⟩ (.int .i64 q.r2)).setCell ⟨b, 3, none⟩ (.int .i64 q.r3)).drew
theorem arr_fill {w : World} {b : Nat} {s : St} {e : TypeId} (h : w.heap[b]? = some (.cells (arrS s) e (0, 0))) (q : St) : (fillS w b q).heap[b]? = some (.cells (arrS q) e (0, 0)) := by
  have h1 := arr_set h 0 q.r0 (by omega) (by omega)
  have h2 := arr_set h1 1 q.r1 (by omega) (by omega)
  have h3 := arr_set h2 2 q.r2 (by omega) (by omega)
  have h4 := arr_set h3 3 q.r3 (by omega) (by omega)
  exact h4
/-- Two numbers, sorted, each once. -/
def two (a b : Int) : List Int := if a = b then [a] else if a < b then [a, b] else [b, a]
end Go.Proofs.YtmlbgfnddgbpbaaGreat

namespace Go.Proofs.YtmlbgfnddgbpbaaGreat
open Go.RowKit

/-- A whole list appended to a list that the call has made. -/
theorem wpList_appAll {P : Program} {α : Type} (w : World) {ops : Array Oper} {rest : List Oper} {o : Oper} {a : Act} {Q : Exit → Act → World → Prop} (hgd : o.guard = none) (s x : Operand) (t : TypeId)
    (ho : o.op = .call { callee := .builtin .append, args := #[s, x], argTypes := #[t, t] })
    (base : Nat) (e : TypeId) {k bytes : Nat} {z : Value} (ht : P.underlying t = some (.slice e)) (info : (P.info? e).map (fun i => (i.zero, i.size, i.bytes)) = some (some z, k, bytes))
    (hzs : z.cells.size = k) (hk : 0 < k) (hby : bytes ≤ 1000)
    (enc : α → List Value) (hen : ∀ x, (enc x).length = k) (h1 : ∀ x, ∀ u ∈ enc x, u.oneCell' = true)
    (v : Value) (xs : List α) (hs : a.eval s = v) (hown : w.ownsRow base e k v xs.length (xs.flatMap enc)) (u : Value) (ys : List α) (hx : a.eval x = u) (hsrc : SlcAt k enc w u ys)
    (hn : xs.length + ys.length < 100000000000) (hbase : base ≤ w.heap.size)
    (h : ∀ v' w', w'.ownsRow base e k v' (xs ++ ys).length ((xs ++ ys).flatMap enc) → w.grownBy w' v.ownBlock → wpList P ops Q rest (a.put o.dst v') w') : wpList P ops Q (o :: rest) a w := by
  obtain ⟨i, hi, hz0, hz1, hz2⟩ := info_parts info
  obtain ⟨ao, c, rfl, h2, h3, h4⟩ := hsrc
  cases ao with
  | none =>
    have hys : ys = [] ∧ c = 0 := by
      rcases h4 with ⟨h4, h5⟩ | ⟨b, o, h4, _⟩
      · exact ⟨h4, h5 rfl⟩
      · cases h4
    obtain ⟨rfl, rfl⟩ := hys
    refine wpList_plain hgd fun K hK' => ?_
    have hrun := run_append_owned_none (P := P) w base t o.type e i k ht hi v xs.length (xs.flatMap enc) hown
    unfold Oper.wp
    simp only [List.length_nil] at hx
    simp [execOp, ho, resolve, invoke, builtin, hs, hx, hrun, Result.andThen]
    exact hK' _ _ (h v w (by simpa using hown) (World.grownBy.refl _ _))
  | some ad =>
    refine wpList_append_own w hgd s x t ho base e i z k bytes ht hi hz0 hz1 hz2 hzs hk v xs.length (xs.flatMap enc) hs hown ad ys.length c (ys.flatMap enc) hx (flatMap_length hen ys) ?_ ?_ (by unfold maxLen; omega) ?_ hbase ?_
    · rcases h4 with ⟨h4, _⟩ | ⟨b, o', h4, hb, hc⟩
      · subst h4; intro j u hj; simp at hj
      · cases h4
        intro j u hj
        have hjl : j < ys.length * k := by rw [← flatMap_length hen ys]; exact (List.getElem?_eq_some_iff.1 hj).1
        have hq : j / k < ys.length := Nat.div_lt_of_lt_mul (by rw [Nat.mul_comm]; exact hjl)
        obtain ⟨y, hy⟩ : ∃ y, ys[j / k]? = some y := ⟨_, List.getElem?_eq_getElem hq⟩
        have hr : j % k < k := Nat.mod_lt _ hk
        have hf := flatMap_getElem? hen ys (j / k) y hy (j % k) hr
        have hdm : j / k * k + j % k = j := by rw [Nat.mul_comm]; exact Nat.div_add_mod j k
        rw [hdm, hj] at hf
        have := hc (j / k) y hy (j % k) u hf.symm
        rw [Addr.add_lit]
        rw [Nat.add_assoc, hdm] at this
        exact this
    · intro u hu
      obtain ⟨y, _, hy⟩ := List.mem_flatMap.1 hu
      exact h1 y u hy
    · exact Nat.le_trans (Nat.mul_le_mul (show xs.length + ys.length ≤ 100000000000 by omega) hby) (by decide)
    · intro v' w' a1 a2 _
      refine h v' w' ?_ a2
      rw [List.length_append, List.flatMap_append]
      exact a1

theorem encI_one (n : Int) : ∀ u ∈ encI n, u.oneCell' = true := by intro u hu; simp [encI] at hu; subst hu; rfl
theorem encL_one (l : Ln) : ∀ u ∈ encL l, u.oneCell' = true := by
  intro u hu; simp [encL] at hu; rcases hu with rfl | rfl | rfl | rfl <;> rfl

/-- An empty list in a block of its own. -/
theorem ownsRow_empty {α : Type} (w : World) (k : Nat) (e : TypeId) (enc : α → List Value) (base : Nat) (hb : base ≤ w.heap.size) : (w.alloc (.cells #[] e)).ownsRow base e k (.slice (some ⟨w.heap.size, 0, none⟩) 0 0) ([] : List α).length (([] : List α).flatMap enc) := by
  have := World.ownsRow_made (base := base) (e := e) (size := k) w #[] 0 hb (by simp [maxLen]) (by simp)
  exact this

/-- A slice value whose block, if it has one, is at or above base. -/
def NewS (base : Nat) (v : Value) : Prop := ∀ a n c, v = .slice (some a) n c → base ≤ a.block
theorem NewS.mono {base base' : Nat} {v : Value} (h : NewS base v) (hb : base' ≤ base) : NewS base' v := fun a n c e => Nat.le_trans hb (h a n c e)
theorem NewS.nil (base n c : Nat) : NewS base (.slice none n c) := by intro a n c e; cases e
theorem NewS.of_own {α : Type} {k : Nat} {enc : α → List Value} {base : Nat} {w : World} {v : Value} {xs : List α} (h : Own k enc base w v xs) : NewS base v := by
  obtain ⟨e, h1, h2⟩ := h
  intro a n c ev
  rcases h2 with ⟨rfl, _⟩ | ⟨g, cap, cur, rfl, hb, _⟩
  · cases ev
  · cases ev; exact hb

end Go.Proofs.YtmlbgfnddgbpbaaGreat

namespace Go.Proofs.YtmlbgfnddgbpbaaGreat
open Go.RowKit

/-- A test: the value of its list as it lies in memory, the list itself, the register and the number. -/
structure Tst where
  v : Value
  xs : List Int
  o : Int
  wt : Int
def encTs (t : Tst) : List Value := [t.v, .int .i64 t.o, .int .i64 t.wt]
theorem encTs_len (t : Tst) : (encTs t).length = 3 := rfl
/-- The slice value v holds the tests ts, and each list that they lead to. -/
structure TestsAt (w : World) (v : Value) (ts : List Tst) : Prop where
  at_ : SlcAt 3 encTs w v ts
  ins : ∀ t ∈ ts, IntsAt w t.v t.xs
theorem TestsAt.grow {w w' : World} {v : Value} {ts : List Tst} (h : TestsAt w v ts) (g : Grow w w') : TestsAt w' v ts := ⟨h.at_.grow g, fun t ht => (h.ins t ht).grow g⟩
theorem TestsAt.nil (w : World) : TestsAt w (.slice none 0 0) [] := ⟨SlcAt.nil _ _ _, by simp⟩
theorem tests_at {w : World} {a : Option Addr} {n c : Nat} {ts : List Tst} (h : SlcAt 3 encTs w (.slice a n c) ts) {k : Nat} {t : Tst} (hx : ts[k]? = some t) : ∃ b o, a = some ⟨b, o, none⟩ ∧ b < w.heap.size ∧
    w.cell? ⟨b, o + k * 3, none⟩ = some t.v ∧ w.cell? ⟨b, o + k * 3 + 1, none⟩ = some (.int .i64 t.o) ∧ w.cell? ⟨b, o + k * 3 + 2, none⟩ = some (.int .i64 t.wt) := by
  obtain ⟨_, _, e, _, _, h⟩ := h
  cases e
  obtain ⟨b, o, rfl, hb, hc⟩ := h.resolve_left (by intro h0; rw [h0.1] at hx; simp at hx)
  exact ⟨b, o, rfl, hb, hc k t hx 0 _ rfl, hc k t hx 1 _ rfl, hc k t hx 2 _ rfl⟩
def Tst.ok (t : Tst) : Bool := decide (valS t.xs = 0) && inB t.o 0 3 && inB t.wt (-999) 999
/-- The errors of tests. -/
def valT (ts : List Tst) : Int := if 8 < ts.length then 3 else errB (ts.all Tst.ok)
theorem valT_ok {ts : List Tst} : valT ts = 0 ↔ ts.length ≤ 8 ∧ ∀ t ∈ ts, t.ok = true := by
  unfold valT errB
  by_cases h : 8 < ts.length
  · simp only [h, if_true]
    exact ⟨fun h => (by cases h), fun h2 => (by omega)⟩
  · simp only [h, if_false]
    cases hp : ts.all Tst.ok
    · simp only [Bool.false_eq_true, if_false]
      constructor
      · intro h; cases h
      · rintro ⟨_, h2⟩; rw [List.all_eq_true.2 h2] at hp; cases hp
    · simp only [if_true, true_iff]
      exact ⟨by omega, List.all_eq_true.1 hp⟩
theorem Tst.ok_iff {t : Tst} : t.ok = true ↔ valS t.xs = 0 ∧ (0 ≤ t.o ∧ t.o ≤ 3) ∧ (-999 ≤ t.wt ∧ t.wt ≤ 999) := by
  unfold Tst.ok
  rw [Bool.and_eq_true, Bool.and_eq_true, decide_eq_true_eq, inB_true, inB_true, and_assoc]
/-- What a register is at the end. -/
def endM (p : List Ln) (xs : List Int) (o : Int) : Int := ((runM p xs)[o.toNat]?).getD 0
def passM (p : List Ln) (t : Tst) : Bool := decide (endM p t.xs t.o = t.wt)
/-- The errors of a program and tests. -/
def chkT (p : List Ln) (ts : List Tst) : Int := if valP p = 0 then valT ts else valP p
theorem chkT_ok {p : List Ln} {ts : List Tst} : chkT p ts = 0 ↔ valP p = 0 ∧ valT ts = 0 := by
  unfold chkT; by_cases h : valP p = 0 <;> simp [h]
/-- The places of what has a property. -/
def whereL {α : Type} (f : α → Bool) (ts : List α) : List Int := (List.range ts.length).filterMap fun k : Nat => match ts[k]? with | some t => if f t then some (k : Int) else none | none => none
def whereN {α : Type} (f : α → Bool) (ts : List α) (n : Nat) : List Int := (List.range n).filterMap fun k : Nat => match ts[k]? with | some t => if f t then some (k : Int) else none | none => none
theorem whereN_succ {α : Type} {f : α → Bool} {ts : List α} {k : Nat} {t : α} (h : ts[k]? = some t) : whereN f ts (k + 1) = whereN f ts k ++ if f t then [(k : Int)] else [] := by
  unfold whereN
  rw [List.range_succ, List.filterMap_append]
  simp only [List.filterMap_cons, List.filterMap_nil, h]
  cases f t <;> rfl
theorem whereN_all {α : Type} (f : α → Bool) (ts : List α) : whereN f ts ts.length = whereL f ts := rfl
theorem whereN_len {α : Type} (f : α → Bool) (ts : List α) (n : Nat) : (whereN f ts n).length ≤ n := by
  unfold whereN
  exact Nat.le_trans (List.length_filterMap_le _ _) (by simp)
theorem mem_whereL {α : Type} {f : α → Bool} {ts : List α} {i : Int} : i ∈ whereL f ts ↔ ∃ (k : Nat) (t : α), i = k ∧ ts[k]? = some t ∧ f t = true := by
  unfold whereL
  rw [List.mem_filterMap]
  constructor
  · rintro ⟨k, hk, h⟩
    have hlt : k < ts.length := List.mem_range.1 hk
    rw [List.getElem?_eq_getElem hlt] at h
    dsimp only at h
    split at h
    · next hf => exact ⟨k, _, (Option.some.inj h).symm, List.getElem?_eq_getElem hlt, hf⟩
    · cases h
  · rintro ⟨k, t, rfl, ht, hf⟩
    refine ⟨k, List.mem_range.2 (List.getElem?_eq_some_iff.1 ht).1, ?_⟩
    rw [ht]
    simp [hf]
theorem runM_length (p : List Ln) (s : List Int) : (runM p s).length = 4 := rfl
end Go.Proofs.YtmlbgfnddgbpbaaGreat

namespace Go.Proofs.YtmlbgfnddgbpbaaGreat

/-- How many registers a line reads. -/
def rdN (op : Int) : Int := if op = 2 then 1 else if 3 ≤ op then 2 else 0
def rdL (op a b : Int) : List Int := if op = 2 then [a] else if 3 ≤ op then two a b else []
end Go.Proofs.YtmlbgfnddgbpbaaGreat

namespace Go.Proofs.YtmlbgfnddgbpbaaGreat
open Go.RowKit

/-- Which registers matter. -/
structure Ms where
  b0 : Bool
  b1 : Bool
  b2 : Bool
  b3 : Bool
deriving DecidableEq
def Ms.get (s : Ms) (r : Int) : Bool := if r = 0 then s.b0 else if r = 1 then s.b1 else if r = 2 then s.b2 else s.b3
def Ms.set (s : Ms) (r : Int) (n : Bool) : Ms := if r = 0 then { s with b0 := n } else if r = 1 then { s with b1 := n } else if r = 2 then { s with b2 := n } else { s with b3 := n }
def arrM (s : Ms) : Array Value := #[.bool s.b0, .bool s.b1, .bool s.b2, .bool s.b3]
theorem arrM_cell {w : World} {b : Nat} {s : Ms} {e : TypeId} (h : w.heap[b]? = some (.cells (arrM s) e (0, 0))) (r : Int) (h0 : 0 ≤ r) (h3 : r ≤ 3) : w.cell? ⟨b, r.toNat, none⟩ = some (.bool (s.get r)) := by
  have : r = 0 ∨ r = 1 ∨ r = 2 ∨ r = 3 := by omega
  rcases this with rfl | rfl | rfl | rfl <;> simp [World.cell?, h, arrM, Ms.get]
theorem arrM_free {w : World} {b : Nat} {s : Ms} {e : TypeId} (h : w.heap[b]? = some (.cells (arrM s) e (0, 0))) (o : Nat) : w.frozen? ⟨b, o, none⟩ = false := by
  simp [World.frozen?, h]
theorem arrM_set {w : World} {b : Nat} {s : Ms} {e : TypeId} (h : w.heap[b]? = some (.cells (arrM s) e (0, 0))) (r : Int) (n : Bool) (h0 : 0 ≤ r) (h3 : r ≤ 3) :
    (w.setCell ⟨b, r.toNat, none⟩ (.bool n)).heap[b]? = some (.cells (arrM (s.set r n)) e (0, 0)) := by
  rw [heap_setCell_same w b _ _ e _ h]
  have : r = 0 ∨ r = 1 ∨ r = 2 ∨ r = 3 := by omega
  rcases this with rfl | rfl | rfl | rfl <;> rfl

def wrT' (op d : Int) : Int := if wrB op then d else 0
/-- A line that is met on the way back: which registers matter now, and what is in the slice so far. -/
def sliceStep (p : List Ln) (acc : Ms × List Int) (v : Nat × St) : Ms × List Int :=
  match p[v.1]? with
  | none => acc
  | some l => if l.op ≠ 7 ∧ (wrB l.op = false ∨ acc.1.get l.d = false) then acc
    else ((rdL l.op l.a l.b).foldl (fun m r => m.set r true) (if wrB l.op then acc.1.set l.d false else acc.1), acc.2 ++ [(v.1 : Int)])
def sliceM (p : List Ln) (s : List Int) (r : Int) : List Int := ((visits p s).reverse.foldl (sliceStep p) (Ms.set ⟨false, false, false, false⟩ r true, [])).2.reverse
def sliceE (p : List Ln) (s : List Int) (r : Int) : Int := if chk p s = 0 then (if inB r 0 3 then 0 else 1) else chk p s

theorem ok_rd {op d a b : Int} (h : Ln.ok ⟨op, d, a, b⟩ = true) : 0 ≤ op ∧ op ≤ 7 ∧ (wrB op = true → 0 ≤ d ∧ d ≤ 3) ∧ ∀ r ∈ rdL op a b, 0 ≤ r ∧ r ≤ 3 := by
  unfold Ln.ok vL at h
  simp only [inB_def] at h
  have two_mem : ∀ r ∈ two a b, r = a ∨ r = b := by
    intro r hr
    unfold two at hr
    split at hr
    · simp at hr; exact .inl hr
    · split at hr <;> simp at hr <;> omega
  split at h
  · subst_vars; simp [wrB, inB_def, rdL]
  · split at h
    · subst_vars
      simp at h
      refine ⟨by omega, by omega, fun _ => by omega, ?_⟩
      simp [rdL]
    · split at h
      · subst_vars
        simp at h
        refine ⟨by omega, by omega, fun _ => by omega, ?_⟩
        simp [rdL]; omega
      · split at h
        · simp at h
          refine ⟨by omega, by omega, fun _ => by omega, ?_⟩
          intro r hr
          rw [show rdL op a b = two a b by unfold rdL; rw [if_neg (by omega), if_pos (by omega)]] at hr
          rcases two_mem r hr with rfl | rfl <;> omega
        · split at h
          · subst_vars
            simp at h
            refine ⟨by omega, by omega, fun hw => by simp [wrB, inB_def] at hw, ?_⟩
            intro r hr
            rw [show rdL 7 a b = two a b by simp [rdL]] at hr
            rcases two_mem r hr with rfl | rfl <;> omega
          · cases h

theorem trcN_lt (p : List Ln) (f : Nat → Option Int) : ∀ (n i : Nat) (s : St) (v : Nat × St), v ∈ (trcN p f n i s).1 → v.1 < p.length
  | 0, _, _, v, h => by simp [trcN] at h
  | n + 1, i, s, v, h => by
    cases hl : p[i]? with
    | none => simp [trcN, hl] at h
    | some l =>
      simp only [trcN, hl, List.mem_cons] at h
      rcases h with rfl | h
      · exact (List.getElem?_eq_some_iff.1 hl).1
      · exact trcN_lt p f n _ _ v h
theorem visits_lt (p : List Ln) (s : List Int) (v : Nat × St) (h : v ∈ visits p s) : v.1 < p.length := trcN_lt p noF _ _ _ v h

/-- What comes in a round of the walk back. -/
def vAt (vs : List (Nat × St)) (j : Fin vs.length) : Nat × St := vs[vs.length - 1 - j.1]'(by have := j.2; omega)
/-- How a walk back stands behind some rounds. -/
def backAcc (p : List Ln) (vs : List (Nat × St)) (m : Ms) (js : List (Fin vs.length)) : Ms × List Int := js.foldl (fun acc j => sliceStep p acc (vAt vs j)) (m, [])
theorem backAcc_snoc (p : List Ln) (vs : List (Nat × St)) (m : Ms) (js : List (Fin vs.length)) (j : Fin vs.length) : backAcc p vs m (js ++ [j]) = sliceStep p (backAcc p vs m js) (vAt vs j) := by
  simp [backAcc]
theorem sliceStep_le (p : List Ln) (acc : Ms × List Int) (v : Nat × St) : (sliceStep p acc v).2.length ≤ acc.2.length + 1 := by
  unfold sliceStep
  split
  · omega
  · split
    · omega
    · simp
theorem backAcc_le (p : List Ln) (vs : List (Nat × St)) : ∀ (js : List (Fin vs.length)) (acc : Ms × List Int), (js.foldl (fun acc j => sliceStep p acc (vAt vs j)) acc).2.length ≤ acc.2.length + js.length
  | [], acc => by simp
  | j :: js, acc => by
    have h1 := backAcc_le p vs js (sliceStep p acc (vAt vs j))
    have h2 := sliceStep_le p acc (vAt vs j)
    simp only [List.foldl_cons, List.length_cons]
    omega
theorem backAcc_len (p : List Ln) (vs : List (Nat × St)) (m : Ms) (js : List (Fin vs.length)) : (backAcc p vs m js).2.length ≤ js.length := by
  have := backAcc_le p vs js (m, [])
  simpa [backAcc] using this
theorem back_all (vs : List (Nat × St)) : (List.finRange vs.length).map (vAt vs) = vs.reverse := by
  apply List.ext_getElem
  · simp
  · intro i h1 h2
    simp [vAt]
theorem backAcc_all (p : List Ln) (vs : List (Nat × St)) (m : Ms) : backAcc p vs m (List.finRange vs.length) = vs.reverse.foldl (sliceStep p) (m, []) := by
  rw [← back_all, List.foldl_map]; rfl
theorem fin_take (n k : Nat) (h : k < n) : (List.finRange n).take (k + 1) = (List.finRange n).take k ++ [⟨k, h⟩] := by
  rw [List.take_add_one]
  simp [h]
/-- The two values of a round. -/
def encB (vs : List (Nat × St)) (j : Fin vs.length) : Array Value := #[.int .i64 ((vs.length - 1 - j : Nat) : Int), .agg (encV (vAt vs j)).toArray]
theorem encB_at (vs : List (Nat × St)) (m k : Nat) (h : vs.length = m + 1 + k) (hk : k < vs.length) (x : Nat × St) (hx : vs[m]? = some x) : encB vs ⟨k, hk⟩ = #[.int .i64 (m : Int), .agg #[.int .i64 x.1, .int .i64 x.2.r0, .int .i64 x.2.r1, .int .i64 x.2.r2, .int .i64 x.2.r3]] := by
  have e : vs.length - 1 - k = m := by omega
  obtain ⟨hm, hx'⟩ := List.getElem?_eq_some_iff.1 hx
  subst hx'
  simp [encB, vAt, e, encV]
/-- Two blocks lie as they lay. -/
def KeepAt (b b' : Nat) (A B : World) : Prop := B.heap[b]? = A.heap[b]? ∧ B.heap[b']? = A.heap[b']?
theorem KeepAt.refl (b b' : Nat) (A : World) : KeepAt b b' A A := ⟨rfl, rfl⟩
theorem KeepAt.trans {b b' : Nat} {A B C : World} (h : KeepAt b b' A B) (k : KeepAt b b' B C) : KeepAt b b' A C := ⟨k.1.trans h.1, k.2.trans h.2⟩
theorem KeepAt.of_grow {b b' : Nat} {A B : World} (h : Grow A B) (hb : b < A.heap.size) (hb' : b' < A.heap.size) : KeepAt b b' A B := ⟨h.heap hb, h.heap hb'⟩
theorem cell_of_heap {A B : World} {b : Nat} (h : B.heap[b]? = A.heap[b]?) {o : Nat} {v : Value} (hc : A.cell? ⟨b, o, none⟩ = some v) : B.cell? ⟨b, o, none⟩ = some v := by
  simp only [World.cell?, h] at hc ⊢; exact hc
end Go.Proofs.YtmlbgfnddgbpbaaGreat

namespace Go.Proofs.YtmlbgfnddgbpbaaGreat
open Go.RowKit

def encT (b : Bool) : List Value := [.bool b]
theorem encT_len (b : Bool) : (encT b).length = 1 := rfl
abbrev BoolsAt (w : World) (v : Value) (bs : List Bool) : Prop := SlcAt 1 encT w v bs
theorem bools_cell {w : World} {b o : Nat} {xs : List Bool} (hc : ∀ j x, xs[j]? = some x → ∀ i u, (encT x)[i]? = some u → w.cell? ⟨b, o + j * 1 + i, none⟩ = some u) (j : Nat) (x : Bool) (h : xs[j]? = some x) : w.cell? ⟨b, o + j, none⟩ = some (.bool x) := by
  simpa using hc j x h 0 _ rfl

/-- The numbers of what is true, up to k. -/
def setN (bs : List Bool) (k : Nat) : List Int := ((List.range k).filter fun i => bs.getD i false).map Int.ofNat
def setL (bs : List Bool) : List Int := setN bs bs.length
theorem setN_zero (bs : List Bool) : setN bs 0 = [] := rfl
theorem setN_true {bs : List Bool} {k : Nat} (h : bs[k]? = some true) : setN bs (k + 1) = setN bs k ++ [(k : Int)] := by
  simp [setN, List.range_succ, List.filter_append, List.getD_eq_getElem?_getD, h]
theorem setN_false {bs : List Bool} {k : Nat} (h : bs[k]? = some false) : setN bs (k + 1) = setN bs k := by
  simp [setN, List.range_succ, List.filter_append, List.getD_eq_getElem?_getD, h]
theorem setN_len (bs : List Bool) (k : Nat) : (setN bs k).length ≤ k := by
  unfold setN
  rw [List.length_map]
  exact Nat.le_trans (List.length_filter_le _ _) (by simp)

/-- Which registers a line reads. -/
def rdM (op a b : Int) : Ms := (if 3 ≤ op then (if 2 ≤ op then (Ms.set ⟨false, false, false, false⟩ a true) else ⟨false, false, false, false⟩).set b true else if 2 ≤ op then Ms.set ⟨false, false, false, false⟩ a true else ⟨false, false, false, false⟩)
def Ms.toL (m : Ms) : List Bool := [m.b0, m.b1, m.b2, m.b3]
theorem set_rdM (op a b : Int) (h2 : 2 ≤ op → 0 ≤ a ∧ a ≤ 3) (h3 : 3 ≤ op → 0 ≤ b ∧ b ≤ 3) : setL (rdM op a b).toL = rdL op a b := by
  by_cases h : 3 ≤ op
  · obtain ⟨a0, a3⟩ := h2 (by omega)
    obtain ⟨b0, b3⟩ := h3 h
    have e1 : rdL op a b = two a b := by unfold rdL; rw [if_neg (by omega), if_pos (by omega)]
    have e2 : rdM op a b = (Ms.set ⟨false, false, false, false⟩ a true).set b true := by unfold rdM; rw [if_pos h, if_pos (by omega)]
    rw [e1, e2]
    have : a = 0 ∨ a = 1 ∨ a = 2 ∨ a = 3 := by omega
    have : b = 0 ∨ b = 1 ∨ b = 2 ∨ b = 3 := by omega
    rcases ‹a = 0 ∨ _› with rfl | rfl | rfl | rfl <;> rcases ‹b = 0 ∨ _› with rfl | rfl | rfl | rfl <;> decide
  · by_cases g : 2 ≤ op
    · obtain ⟨a0, a3⟩ := h2 g
      have e1 : rdL op a b = [a] := by unfold rdL; rw [if_pos (by omega)]
      have e2 : rdM op a b = Ms.set ⟨false, false, false, false⟩ a true := by unfold rdM; rw [if_neg h, if_pos g]
      rw [e1, e2]
      have : a = 0 ∨ a = 1 ∨ a = 2 ∨ a = 3 := by omega
      rcases this with rfl | rfl | rfl | rfl <;> decide
    · have e1 : rdL op a b = [] := by unfold rdL; rw [if_neg (by omega), if_neg h]
      have e2 : rdM op a b = ⟨false, false, false, false⟩ := by unfold rdM; rw [if_neg h, if_neg g]
      rw [e1, e2]; decide
theorem ok_args {op d a b : Int} (h : vL op d a b = true) : (2 ≤ op → 0 ≤ a ∧ a ≤ 3) ∧ (3 ≤ op → 0 ≤ b ∧ b ≤ 3) := by
  unfold vL at h
  simp only [inB_def] at h
  split at h
  · exact ⟨fun _ => by omega, fun _ => by omega⟩
  · split at h
    · exact ⟨fun _ => by omega, fun _ => by omega⟩
    · split at h
      · simp at h; exact ⟨fun _ => by omega, fun _ => by omega⟩
      · split at h
        · simp at h; exact ⟨fun _ => by omega, fun _ => by omega⟩
        · split at h
          · simp at h; exact ⟨fun _ => by omega, fun _ => by omega⟩
          · cases h
theorem wrB_of_ok {op d a b : Int} (h : vL op d a b = true) : (!(op == 0) && !(op == 7)) = wrB op := by
  obtain ⟨h0, h7, _⟩ := ok_rd (show Ln.ok ⟨op, d, a, b⟩ = true from h)
  by_cases e0 : op = 0
  · subst e0; rfl
  · by_cases e7 : op = 7
    · subst e7; rfl
    · have : wrB op = true := by unfold wrB; rw [inB_true]; omega
      rw [this]; simp [e0, e7]
end Go.Proofs.YtmlbgfnddgbpbaaGreat

namespace Go.Proofs.YtmlbgfnddgbpbaaGreat
open Go.RowKit

/-- The state at the end of a run from a line on. -/
def endS (p : List Ln) (i : Nat) (s : St) : St := (trc p noF i s).2
theorem endS_end {p : List Ln} {i : Nat} {s : St} (h : p.length ≤ i) : endS p i s = s := by unfold endS; rw [trc_end h]
theorem endS_step {p : List Ln} {i : Nat} {s : St} {l : Ln} (h : p[i]? = some l) : endS p i s = endS p (nextI l i s) (stepS noF l i s) := by unfold endS; rw [trc_step h]
theorem stepS_noF (l : Ln) (i j : Nat) (s : St) : stepS noF l i s = stepS noF l j s := rfl
theorem runM_eq (p : List Ln) (s : List Int) : runM p s = (endS p 0 (St.ofL s)).toL := rfl
theorem endS_fineN (p : List Ln) : ∀ (n i : Nat) (s : St), p.length ≤ i + n → s.fine → (endS p i s).fine
  | 0, i, s, h, hs => by rw [endS_end (by omega)]; exact hs
  | n + 1, i, s, h, hs => by
    cases hl : p[i]? with
    | none => rw [endS_end (List.getElem?_eq_none_iff.1 hl)]; exact hs
    | some l =>
      rw [endS_step hl]
      have := nextI_gt l i s
      exact endS_fineN p n _ _ (by omega) (stepS_fine _ _ _ hs)
theorem endS_fine (p : List Ln) (s : St) (hs : s.fine) : (endS p 0 s).fine := endS_fineN p _ 0 s (Nat.le_add_left _ _) hs
theorem valS_of_fine {s : St} (h : s.fine) : valS s.toL = 0 := by
  obtain ⟨h0, h1, h2, h3⟩ := h
  refine valS_ok.2 ⟨rfl, fun n hn => ?_⟩
  simp [St.toL] at hn
  rcases hn with rfl | rfl | rfl | rfl
  · exact h0
  · exact h1
  · exact h2
  · exact h3
theorem valS_runM (p : List Ln) (s : List Int) (h : valS s = 0) : valS (runM p s) = 0 := by
  obtain ⟨q, rfl, hq⟩ := St.of_valS h
  rw [runM_eq, St.ofL_toL]
  exact valS_of_fine (endS_fine p q hq)

theorem endS_shift (p q : List Ln) : ∀ (n j : Nat) (s : St), q.length ≤ j + n → endS (p ++ q) (p.length + j) s = endS q j s
  | 0, j, s, h => by rw [endS_end (by simp; omega), endS_end (by omega)]
  | n + 1, j, s, h => by
    cases hl : q[j]? with
    | none =>
      have : q.length ≤ j := List.getElem?_eq_none_iff.1 hl
      rw [endS_end (by simp; omega), endS_end this]
    | some l =>
      have hl2 : (p ++ q)[p.length + j]? = some l := by rw [List.getElem?_append_right (by omega)]; simpa using hl
      rw [endS_step hl, endS_step hl2, stepS_noF l (p.length + j) j]
      have e : nextI l (p.length + j) s = p.length + nextI l j s := by unfold nextI; split <;> omega
      have := nextI_gt l j s
      rw [e]
      exact endS_shift p q n _ _ (by omega)

theorem endS_join (p q : List Ln) (hs : ∀ i l, p[i]? = some l → l.op = 7 → i + 1 + l.d.toNat ≤ p.length) : ∀ (n i : Nat) (s : St), p.length ≤ i + n → i ≤ p.length → endS (p ++ q) i s = endS q 0 (endS p i s)
  | 0, i, s, h, h2 => by
    obtain rfl : i = p.length := by omega
    rw [endS_end (p := p) (Nat.le_refl _)]
    exact endS_shift p q _ 0 s (Nat.le_add_left _ _)
  | n + 1, i, s, h, h2 => by
    cases hl : p[i]? with
    | none =>
      have : p.length ≤ i := List.getElem?_eq_none_iff.1 hl
      obtain rfl : i = p.length := by omega
      rw [endS_end (p := p) (Nat.le_refl _)]
      exact endS_shift p q _ 0 s (Nat.le_add_left _ _)
    | some l =>
      have hlt : i < p.length := (List.getElem?_eq_some_iff.1 hl).1
      have hl2 : (p ++ q)[i]? = some l := by rw [List.getElem?_append_left hlt]; exact hl
      rw [endS_step hl, endS_step hl2]
      have := nextI_gt l i s
      refine endS_join p q hs n _ _ (by omega) ?_
      unfold nextI
      split
      · next h7 => exact hs i l hl h7.1
      · omega
theorem runM_join (p q : List Ln) (s : List Int) (hs : ∀ i l, p[i]? = some l → l.op = 7 → i + 1 + l.d.toNat ≤ p.length) : runM (p ++ q) s = runM q (runM p s) := by
  rw [runM_eq, runM_eq, runM_eq, endS_join p q hs _ 0 _ (Nat.le_add_left _ _) (Nat.zero_le _), St.ofL_toL]
theorem valP_join {p q : List Ln} (h1 : valP p = 0) (h2 : valP q = 0) (h3 : p.length + q.length ≤ 8) : valP (p ++ q) = 0 := by
  refine valP_ok.2 ⟨by simpa using h3, fun l hl => ?_⟩
  rcases List.mem_append.1 hl with h | h
  · exact (valP_ok.1 h1).2 l h
  · exact (valP_ok.1 h2).2 l h
end Go.Proofs.YtmlbgfnddgbpbaaGreat

namespace Go.Proofs.YtmlbgfnddgbpbaaGreat
open Go.RowKit

def tch (l m : Ln) : Bool := wrB l.op && ((wrB m.op && m.d == l.d) || (rdL m.op m.a m.b).contains l.d)
def ind (l m : Ln) : Bool := !(l.op == 7) && !(m.op == 7) && !tch l m && !tch m l
/-- What Independent answers. -/
def indE (l m : Ln) : Int := if l.ok then errB m.ok else 1
def indB (l m : Ln) : Bool := l.ok && m.ok && ind l m
def rtch (l : Ln) (r : Int) : Bool := (rdM l.op l.a l.b).get r || (wrB l.op && l.d == r)
theorem get_rdM {l : Ln} (h : l.ok = true) (r : Int) (h0 : 0 ≤ r) (h3 : r ≤ 3) : (rdM l.op l.a l.b).get r = (rdL l.op l.a l.b).contains r := by
  obtain ⟨op, d, a, b⟩ := l
  obtain ⟨g2, g3⟩ := ok_args (op := op) (d := d) (a := a) (b := b) h
  dsimp only
  have hr : r = 0 ∨ r = 1 ∨ r = 2 ∨ r = 3 := by omega
  by_cases h : 3 ≤ op
  · obtain ⟨a0, a3⟩ := g2 (by omega)
    obtain ⟨b0, b3⟩ := g3 h
    have e1 : rdL op a b = two a b := by unfold rdL; rw [if_neg (by omega), if_pos (by omega)]
    have e2 : rdM op a b = (Ms.set ⟨false, false, false, false⟩ a true).set b true := by unfold rdM; rw [if_pos h, if_pos (by omega)]
    rw [e1, e2]
    have ha : a = 0 ∨ a = 1 ∨ a = 2 ∨ a = 3 := by omega
    have hb : b = 0 ∨ b = 1 ∨ b = 2 ∨ b = 3 := by omega
    rcases ha with rfl | rfl | rfl | rfl <;> rcases hb with rfl | rfl | rfl | rfl <;> rcases hr with rfl | rfl | rfl | rfl <;> decide
  · by_cases g : 2 ≤ op
    · obtain ⟨a0, a3⟩ := g2 g
      have e1 : rdL op a b = [a] := by unfold rdL; rw [if_pos (by omega)]
      have e2 : rdM op a b = Ms.set ⟨false, false, false, false⟩ a true := by unfold rdM; rw [if_neg h, if_pos g]
      rw [e1, e2]
      have ha : a = 0 ∨ a = 1 ∨ a = 2 ∨ a = 3 := by omega
      rcases ha with rfl | rfl | rfl | rfl <;> rcases hr with rfl | rfl | rfl | rfl <;> decide
    · have e1 : rdL op a b = [] := by unfold rdL; rw [if_neg (by omega), if_neg h]
      have e2 : rdM op a b = ⟨false, false, false, false⟩ := by unfold rdM; rw [if_neg h, if_neg g]
      rw [e1, e2]
      rcases hr with rfl | rfl | rfl | rfl <;> decide
theorem wr_reg {l : Ln} (h : l.ok = true) (hw : wrB l.op = true) : 0 ≤ l.d ∧ l.d ≤ 3 := (ok_rd (op := l.op) (d := l.d) (a := l.a) (b := l.b) h).2.2.1 hw
/-- The document's way to say it. -/
theorem tch_eq {l m : Ln} (hl : l.ok = true) (hm : m.ok = true) : (wrB l.op && rtch m l.d) = tch l m := by
  cases hw : wrB l.op with
  | false => simp [tch, hw]
  | true =>
    obtain ⟨h0, h3⟩ := wr_reg hl hw
    unfold tch rtch
    rw [hw, get_rdM hm _ h0 h3, Bool.or_comm]
theorem ind_comm (l m : Ln) : ind l m = ind m l := by
  unfold ind
  cases (l.op == 7) <;> cases (m.op == 7) <;> cases tch l m <;> cases tch m l <;> rfl
theorem indB_comm (l m : Ln) : indB l m = indB m l := by unfold indB; rw [ind_comm l m, Bool.and_comm l.ok m.ok]
theorem indE_comm (l m : Ln) : indE l m = indE m l := by
  unfold indE
  cases l.ok <;> cases m.ok <;> rfl
end Go.Proofs.YtmlbgfnddgbpbaaGreat

namespace Go.Proofs.YtmlbgfnddgbpbaaGreat
open Go.RowKit

theorem St.get_set_ne (s : St) (d r n : Int) (h : d ≠ r) (d0 : 0 ≤ d) (d3 : d ≤ 3) (r0 : 0 ≤ r) (r3 : r ≤ 3) : (s.set d n).get r = s.get r := by
  have hd : d = 0 ∨ d = 1 ∨ d = 2 ∨ d = 3 := by omega
  have hr : r = 0 ∨ r = 1 ∨ r = 2 ∨ r = 3 := by omega
  rcases hd with rfl | rfl | rfl | rfl <;> rcases hr with rfl | rfl | rfl | rfl <;> first | rfl | exact absurd rfl h
theorem St.get_set_eq (s : St) (d n : Int) (d0 : 0 ≤ d) (d3 : d ≤ 3) : (s.set d n).get d = n := by
  have hd : d = 0 ∨ d = 1 ∨ d = 2 ∨ d = 3 := by omega
  rcases hd with rfl | rfl | rfl | rfl <;> rfl
theorem St.set_comm (s : St) (d r n m : Int) (h : d ≠ r) (d0 : 0 ≤ d) (d3 : d ≤ 3) (r0 : 0 ≤ r) (r3 : r ≤ 3) : (s.set d n).set r m = (s.set r m).set d n := by
  have hd : d = 0 ∨ d = 1 ∨ d = 2 ∨ d = 3 := by omega
  have hr : r = 0 ∨ r = 1 ∨ r = 2 ∨ r = 3 := by omega
  rcases hd with rfl | rfl | rfl | rfl <;> rcases hr with rfl | rfl | rfl | rfl <;> first | rfl | exact absurd rfl h
theorem mem_two_a (a b : Int) : a ∈ two a b := by unfold two; split <;> (try split) <;> simp
theorem mem_two_b (a b : Int) : b ∈ two a b := by
  unfold two; split
  · next h => simp [h]
  · split <;> simp
/-- What a line makes depends on what it reads. -/
theorem opV_congr {op a b : Int} {s t : St} (hw : wrB op = true) (h : ∀ r ∈ rdL op a b, s.get r = t.get r) : opV op a (s.get a) (s.get b) = opV op a (t.get a) (t.get b) := by
  obtain ⟨w1, w6⟩ := inB_true.1 (show inB op 1 6 = true from hw)
  by_cases h1 : op = 1
  · subst h1; rfl
  · by_cases h2 : op = 2
    · subst h2
      have := h a (by simp [rdL])
      simpa [opV] using this
    · have e : rdL op a b = two a b := by unfold rdL; rw [if_neg h2, if_pos (by omega)]
      rw [e] at h
      rw [h a (mem_two_a a b), h b (mem_two_b a b)]
theorem stepS_of_wr {l : Ln} {i : Nat} {s : St} (h : wrB l.op = true) : stepS noF l i s = s.set l.d (cut (opV l.op l.a (s.get l.a) (s.get l.b))) := by
  unfold stepS; rw [if_pos h]; rfl
theorem stepS_of_not {l : Ln} {i : Nat} {s : St} (h : wrB l.op = false) : stepS noF l i s = s := by
  unfold stepS; rw [if_neg (by rw [h]; simp)]
theorem tch_false {l m : Ln} (h : tch l m = false) (hw : wrB l.op = true) : (wrB m.op = true → m.d ≠ l.d) ∧ l.d ∉ rdL m.op m.a m.b := by
  unfold tch at h
  rw [hw] at h
  simp at h
  exact ⟨h.1, h.2⟩
theorem rd_reg {l : Ln} (h : l.ok = true) : ∀ r ∈ rdL l.op l.a l.b, 0 ≤ r ∧ r ≤ 3 := (ok_rd (op := l.op) (d := l.d) (a := l.a) (b := l.b) h).2.2.2
theorem stepS_comm {l m : Ln} (hl : l.ok = true) (hm : m.ok = true) (hi : ind l m = true) (i j : Nat) (s : St) : stepS noF m j (stepS noF l i s) = stepS noF l i (stepS noF m j s) := by
  unfold ind at hi
  simp at hi
  obtain ⟨⟨_, t1⟩, t2⟩ := hi
  cases hwl : wrB l.op with
  | false => rw [stepS_of_not hwl, stepS_of_not hwl]
  | true =>
    cases hwm : wrB m.op with
    | false => rw [stepS_of_not hwm, stepS_of_not hwm]
    | true =>
      obtain ⟨u1, u2⟩ := tch_false t1 hwl
      obtain ⟨v1, v2⟩ := tch_false t2 hwm
      obtain ⟨l0, l3⟩ := wr_reg hl hwl
      obtain ⟨m0, m3⟩ := wr_reg hm hwm
      rw [stepS_of_wr hwl, stepS_of_wr hwm, stepS_of_wr hwm, stepS_of_wr hwl]
      have hne : l.d ≠ m.d := fun e => u1 hwm e.symm
      rw [St.set_comm s l.d m.d _ _ hne l0 l3 m0 m3]
      congr 2
      · congr 1
        refine opV_congr hwm fun r hr => ?_
        obtain ⟨r0, r3⟩ := rd_reg hm r hr
        exact St.get_set_ne _ _ _ _ (fun e => u2 (e ▸ hr)) l0 l3 r0 r3
      · refine (opV_congr hwl fun r hr => ?_).symm
        obtain ⟨r0, r3⟩ := rd_reg hl r hr
        exact St.get_set_ne _ _ _ _ (fun e => v2 (e ▸ hr)) m0 m3 r0 r3

/-- A program with two lines exchanged. -/
def exch (p : List Ln) (k : Nat) : List Ln := (p.set k (p.getD (k + 1) default)).set (k + 1) (p.getD k default)
theorem exch_length (p : List Ln) (k : Nat) : (exch p k).length = p.length := by simp [exch]
theorem exch_at {p : List Ln} {k : Nat} {m : Ln} (hm : p[k + 1]? = some m) : (exch p k)[k]? = some m := by
  have h1 : k + 1 < p.length := (List.getElem?_eq_some_iff.1 hm).1
  unfold exch
  rw [List.getElem?_set_ne (by omega), List.getElem?_set_self (by omega), List.getD_eq_getElem?_getD, hm]; rfl
theorem exch_at1 {p : List Ln} {k : Nat} {l m : Ln} (hl : p[k]? = some l) (hm : p[k + 1]? = some m) : (exch p k)[k + 1]? = some l := by
  have h1 : k + 1 < p.length := (List.getElem?_eq_some_iff.1 hm).1
  unfold exch
  rw [List.getElem?_set_self (by simpa using h1), List.getD_eq_getElem?_getD, hl]; rfl
theorem exch_ne {p : List Ln} {k i : Nat} (h : i ≠ k) (h1 : i ≠ k + 1) : (exch p k)[i]? = p[i]? := by
  unfold exch
  rw [List.getElem?_set_ne (by omega), List.getElem?_set_ne (by omega)]
theorem endS_exch {p : List Ln} {k : Nat} {l m : Ln} (hl : p[k]? = some l) (hm : p[k + 1]? = some m) (okl : l.ok = true) (okm : m.ok = true) (hi : ind l m = true)
    (hj : ∀ i x, p[i]? = some x → i < k → x.op = 7 → i + 1 + x.d.toNat ≠ k + 1) : ∀ (n i : Nat) (s : St), p.length ≤ i + n → i ≠ k + 1 → endS (exch p k) i s = endS p i s
  | 0, i, s, h, _ => by rw [endS_end (by rw [exch_length]; omega), endS_end (by omega)]
  | n + 1, i, s, h, hne => by
    by_cases hik : i = k
    · subst hik
      have n7 : l.op ≠ 7 ∧ m.op ≠ 7 := by unfold ind at hi; simp at hi; exact hi.1.1
      have q : ∀ (x : Ln) (j : Nat) (t : St), x.op ≠ 7 → nextI x j t = j + 1 := fun x j t h7 => by unfold nextI; rw [if_neg (fun e => h7 e.1)]
      rw [endS_step hl, q _ _ _ n7.1, endS_step hm, q _ _ _ n7.2, endS_step (exch_at hm), q _ _ _ n7.2, endS_step (exch_at1 hl hm), q _ _ _ n7.1, stepS_noF l (i + 1) i, ← stepS_comm okl okm hi i i]
      rw [stepS_noF m (i + 1) i]
      exact endS_exch hl hm okl okm hi hj n _ _ (by omega) (by omega)
    · cases hx : p[i]? with
      | none =>
        have := List.getElem?_eq_none_iff.1 hx
        rw [endS_end (by rw [exch_length]; omega), endS_end this]
      | some x =>
        have hx2 : (exch p k)[i]? = some x := by rw [exch_ne hik hne]; exact hx
        have := nextI_gt x i s
        rw [endS_step hx, endS_step hx2]
        refine endS_exch hl hm okl okm hi hj n _ _ (by omega) ?_
        by_cases hlt : i < k
        · unfold nextI
          split
          · next h7 => exact hj i x hx hlt h7.1
          · omega
        · omega
theorem runM_exch {p : List Ln} {k : Nat} {l m : Ln} (hl : p[k]? = some l) (hm : p[k + 1]? = some m) (okl : l.ok = true) (okm : m.ok = true) (hi : ind l m = true)
    (hj : ∀ i x, p[i]? = some x → i < k → x.op = 7 → i + 1 + x.d.toNat ≠ k + 1) (s : List Int) : runM (exch p k) s = runM p s := by
  rw [runM_eq, runM_eq, endS_exch hl hm okl okm hi hj _ 0 _ (Nat.le_add_left _ _) (by omega)]
theorem mem_exch {p : List Ln} {k : Nat} {l m : Ln} (hl : p[k]? = some l) (hm : p[k + 1]? = some m) {x : Ln} (h : x ∈ exch p k) : x ∈ p := by
  obtain ⟨i, hi⟩ := List.mem_iff_getElem?.1 h
  by_cases h1 : i = k
  · subst h1; rw [exch_at hm] at hi; cases hi; exact List.mem_of_getElem? hm
  · by_cases h2 : i = k + 1
    · subst h2; rw [exch_at1 hl hm] at hi; cases hi; exact List.mem_of_getElem? hl
    · rw [exch_ne h1 h2] at hi; exact List.mem_of_getElem? hi
theorem valP_exch {p : List Ln} {k : Nat} {l m : Ln} (hl : p[k]? = some l) (hm : p[k + 1]? = some m) (h : valP p = 0) : valP (exch p k) = 0 := by
  obtain ⟨h1, h2⟩ := valP_ok.1 h
  exact valP_ok.2 ⟨by rw [exch_length]; exact h1, fun x hx => h2 x (mem_exch hl hm hx)⟩
end Go.Proofs.YtmlbgfnddgbpbaaGreat

namespace Go.Proofs.YtmlbgfnddgbpbaaGreat
open Go.RowKit

/-- Strictly ascending. -/
def ascB (l : List Int) : Bool := (List.range (l.length - 1)).all fun k => decide (l.getD k 0 < l.getD (k + 1) 0)
theorem ascB_true {l : List Int} : ascB l = true ↔ ∀ k, k + 1 < l.length → l.getD k 0 < l.getD (k + 1) 0 := by
  unfold ascB
  simp only [List.all_eq_true, List.mem_range, decide_eq_true_eq]
  exact ⟨fun h k hk => h k (by omega), fun h k hk => h k (by omega)⟩
theorem ascB_false_at {l : List Int} {k : Nat} (hk : k + 1 < l.length) (h : l.getD (k + 1) 0 ≤ l.getD k 0) : ascB l = false := by
  cases e : ascB l with
  | false => rfl
  | true => have := ascB_true.1 e k hk; omega
theorem asc_lt {l : List Int} (h : ascB l = true) : ∀ (n j : Nat), j + n + 1 < l.length → l.getD j 0 < l.getD (j + n + 1) 0
  | 0, j, hj => ascB_true.1 h j hj
  | n + 1, j, hj => by
    have h1 := asc_lt h n j (by omega)
    have h2 := ascB_true.1 h (j + n + 1) (by omega)
    have e : j + (n + 1) + 1 = j + n + 1 + 1 := by omega
    rw [e]; omega
theorem asc_lt' {l : List Int} (h : ascB l = true) {j k : Nat} (hjk : j < k) (hk : k < l.length) : l.getD j 0 < l.getD k 0 := by
  have := asc_lt h (k - j - 1) j (by omega)
  rwa [show j + (k - j - 1) + 1 = k by omega] at this

/-- The visits of a run from a line on. -/
def visN (p : List Ln) (f : Nat → Option Int) (i : Nat) (s : St) : List (Nat × St) := (trc p f i s).1
theorem visN_end {p : List Ln} {f : Nat → Option Int} {i : Nat} {s : St} (h : p.length ≤ i) : visN p f i s = [] := by unfold visN; rw [trc_end h]
theorem visN_step {p : List Ln} {f : Nat → Option Int} {i : Nat} {s : St} {l : Ln} (h : p[i]? = some l) : visN p f i s = (i, s) :: visN p f (nextI l i s) (stepS f l i s) := by unfold visN; rw [trc_step h]
theorem end_end {p : List Ln} {f : Nat → Option Int} {i : Nat} {s : St} (h : p.length ≤ i) : (trc p f i s).2 = s := by rw [trc_end h]
theorem end_step {p : List Ln} {f : Nat → Option Int} {i : Nat} {s : St} {l : Ln} (h : p[i]? = some l) : (trc p f i s).2 = (trc p f (nextI l i s) (stepS f l i s)).2 := by rw [trc_step h]

theorem vis_ge (p : List Ln) (f : Nat → Option Int) : ∀ (n i : Nat) (s : St), p.length ≤ i + n → ∀ v ∈ visN p f i s, i ≤ v.1
  | 0, i, s, h, v, hv => by rw [visN_end (by omega)] at hv; cases hv
  | n + 1, i, s, h, v, hv => by
    cases hl : p[i]? with
    | none => rw [visN_end (List.getElem?_eq_none_iff.1 hl)] at hv; cases hv
    | some l =>
      have := nextI_gt l i s
      rw [visN_step hl] at hv
      rcases List.mem_cons.1 hv with rfl | hv
      · exact Nat.le_refl _
      · have := vis_ge p f n _ _ (by omega) v hv; omega
theorem vis_sorted (p : List Ln) (f : Nat → Option Int) : ∀ (n i : Nat) (s : St), p.length ≤ i + n → (visN p f i s).Pairwise fun a b => a.1 < b.1
  | 0, i, s, h => by rw [visN_end (by omega)]; exact List.Pairwise.nil
  | n + 1, i, s, h => by
    cases hl : p[i]? with
    | none => rw [visN_end (List.getElem?_eq_none_iff.1 hl)]; exact List.Pairwise.nil
    | some l =>
      have hgt := nextI_gt l i s
      rw [visN_step hl]
      refine List.Pairwise.cons ?_ (vis_sorted p f n _ _ (by omega))
      intro v hv
      have := vis_ge p f _ (nextI l i s) (stepS f l i s) (Nat.le_add_left _ _) v hv
      dsimp only; omega
/-- What stands behind a visit. -/
theorem vis_next (p : List Ln) (f : Nat → Option Int) : ∀ (n i : Nat) (s : St), p.length ≤ i + n →
    (visN p f i s = [] → (trc p f i s).2 = s) ∧ (∀ v, (visN p f i s)[0]? = some v → v = (i, s)) ∧
    ∀ j v l, (visN p f i s)[j]? = some v → p[v.1]? = some l → (∀ v', (visN p f i s)[j + 1]? = some v' → v' = (nextI l v.1 v.2, stepS f l v.1 v.2)) ∧ ((visN p f i s)[j + 1]? = none → (trc p f i s).2 = stepS f l v.1 v.2)
  | 0, i, s, h => by rw [visN_end (by omega)]; exact ⟨fun _ => end_end (by omega), fun v hv => by simp at hv, fun j v l hv => by simp at hv⟩
  | n + 1, i, s, h => by
    cases hl : p[i]? with
    | none =>
      have := List.getElem?_eq_none_iff.1 hl
      rw [visN_end this]; exact ⟨fun _ => end_end this, fun v hv => by simp at hv, fun j v l hv => by simp at hv⟩
    | some l =>
      have hgt := nextI_gt l i s
      obtain ⟨k1, k2, k3⟩ := vis_next p f n (nextI l i s) (stepS f l i s) (by omega)
      rw [visN_step hl, end_step hl]
      refine ⟨fun e => by simp at e, fun v hv => by simpa using hv.symm, fun j v l' hv hl' => ?_⟩
      cases j with
      | zero =>
        simp at hv
        subst hv
        dsimp only at hl' ⊢
        rw [hl] at hl'; cases hl'
        simp only [List.getElem?_cons_succ]
        exact ⟨fun v' hv' => k2 v' hv', fun hn => k1 (by simpa using hn)⟩
      | succ j =>
        simp only [List.getElem?_cons_succ] at hv ⊢
        exact k3 j v l' hv hl'

theorem visits_eq (p : List Ln) (s : List Int) : visits p s = visN p noF 0 (St.ofL s) := rfl
theorem visits_sorted (p : List Ln) (s : List Int) : (visits p s).Pairwise fun a b => a.1 < b.1 := vis_sorted p noF _ 0 _ (Nat.le_add_left _ _)
theorem visits_asc (p : List Ln) (s : List Int) {j k : Nat} {v u : Nat × St} (hv : (visits p s)[j]? = some v) (hu : (visits p s)[k]? = some u) (h : j < k) : v.1 < u.1 := by
  have key := List.pairwise_iff_getElem.1 (visits_sorted p s)
  obtain ⟨h1, rfl⟩ := List.getElem?_eq_some_iff.1 hv
  obtain ⟨h2, rfl⟩ := List.getElem?_eq_some_iff.1 hu
  exact key j k h1 h2 h
theorem doneM_length (p : List Ln) (s : List Int) : (doneM p s).length = (visits p s).length := by simp [doneM]
theorem doneM_at (p : List Ln) (s : List Int) {j : Nat} {v : Nat × St} (hv : (visits p s)[j]? = some v) : (doneM p s)[j]? = some (v.1 : Int) := by simp [doneM, hv]
theorem doneM_asc (p : List Ln) (s : List Int) : ascB (doneM p s) = true := by
  refine ascB_true.2 fun k hk => ?_
  rw [doneM_length] at hk
  have h1 := doneM_at p s (j := k) (List.getElem?_eq_getElem (show k < (visits p s).length by omega))
  have h2 := doneM_at p s (j := k + 1) (List.getElem?_eq_getElem hk)
  rw [List.getD_eq_getElem?_getD, List.getD_eq_getElem?_getD, h1, h2]
  have := visits_asc p s (List.getElem?_eq_getElem (show k < (visits p s).length by omega)) (List.getElem?_eq_getElem hk) (by omega)
  simp only [Option.getD_some]; omega
theorem find_first {q : Nat × St → Bool} : ∀ {vs : List (Nat × St)} {k : Nat} {x : Nat × St}, (∀ j v, j < k → vs[j]? = some v → q v = false) → vs[k]? = some x → q x = true → vs.find? q = some x
  | [], k, x, _, hx, _ => by simp at hx
  | v :: vs, 0, x, _, hx, hq => by simp at hx; subst hx; simp [hq]
  | v :: vs, k + 1, x, h, hx, hq => by
    have h0 := h 0 v (by omega) rfl
    rw [List.find?_cons_of_neg (by rw [h0]; simp)]
    exact find_first (k := k) (fun j u hj hu => h (j + 1) u (Nat.succ_lt_succ hj) (by simpa using hu)) (by simpa using hx) hq
/-- The state before a line that is done. -/
theorem bef_done {p : List Ln} {s : List Int} (h : chk p s = 0) {j : Nat} {v : Nat × St} (hv : (visits p s)[j]? = some v) : befE p s v.1 = 0 ∧ befO p s v.1 = some v.2 := by
  have hlt := visits_lt p s v (List.mem_of_getElem? hv)
  have e : befE p s v.1 = 0 := by unfold befE; rw [if_pos h, if_pos (inB_true.2 ⟨by omega, by omega⟩)]
  refine ⟨e, ?_⟩
  unfold befO
  rw [if_pos e]
  have : (visits p s).find? (fun u => (u.1 : Int) == v.1) = some v := by
    refine find_first (k := j) (fun i u hi hu => ?_) hv (by simp)
    have := visits_asc p s hu hv hi
    simp; omega
  rw [this]; rfl
/-- The state in which a run stands ahead of its j-th visit; behind the last one, at its end. -/
def stAt (p : List Ln) (s : List Int) (j : Nat) : St := match (visits p s)[j]? with | some v => v.2 | none => (trc p noF 0 (St.ofL s)).2
theorem stAt_some {p : List Ln} {s : List Int} {j : Nat} {v : Nat × St} (h : (visits p s)[j]? = some v) : stAt p s j = v.2 := by unfold stAt; rw [h]
theorem stAt_end {p : List Ln} {s : List Int} {j : Nat} (h : (visits p s).length ≤ j) : (stAt p s j).toL = runM p s := by
  unfold stAt; rw [List.getElem?_eq_none h]; rfl
theorem stAt_zero (p : List Ln) (s : List Int) : stAt p s 0 = St.ofL s := by
  obtain ⟨h1, h2, _⟩ := vis_next p noF _ 0 (St.ofL s) (Nat.le_add_left _ _)
  cases h : (visits p s)[0]? with
  | none =>
    have : visN p noF 0 (St.ofL s) = [] := by rw [← visits_eq]; simpa using h
    unfold stAt; rw [h]; exact h1 this
  | some v => rw [stAt_some h, h2 v h]
theorem stAt_succ {p : List Ln} {s : List Int} {j : Nat} {v : Nat × St} {l : Ln} (hv : (visits p s)[j]? = some v) (hl : p[v.1]? = some l) : stAt p s (j + 1) = stepS noF l v.1 (stAt p s j) := by
  obtain ⟨_, _, h3⟩ := vis_next p noF _ 0 (St.ofL s) (Nat.le_add_left _ _)
  obtain ⟨k1, k2⟩ := h3 j v l hv hl
  rw [stAt_some hv]
  cases h : (visits p s)[j + 1]? with
  | none => unfold stAt; rw [h]; exact k2 h
  | some u => rw [stAt_some h, k1 u h]
/-- A step changes no register but the one that it writes. -/
theorem step_only {l : Ln} (hl : l.ok = true) (i : Nat) (s : St) {r : Int} (r0 : 0 ≤ r) (r3 : r ≤ 3) (h : (stepS noF l i s).get r ≠ s.get r) : wrB l.op = true ∧ l.d = r := by
  cases hw : wrB l.op with
  | false => rw [stepS_of_not hw] at h; exact absurd rfl h
  | true =>
    refine ⟨rfl, ?_⟩
    rw [stepS_of_wr hw] at h
    obtain ⟨d0, d3⟩ := wr_reg hl hw
    by_cases e : l.d = r
    · exact e
    · exact absurd (St.get_set_ne _ _ _ _ e d0 d3 r0 r3) h
end Go.Proofs.YtmlbgfnddgbpbaaGreat

namespace Go.Proofs.YtmlbgfnddgbpbaaGreat
open Go.RowKit

theorem slc_n {α : Type} {k : Nat} {enc : α → List Value} {w : World} {a : Option Addr} {n c : Nat} {xs : List α} (h : SlcAt k enc w (.slice a n c) xs) : n = xs.length ∧ xs.length ≤ 9223372036854775807 := by
  obtain ⟨_, _, e, h1, h2, _⟩ := h
  cases e
  exact ⟨rfl, by omega⟩
theorem ints_at {w : World} {a : Option Addr} {n c : Nat} {xs : List Int} (h : IntsAt w (.slice a n c) xs) {k : Nat} {x : Int} (hx : xs[k]? = some x) : ∃ b o, a = some ⟨b, o, none⟩ ∧ b < w.heap.size ∧ w.cell? ⟨b, o + k, none⟩ = some (.int .i64 x) := by
  obtain ⟨_, _, e, _, _, h⟩ := h
  cases e
  obtain ⟨b, o, rfl, hb, hc⟩ := h.resolve_left (by intro h0; rw [h0.1] at hx; simp at hx)
  exact ⟨b, o, rfl, hb, ints_cell hc k x hx⟩
theorem lines_at {w : World} {a : Option Addr} {n c : Nat} {xs : List Ln} (h : LinesAt w (.slice a n c) xs) {k : Nat} {op d x y : Int} (hx : xs[k]? = some ⟨op, d, x, y⟩) : ∃ b o, a = some ⟨b, o, none⟩ ∧ b < w.heap.size ∧
    w.cell? ⟨b, o + k * 4, none⟩ = some (.int .i64 op) ∧ w.cell? ⟨b, o + k * 4 + 1, none⟩ = some (.int .i64 d) ∧ w.cell? ⟨b, o + k * 4 + 2, none⟩ = some (.int .i64 x) ∧ w.cell? ⟨b, o + k * 4 + 3, none⟩ = some (.int .i64 y) := by
  obtain ⟨_, _, e, _, _, h⟩ := h
  cases e
  obtain ⟨b, o, rfl, hb, hc⟩ := h.resolve_left (by intro h0; rw [h0.1] at hx; simp at hx)
  exact ⟨b, o, rfl, hb, lines_cell hc k op d x y hx⟩
theorem st_at {w : World} {a : Option Addr} {n c : Nat} {q : St} (h : IntsAt w (.slice a n c) q.toL) {r : Nat} (hr : r < 4) : ∃ b o, a = some ⟨b, o, none⟩ ∧ b < w.heap.size ∧ w.cell? ⟨b, o + r, none⟩ = some (.int .i64 (q.get r)) := by
  refine ints_at h (k := r) ?_
  have : r = 0 ∨ r = 1 ∨ r = 2 ∨ r = 3 := by omega
  rcases this with rfl | rfl | rfl | rfl <;> rfl
/-- A block of two cells. -/
theorem box2 {w : World} {b : Nat} {c0 c1 : Value} {e : TypeId} (h : w.heap[b]? = some (.cells #[c0, c1] e (0, 0))) : w.cell? ⟨b, 0, none⟩ = some c0 ∧ w.cell? ⟨b, 1, none⟩ = some c1 := by
  constructor <;> (unfold World.cell?; simp only [h]; rfl)
end Go.Proofs.YtmlbgfnddgbpbaaGreat

namespace Go.Proofs.YtmlbgfnddgbpbaaGreat
open Go.RowKit

/-- One cell of a list's own block is stored anew. -/
theorem ownsRow_set {w : World} {base : Nat} {e : TypeId} {size g cap n : Nat} {xs : List Value} (h : w.ownsRow base e size (.slice (some ⟨g, 0, none⟩) n cap) n xs) (i : Nat) (u : Value) :
    (w.setCell ⟨g, i, none⟩ u).ownsRow base e size (.slice (some ⟨g, 0, none⟩) n cap) n (xs.set i u) := by
  obtain ⟨h1, h2⟩ := h
  refine ⟨by rw [List.length_set]; exact h1, ?_⟩
  rcases h2 with ⟨h2, _⟩ | ⟨g', cap', cur, hv, hg, hh, a1, a2, a3, a4⟩
  · cases h2
  · cases hv
    refine .inr ⟨g, cap, cur.setIfInBounds i u, rfl, hg, heap_setCell_same w g i cur e u hh, a1, a2, by simpa using a3, ?_⟩
    rw [Array.toList_setIfInBounds, List.take_set, a4]
theorem ownsRow_free {w : World} {base : Nat} {e : TypeId} {size g cap n : Nat} {xs : List Value} (h : w.ownsRow base e size (.slice (some ⟨g, 0, none⟩) n cap) n xs) (i : Nat) : w.frozen? ⟨g, i, none⟩ = false := by
  rcases h.2 with ⟨h2, _⟩ | ⟨g', cap', cur, hv, hg, hh, _⟩
  · cases h2
  · cases hv; simp [World.frozen?, hh]

theorem flat_set : ∀ (p : List Ln) (k : Nat) (l : Ln), k < p.length →
    ((((p.flatMap encL).set (k * 4) (.int .i64 l.op)).set (k * 4 + 1) (.int .i64 l.d)).set (k * 4 + 2) (.int .i64 l.a)).set (k * 4 + 3) (.int .i64 l.b) = (p.set k l).flatMap encL
  | [], k, l, h => by simp at h
  | x :: xs, 0, l, _ => by simp [List.flatMap_cons, encL]
  | x :: xs, k + 1, l, h => by
    have ih := flat_set xs k l (by simpa using h)
    rw [List.set_cons_succ, List.flatMap_cons, List.flatMap_cons, ← ih]
    have hl : (encL x).length = 4 := rfl
    rw [List.set_append_right _ _ (by rw [hl]; omega), List.set_append_right _ _ (by rw [hl]; omega), List.set_append_right _ _ (by rw [hl]; omega), List.set_append_right _ _ (by rw [hl]; omega)]
    rw [hl]
    have e0 : (k + 1) * 4 - 4 = k * 4 := by omega
    have e1 : (k + 1) * 4 + 1 - 4 = k * 4 + 1 := by omega
    have e2 : (k + 1) * 4 + 2 - 4 = k * 4 + 2 := by omega
    have e3 : (k + 1) * 4 + 3 - 4 = k * 4 + 3 := by omega
    rw [e0, e1, e2, e3]

/-- The four stores of a line. -/
def storeL (w : World) (g i : Nat) (l : Ln) : World := (((w.setCell ⟨g, i, none⟩ (.int .i64 l.op)).setCell ⟨g, i + 1, none⟩ (.int .i64 l.d)).setCell ⟨g, i + 2, none⟩ (.int .i64 l.a)).setCell ⟨g, i + 3, none⟩ (.int .i64 l.b)
theorem owns_storeL {w : World} {base : Nat} {e : TypeId} {g cap : Nat} {p : List Ln} (h : w.ownsRow base e 4 (.slice (some ⟨g, 0, none⟩) p.length cap) p.length (p.flatMap encL)) (k : Nat) (hk : k < p.length) (l : Ln) :
    (storeL w g (k * 4) l).ownsRow base e 4 (.slice (some ⟨g, 0, none⟩) (p.set k l).length cap) (p.set k l).length ((p.set k l).flatMap encL) := by
  rw [List.length_set, ← flat_set p k l hk]
  exact ownsRow_set (ownsRow_set (ownsRow_set (ownsRow_set h _ _) _ _) _ _) _ _
theorem below_storeL {a w : World} {B g i : Nat} (l : Ln) (h : Below B a w) (hg : B ≤ g) : Below B a (storeL w g i l) :=
  Below.setCell (Below.setCell (Below.setCell (Below.setCell h hg _) hg _) hg _) hg _
theorem size_storeL (w : World) (g i : Nat) (l : Ln) : (storeL w g i l).heap.size = w.heap.size := by simp [storeL, World.size_setCell]
theorem heap_storeL (w : World) (g i k : Nat) (l : Ln) (h : k ≠ g) : (storeL w g i l).heap[k]? = w.heap[k]? := by
  unfold storeL
  rw [Below.heap_setCell _ _ _ _ (by simpa using h), Below.heap_setCell _ _ _ _ (by simpa using h), Below.heap_setCell _ _ _ _ (by simpa using h), Below.heap_setCell _ _ _ _ (by simpa using h)]
end Go.Proofs.YtmlbgfnddgbpbaaGreat

namespace Go.Proofs.YtmlbgfnddgbpbaaGreat
open Go.RowKit

/-- The number that the lists force upon a line: of the last place at which it stands among the first k. -/
def frcN (lines values : List Int) (i : Nat) : Nat → Option Int
  | 0 => none
  | k + 1 => if lines.getD k 0 = (i : Int) then some (values.getD k 0) else frcN lines values i k
def frc (lines values : List Int) (i : Nat) : Option Int := frcN lines values i lines.length
theorem frc_nil : frc [] [] = noF := rfl
def frcE (p : List Ln) (s lines values : List Int) : Int :=
  if chk p s = 0 then
    if ascB lines then
      if (lines.any fun i => !inB i 0 (p.length - 1)) then 4
      else if values.length = lines.length then
        if (values.any fun n => !inB n (-999) 999) then 1
        else if (lines.any fun i => !wrB (p.getD i.toNat default).op) then 6 else 0
      else 9
    else 1
  else chk p s
def frcM (p : List Ln) (s lines values : List Int) : List Int := ifOK (frcE p s lines values) (trc p (frc lines values) 0 (St.ofL s)).2.toL

theorem frcN_none {lines values : List Int} {i : Nat} (h : lines.contains (i : Int) = false) : ∀ k, k ≤ lines.length → frcN lines values i k = none
  | 0, _ => rfl
  | k + 1, hk => by
    have : lines.getD k 0 ≠ (i : Int) := by
      intro e
      rw [List.getD_eq_getElem?_getD, List.getElem?_eq_getElem (by omega)] at e
      simp at e
      rw [← e] at h
      simp at h
    rw [frcN, if_neg this]
    exact frcN_none h k (by omega)
theorem frcN_at {lines values : List Int} (ha : ascB lines = true) {i k : Nat} (hk : k < lines.length) (e : lines.getD k 0 = (i : Int)) : ∀ m, k < m → m ≤ lines.length → frcN lines values i m = some (values.getD k 0)
  | 0, h, _ => by omega
  | m + 1, h, hm => by
    by_cases hmk : m = k
    · subst hmk; rw [frcN, if_pos e]
    · have := asc_lt' ha (j := k) (k := m) (by omega) (by omega)
      rw [frcN, if_neg (by omega)]
      exact frcN_at ha hk e m (by omega) (by omega)
theorem countP_at {lines : List Int} (ha : ascB lines = true) {k : Nat} (hk : k < lines.length) {x : Int} (e : lines.getD k 0 = x) : lines.countP (fun y => decide (y < x)) = k := by
  have h1 : (lines.take k).countP (fun y => decide (y < x)) = k := by
    have : (lines.take k).countP (fun y => decide (y < x)) = (lines.take k).length := by
      rw [List.countP_eq_length]
      intro y hy
      obtain ⟨j, hj, rfl⟩ := List.mem_take_iff_getElem.1 hy
      have := asc_lt' ha (j := j) (k := k) (by omega) hk
      rw [e, List.getD_eq_getElem?_getD, List.getElem?_eq_getElem (by omega)] at this
      simpa using this
    rw [this, List.length_take]; omega
  have h2 : (lines.drop k).countP (fun y => decide (y < x)) = 0 := by
    rw [List.countP_eq_zero]
    intro y hy
    obtain ⟨j, hj⟩ := List.mem_iff_getElem?.1 hy
    rw [List.getElem?_drop] at hj
    have hlt := (List.getElem?_eq_some_iff.1 hj).1
    have hy2 : lines.getD (k + j) 0 = y := by rw [List.getD_eq_getElem?_getD, hj]; rfl
    by_cases hj0 : j = 0
    · subst hj0; rw [Nat.add_zero, e] at hy2; simp; omega
    · have := asc_lt' ha (j := k) (k := k + j) (by omega) hlt
      simp; omega
  have := List.take_append_drop k lines
  rw [← this, List.countP_append, h1, h2]; simp
/-- What a search finds. -/
theorem frc_search {lines values : List Int} (ha : ascB lines = true) (i : Nat) : frc lines values i = if lines.contains (i : Int) then some (values.getD (lines.countP fun y => decide (y < (i : Int))) 0) else none := by
  unfold frc
  cases h : lines.contains (i : Int) with
  | false => rw [if_neg (by simp), frcN_none h _ (Nat.le_refl _)]
  | true =>
    rw [if_pos rfl]
    have hm : (i : Int) ∈ lines := by simpa using h
    obtain ⟨k, hk⟩ := List.mem_iff_getElem?.1 hm
    have hlt := (List.getElem?_eq_some_iff.1 hk).1
    have e : lines.getD k 0 = (i : Int) := by rw [List.getD_eq_getElem?_getD, hk]; rfl
    rw [frcN_at ha hlt e _ hlt (Nat.le_refl _), countP_at ha hlt e]
theorem asc_pairwise {lines : List Int} (ha : ascB lines = true) : lines.Pairwise (· ≤ ·) := by
  rw [List.pairwise_iff_getElem]
  intro i j hi hj hij
  have := asc_lt' ha hij hj
  rw [List.getD_eq_getElem?_getD, List.getD_eq_getElem?_getD, List.getElem?_eq_getElem hi, List.getElem?_eq_getElem hj] at this
  simp only [Option.getD_some] at this; omega
theorem frcN_mem {lines values : List Int} {i : Nat} {n : Int} : ∀ k, k ≤ values.length → frcN lines values i k = some n → n ∈ values
  | 0, _, h => by simp [frcN] at h
  | k + 1, hk, h => by
    unfold frcN at h
    split at h
    · rw [List.getD_eq_getElem?_getD, List.getElem?_eq_getElem (by omega)] at h
      simp at h; subst h; exact List.getElem_mem _
    · exact frcN_mem k (by omega) h
end Go.Proofs.YtmlbgfnddgbpbaaGreat

namespace Go.Proofs.YtmlbgfnddgbpbaaGreat
open Go.RowKit

theorem asc_ext : ∀ (l m : List Int), l.Pairwise (· < ·) → m.Pairwise (· < ·) → (∀ x, x ∈ l ↔ x ∈ m) → l = m
  | [], [], _, _, _ => rfl
  | [], b :: m, _, _, h => by have := (h b).2 (by simp); simp at this
  | a :: l, [], _, _, h => by have := (h a).1 (by simp); simp at this
  | a :: l, b :: m, hl, hm, h => by
    obtain ⟨l1, l2⟩ := List.pairwise_cons.1 hl
    obtain ⟨m1, m2⟩ := List.pairwise_cons.1 hm
    have hab : a = b := by
      rcases List.mem_cons.1 ((h a).1 (by simp)) with e | e
      · exact e
      · rcases List.mem_cons.1 ((h b).2 (by simp)) with e' | e'
        · exact e'.symm
        · have := m1 a e; have := l1 b e'; omega
    subst hab
    congr 1
    refine asc_ext l m l2 m2 fun x => ⟨fun hx => ?_, fun hx => ?_⟩
    · rcases List.mem_cons.1 ((h x).1 (List.mem_cons_of_mem _ hx)) with e | e
      · subst e; have := l1 x hx; omega
      · exact e
    · rcases List.mem_cons.1 ((h x).2 (List.mem_cons_of_mem _ hx)) with e | e
      · subst e; have := m1 x hx; omega
      · exact e

/-- Which numbers below n are in a list. -/
def marks (n : Nat) (l : List Int) : List Bool := (List.range n).map fun (i : Nat) => l.contains (i : Int)
theorem marks_length (n : Nat) (l : List Int) : (marks n l).length = n := by simp [marks]
theorem marks_nil (n : Nat) : marks n [] = List.replicate n false := by
  unfold marks
  apply List.ext_getElem
  · simp
  · intro i h1 h2; simp
theorem marks_snoc (n : Nat) (l : List Int) (v : Nat) : marks n (l ++ [(v : Int)]) = (marks n l).set v true := by
  unfold marks
  apply List.ext_getElem
  · simp
  · intro i h1 h2
    rw [List.getElem_set]
    by_cases h : v = i
    · subst h; simp
    · simp [h]
      intro hh; omega
theorem mem_setL {bs : List Bool} {x : Int} : x ∈ setL bs ↔ ∃ i : Nat, x = i ∧ bs[i]? = some true := by
  unfold setL setN
  simp only [List.mem_map, List.mem_filter, List.mem_range]
  constructor
  · rintro ⟨i, ⟨hi, hb⟩, rfl⟩
    refine ⟨i, rfl, ?_⟩
    rw [List.getD_eq_getElem?_getD, List.getElem?_eq_getElem hi] at hb
    rw [List.getElem?_eq_getElem hi]; simpa using hb
  · rintro ⟨i, rfl, hb⟩
    obtain ⟨hi, he⟩ := List.getElem?_eq_some_iff.1 hb
    refine ⟨i, ⟨hi, ?_⟩, rfl⟩
    rw [List.getD_eq_getElem?_getD, hb]; rfl
theorem setL_asc (bs : List Bool) : (setL bs).Pairwise (· < ·) := by
  unfold setL setN
  rw [List.pairwise_map]
  refine List.Pairwise.imp ?_ ((List.pairwise_lt_range (n := bs.length)).filter _)
  intro a b h
  show Int.ofNat a < Int.ofNat b
  simpa using h
theorem setL_marks {n : Nat} {l : List Int} (ha : l.Pairwise (· < ·)) (hr : ∀ x ∈ l, 0 ≤ x ∧ x < n) : setL (marks n l) = l := by
  refine asc_ext _ _ (setL_asc _) ha fun x => ?_
  rw [mem_setL]
  constructor
  · rintro ⟨i, rfl, h⟩
    obtain ⟨hi, he⟩ := List.getElem?_eq_some_iff.1 h
    simpa [marks] using he
  · intro hx
    obtain ⟨h0, h1⟩ := hr x hx
    refine ⟨x.toNat, by omega, ?_⟩
    have hlt : x.toNat < (marks n l).length := by rw [marks_length]; omega
    rw [List.getElem?_eq_getElem hlt]
    have : ((x.toNat : Nat) : Int) = x := by omega
    simp [marks, this, hx]
theorem marks_reverse (n : Nat) (l : List Int) : marks n l.reverse = marks n l := by simp [marks]

/-- How a walk back stands behind the visits from the k-th one on. -/
def accAt (p : List Ln) (vs : List (Nat × St)) (m : Ms) (k : Nat) : Ms × List Int := (vs.drop k).reverse.foldl (sliceStep p) (m, [])
theorem accAt_end (p : List Ln) (vs : List (Nat × St)) (m : Ms) : accAt p vs m vs.length = (m, []) := by simp [accAt]
theorem accAt_step (p : List Ln) (vs : List (Nat × St)) (m : Ms) {k : Nat} {v : Nat × St} (hv : vs[k]? = some v) : accAt p vs m k = sliceStep p (accAt p vs m (k + 1)) v := by
  obtain ⟨hk, rfl⟩ := List.getElem?_eq_some_iff.1 hv
  unfold accAt
  rw [List.drop_eq_getElem_cons hk, List.reverse_cons, List.foldl_append]
  rfl
theorem accAt_mem (p : List Ln) (vs : List (Nat × St)) (m : Ms) : ∀ n k, k + n = vs.length → ∀ x ∈ (accAt p vs m k).2, ∃ (j : Nat) (v : Nat × St), k ≤ j ∧ vs[j]? = some v ∧ x = v.1
  | 0, k, h, x, hx => by
    obtain rfl : k = vs.length := by omega
    rw [accAt_end] at hx; simp at hx
  | n + 1, k, h, x, hx => by
    have hk : k < vs.length := by omega
    rw [accAt_step p vs m (List.getElem?_eq_getElem hk)] at hx
    have key : x ∈ (accAt p vs m (k + 1)).2 ∨ x = (vs[k].1 : Int) := by
      unfold sliceStep at hx
      split at hx
      · exact .inl hx
      · split at hx
        · exact .inl hx
        · simpa using hx
    rcases key with h1 | h1
    · obtain ⟨j, v, hj, hv, e⟩ := accAt_mem p vs m n (k + 1) (by omega) x h1
      exact ⟨j, v, by omega, hv, e⟩
    · exact ⟨k, vs[k], Nat.le_refl _, List.getElem?_eq_getElem hk, h1⟩
theorem accAt_desc (p : List Ln) (vs : List (Nat × St)) (m : Ms) (hs : vs.Pairwise fun a b => a.1 < b.1) : ∀ n k, k + n = vs.length → (accAt p vs m k).2.Pairwise (· > ·)
  | 0, k, h => by
    obtain rfl : k = vs.length := by omega
    rw [accAt_end]; exact List.Pairwise.nil
  | n + 1, k, h => by
    have hk : k < vs.length := by omega
    rw [accAt_step p vs m (List.getElem?_eq_getElem hk)]
    have ih := accAt_desc p vs m hs n (k + 1) (by omega)
    have : ∀ x ∈ (accAt p vs m (k + 1)).2, x > (vs[k].1 : Int) := by
      intro x hx
      obtain ⟨j, v, hj, hv, rfl⟩ := accAt_mem p vs m n (k + 1) (by omega) x hx
      obtain ⟨hjl, rfl⟩ := List.getElem?_eq_some_iff.1 hv
      have := List.pairwise_iff_getElem.1 hs k j hk hjl (by omega)
      omega
    unfold sliceStep
    split
    · exact ih
    · split
      · exact ih
      · rw [List.pairwise_append]
        exact ⟨ih, by simp, fun a ha b hb => by simp at hb; subst hb; exact this a ha⟩
theorem sliceM_acc (p : List Ln) (s : List Int) (r : Int) : sliceM p s r = (accAt p (visits p s) (Ms.set ⟨false, false, false, false⟩ r true) 0).2.reverse := by
  unfold sliceM accAt; rw [List.drop_zero]
/-- What the marks list in the end. -/
theorem setL_slice (p : List Ln) (s : List Int) (r : Int) : setL (marks p.length (accAt p (visits p s) (Ms.set ⟨false, false, false, false⟩ r true) 0).2) = sliceM p s r := by
  rw [sliceM_acc, ← marks_reverse]
  refine setL_marks ?_ ?_
  · rw [List.pairwise_reverse]
    exact accAt_desc p _ _ (visits_sorted p s) _ 0 (Nat.zero_add _)
  · intro x hx
    obtain ⟨j, v, _, hv, rfl⟩ := accAt_mem p _ _ _ 0 (Nat.zero_add _) x (List.mem_reverse.1 hx)
    have := visits_lt p s v (List.mem_of_getElem? hv)
    omega

/-! ### The registers of a line, added to those that matter -/
def Ms.orN (m r : Ms) (k : Nat) : Ms := ⟨m.b0 || (decide (0 < k) && r.b0), m.b1 || (decide (1 < k) && r.b1), m.b2 || (decide (2 < k) && r.b2), m.b3 || (decide (3 < k) && r.b3)⟩
theorem Ms.orN_zero (m r : Ms) : m.orN r 0 = m := by cases m; simp [Ms.orN]
theorem Ms.orN_succ (m r : Ms) {k : Nat} (hk : k < 4) : m.orN r (k + 1) = (m.orN r k).set k ((m.orN r k).get k || r.get k) := by
  have : k = 0 ∨ k = 1 ∨ k = 2 ∨ k = 3 := by omega
  obtain ⟨m0, m1, m2, m3⟩ := m
  obtain ⟨r0, r1, r2, r3⟩ := r
  rcases this with rfl | rfl | rfl | rfl <;> simp [Ms.orN, Ms.set, Ms.get]
theorem orN_rdM {op a b : Int} (h2 : 2 ≤ op → 0 ≤ a ∧ a ≤ 3) (h3 : 3 ≤ op → 0 ≤ b ∧ b ≤ 3) (m : Ms) : m.orN (rdM op a b) 4 = (rdL op a b).foldl (fun m r => m.set r true) m := by
  obtain ⟨m0, m1, m2, m3⟩ := m
  by_cases g3 : 3 ≤ op
  · obtain ⟨a0, a3⟩ := h2 (by omega)
    obtain ⟨b0, b3⟩ := h3 g3
    have e1 : rdL op a b = two a b := by unfold rdL; rw [if_neg (by omega), if_pos (by omega)]
    have e2 : rdM op a b = (Ms.set ⟨false, false, false, false⟩ a true).set b true := by unfold rdM; rw [if_pos g3, if_pos (by omega)]
    rw [e1, e2]
    have ha : a = 0 ∨ a = 1 ∨ a = 2 ∨ a = 3 := by omega
    have hb : b = 0 ∨ b = 1 ∨ b = 2 ∨ b = 3 := by omega
    rcases ha with rfl | rfl | rfl | rfl <;> rcases hb with rfl | rfl | rfl | rfl <;> simp [Ms.orN, two, Ms.set]
  · by_cases g2 : 2 ≤ op
    · obtain ⟨a0, a3⟩ := h2 g2
      have e1 : rdL op a b = [a] := by unfold rdL; rw [if_pos (by omega)]
      have e2 : rdM op a b = Ms.set ⟨false, false, false, false⟩ a true := by unfold rdM; rw [if_neg g3, if_pos g2]
      rw [e1, e2]
      have ha : a = 0 ∨ a = 1 ∨ a = 2 ∨ a = 3 := by omega
      rcases ha with rfl | rfl | rfl | rfl <;> simp [Ms.orN, Ms.set]
    · have e1 : rdL op a b = [] := by unfold rdL; rw [if_neg (by omega), if_neg g3]
      have e2 : rdM op a b = ⟨false, false, false, false⟩ := by unfold rdM; rw [if_neg g3, if_neg g2]
      rw [e1, e2]
      simp [Ms.orN]

/-! ### The block of the marks -/
def arrB (bs : List Bool) : Array Value := (bs.map Value.bool).toArray
theorem arrB_cell {w : World} {b : Nat} {bs : List Bool} {e : TypeId} (h : w.heap[b]? = some (.cells (arrB bs) e (0, 0))) {k : Nat} {x : Bool} (hx : bs[k]? = some x) : w.cell? ⟨b, k, none⟩ = some (.bool x) := by
  unfold World.cell?; simp only [h]; simp [arrB, hx]
theorem arrB_free {w : World} {b : Nat} {bs : List Bool} {e : TypeId} (h : w.heap[b]? = some (.cells (arrB bs) e (0, 0))) (o : Nat) : w.frozen? ⟨b, o, none⟩ = false := by
  simp [World.frozen?, h]
theorem arrB_set {w : World} {b : Nat} {bs : List Bool} {e : TypeId} (h : w.heap[b]? = some (.cells (arrB bs) e (0, 0))) (k : Nat) (x : Bool) :
    (w.setCell ⟨b, k, none⟩ (.bool x)).heap[b]? = some (.cells (arrB (bs.set k x)) e (0, 0)) := by
  rw [heap_setCell_same w b _ _ e _ h]
  simp [arrB, List.map_set]
theorem arrB_slc {w : World} {b : Nat} {bs : List Bool} {e : TypeId} (h : w.heap[b]? = some (.cells (arrB bs) e (0, 0))) (hl : bs.length ≤ 9223372036854775807) : BoolsAt w (.slice (some ⟨b, 0, none⟩) bs.length bs.length) bs := by
  refine ⟨_, bs.length, rfl, Nat.le_refl _, hl, .inr ⟨b, 0, rfl, lt_of_block h, ?_⟩⟩
  intro j x hj i u hu
  have hi : i = 0 := by
    have := (List.getElem?_eq_some_iff.1 hu).1
    simp [encT] at this; exact this
  subst hi
  simp [encT] at hu
  subst hu
  rw [Nat.zero_add, Nat.mul_one, Nat.add_zero]
  exact arrB_cell h hj
end Go.Proofs.YtmlbgfnddgbpbaaGreat

namespace Go.Proofs.YtmlbgfnddgbpbaaGreat
open Go.RowKit

theorem Ms.get_set' (m : Ms) (r q : Int) (x : Bool) (r0 : 0 ≤ r) (r3 : r ≤ 3) (q0 : 0 ≤ q) (q3 : q ≤ 3) : (m.set r x).get q = if q = r then x else m.get q := by
  have hr : r = 0 ∨ r = 1 ∨ r = 2 ∨ r = 3 := by omega
  have hq : q = 0 ∨ q = 1 ∨ q = 2 ∨ q = 3 := by omega
  rcases hr with rfl | rfl | rfl | rfl <;> rcases hq with rfl | rfl | rfl | rfl <;> rfl
theorem foldl_true {q : Int} (q0 : 0 ≤ q) (q3 : q ≤ 3) : ∀ (rs : List Int) (m : Ms), (∀ r ∈ rs, 0 ≤ r ∧ r ≤ 3) → (q ∈ rs ∨ m.get q = true) → (rs.foldl (fun m r => m.set r true) m).get q = true
  | [], m, _, h => by simpa using h
  | r :: rs, m, hr, h => by
    obtain ⟨r0, r3⟩ := hr r (by simp)
    refine foldl_true q0 q3 rs (m.set r true) (fun x hx => hr x (by simp [hx])) ?_
    by_cases e : q = r
    · right; rw [Ms.get_set' _ _ _ _ r0 r3 q0 q3, if_pos e]
    · rcases h with h | h
      · rcases List.mem_cons.1 h with h | h
        · exact absurd h e
        · exact .inl h
      · right; rw [Ms.get_set' _ _ _ _ r0 r3 q0 q3, if_neg e]; exact h

/-- How a walk back stands ahead of a line. -/
def slAt (p : List Ln) (m0 : Ms) (i : Nat) (s : St) : Ms × List Int := (visN p noF i s).foldr (fun v acc => sliceStep p acc v) (m0, [])
theorem slAt_end {p : List Ln} {m0 : Ms} {i : Nat} {s : St} (h : p.length ≤ i) : slAt p m0 i s = (m0, []) := by unfold slAt; rw [visN_end h]; rfl
theorem slAt_step {p : List Ln} {m0 : Ms} {i : Nat} {s : St} {l : Ln} (h : p[i]? = some l) : slAt p m0 i s = sliceStep p (slAt p m0 (nextI l i s) (stepS noF l i s)) (i, s) := by unfold slAt; rw [visN_step h]; rfl
def agree (m : Ms) (s t : St) : Prop := ∀ q, 0 ≤ q → q ≤ 3 → m.get q = true → s.get q = t.get q
theorem outside_run {p : List Ln} (hok : ∀ l ∈ p, l.ok = true) (m0 : Ms) (f : Nat → Option Int) : ∀ (n i : Nat) (s t : St), p.length ≤ i + n → agree (slAt p m0 i s).1 s t → (∀ j : Nat, (j : Int) ∈ (slAt p m0 i s).2 → f j = none) → agree m0 (trc p noF i s).2 (trc p f i t).2
  | 0, i, s, t, h, ha, _ => by rw [slAt_end (by omega)] at ha; rw [end_end (by omega), end_end (by omega)]; exact ha
  | n + 1, i, s, t, h, ha, hf => by
    cases hl : p[i]? with
    | none =>
      have := List.getElem?_eq_none_iff.1 hl
      rw [slAt_end this] at ha; rw [end_end this, end_end this]; exact ha
    | some l =>
      have hlo := hok l (List.mem_of_getElem? hl)
      have hgt := nextI_gt l i s
      rw [slAt_step hl] at ha hf
      rw [end_step hl, end_step hl]
      generalize hacc : slAt p m0 (nextI l i s) (stepS noF l i s) = acc at ha hf
      have hss : sliceStep p acc (i, s) = if l.op ≠ 7 ∧ (wrB l.op = false ∨ acc.1.get l.d = false) then acc else ((rdL l.op l.a l.b).foldl (fun m r => m.set r true) (if wrB l.op then acc.1.set l.d false else acc.1), acc.2 ++ [(i : Int)]) := by
        unfold sliceStep; rw [show p[(i, s).1]? = some l from hl]
      rw [hss] at ha hf
      have key : ∀ t', nextI l i t = nextI l i s → stepS f l i t = t' → agree acc.1 (stepS noF l i s) t' → (∀ j : Nat, (j : Int) ∈ acc.2 → f j = none) → agree m0 (trc p noF (nextI l i s) (stepS noF l i s)).2 (trc p f (nextI l i t) (stepS f l i t)).2 := by
        intro t' e1 e2 h1 h2
        rw [e1, e2]
        exact outside_run hok m0 f n _ _ _ (by omega) (by rw [hacc]; exact h1) (by rw [hacc]; exact h2)
      by_cases hc : l.op ≠ 7 ∧ (wrB l.op = false ∨ acc.1.get l.d = false)
      · rw [if_pos hc] at ha hf
        obtain ⟨h7, hc⟩ := hc
        have hn : ∀ x, nextI l i x = i + 1 := fun x => by unfold nextI; rw [if_neg (fun e => h7 e.1)]
        refine key _ (by rw [hn, hn]) rfl ?_ hf
        cases hw : wrB l.op with
        | false =>
          rw [stepS_of_not hw, show stepS f l i t = t by unfold stepS; rw [if_neg (by rw [hw]; simp)]]
          exact ha
        | true =>
          have hd : acc.1.get l.d = false := by rcases hc with e | e; rw [hw] at e; cases e; exact e
          obtain ⟨d0, d3⟩ := wr_reg hlo hw
          rw [stepS_of_wr hw, show stepS f l i t = t.set l.d (cut ((f i).getD (opV l.op l.a (t.get l.a) (t.get l.b)))) by unfold stepS; rw [if_pos hw]]
          intro q q0 q3 hq
          have hne : l.d ≠ q := fun e => by rw [e] at hd; rw [hd] at hq; cases hq
          rw [St.get_set_ne _ _ _ _ hne d0 d3 q0 q3, St.get_set_ne _ _ _ _ hne d0 d3 q0 q3]
          exact ha q q0 q3 hq
      · rw [if_neg hc] at ha hf
        dsimp only at ha hf
        have hfi : f i = none := hf i (by simp)
        have hf' : ∀ j : Nat, (j : Int) ∈ acc.2 → f j = none := fun j hj => hf j (by simp [hj])
        have hrd : ∀ q ∈ rdL l.op l.a l.b, s.get q = t.get q := fun q hq => by
          obtain ⟨q0, q3⟩ := rd_reg hlo q hq
          exact ha q q0 q3 (foldl_true q0 q3 _ _ (rd_reg hlo) (.inl hq))
        by_cases h7 : l.op = 7
        · have hw : wrB l.op = false := by rw [h7]; rfl
          have er : rdL l.op l.a l.b = two l.a l.b := by unfold rdL; rw [if_neg (by omega), if_pos (by omega)]
          rw [er] at hrd
          have ea := hrd l.a (mem_two_a _ _)
          have eb := hrd l.b (mem_two_b _ _)
          have hn : nextI l i t = nextI l i s := by unfold nextI; rw [ea, eb]
          refine key _ hn (show stepS f l i t = t by unfold stepS; rw [if_neg (by rw [hw]; simp)]) ?_ hf'
          rw [stepS_of_not hw]
          intro q q0 q3 hq
          exact ha q q0 q3 (foldl_true q0 q3 _ _ (rd_reg hlo) (.inr (by rw [hw]; simpa using hq)))
        · have hw : wrB l.op = true := by
            cases e : wrB l.op with
            | true => rfl
            | false => exact absurd ⟨h7, .inl e⟩ hc
          obtain ⟨d0, d3⟩ := wr_reg hlo hw
          have hn : ∀ x, nextI l i x = i + 1 := fun x => by unfold nextI; rw [if_neg (fun e => h7 e.1)]
          have ev : stepS f l i t = t.set l.d (cut (opV l.op l.a (s.get l.a) (s.get l.b))) := by
            unfold stepS; rw [if_pos hw, hfi, opV_congr hw hrd]; rfl
          refine key _ (by rw [hn, hn]) ev ?_ hf'
          rw [stepS_of_wr hw]
          intro q q0 q3 hq
          by_cases e : l.d = q
          · rw [e, St.get_set_eq _ _ _ (by omega) (by omega), St.get_set_eq _ _ _ (by omega) (by omega)]
          · rw [St.get_set_ne _ _ _ _ e d0 d3 q0 q3, St.get_set_ne _ _ _ _ e d0 d3 q0 q3]
            refine ha q q0 q3 (foldl_true q0 q3 _ _ (rd_reg hlo) (.inr ?_))
            rw [hw, if_pos rfl, Ms.get_set' _ _ _ _ d0 d3 q0 q3, if_neg (fun e2 => e e2.symm)]
            exact hq
theorem slAt_slice (p : List Ln) (s : List Int) (r : Int) : (slAt p (Ms.set ⟨false, false, false, false⟩ r true) 0 (St.ofL s)).2 = (sliceM p s r).reverse := by
  unfold sliceM slAt
  rw [List.reverse_reverse, List.foldl_reverse]; rfl
/-- Forced lines outside the slice: the register is the same. -/
theorem outside_law {p : List Ln} {s lines values : List Int} {r : Int} (hc : chk p s = 0) (r0 : 0 ≤ r) (r3 : r ≤ 3) (hout : ∀ x ∈ lines, x ∉ sliceM p s r) : (trc p noF 0 (St.ofL s)).2.get r = (trc p (frc lines values) 0 (St.ofL s)).2.get r := by
  refine outside_run (valP_ok.1 (chk_ok.1 hc).1).2 (Ms.set ⟨false, false, false, false⟩ r true) (frc lines values) _ 0 _ _ (Nat.le_add_left _ _) (fun q _ _ _ => rfl) ?_ r r0 r3 ?_
  · intro j hj
    rw [slAt_slice] at hj
    have hj' : (j : Int) ∈ sliceM p s r := by simpa using hj
    have hnc : lines.contains (j : Int) = false := by
      cases e : lines.contains (j : Int) with
      | false => rfl
      | true => exact absurd hj' (hout _ (by simpa using e))
    exact frcN_none hnc _ (Nat.le_refl _)
  · rw [Ms.get_set' _ _ _ _ r0 r3 r0 r3, if_pos rfl]
end Go.Proofs.YtmlbgfnddgbpbaaGreat

namespace Go.Proofs.YtmlbgfnddgbpbaaGreat
open Go.RowKit

/-- An edit. -/
structure Ed where
  at_ : Int
  l : Ln
deriving DecidableEq
def encE (e : Ed) : List Value := .int .i64 e.at_ :: encL e.l
theorem encE_len (e : Ed) : (encE e).length = 5 := rfl
abbrev EditsAt (w : World) (v : Value) (x : List Ed) : Prop := SlcAt 5 encE w v x
theorem edits_at {w : World} {a : Option Addr} {n c : Nat} {x : List Ed} (h : EditsAt w (.slice a n c) x) {k : Nat} {t op d a' b' : Int} (hx : x[k]? = some ⟨t, ⟨op, d, a', b'⟩⟩) : ∃ b o, a = some ⟨b, o, none⟩ ∧ b < w.heap.size ∧
    w.cell? ⟨b, o + k * 5, none⟩ = some (.int .i64 t) ∧ w.cell? ⟨b, o + k * 5 + 1, none⟩ = some (.int .i64 op) ∧ w.cell? ⟨b, o + k * 5 + 2, none⟩ = some (.int .i64 d) ∧ w.cell? ⟨b, o + k * 5 + 3, none⟩ = some (.int .i64 a') ∧ w.cell? ⟨b, o + k * 5 + 4, none⟩ = some (.int .i64 b') := by
  obtain ⟨_, _, e, _, _, h⟩ := h
  cases e
  obtain ⟨b, o, rfl, hb, hc⟩ := h.resolve_left (by intro h0; rw [h0.1] at hx; simp at hx)
  exact ⟨b, o, rfl, hb, hc k _ hx 0 _ rfl, hc k _ hx 1 _ rfl, hc k _ hx 2 _ rfl, hc k _ hx 3 _ rfl, hc k _ hx 4 _ rfl⟩
def prevAt (x : List Ed) (i : Nat) : Int := if i = 0 then -1 else match x[i - 1]? with | some e => e.at_ | none => -1
def edOK (x : List Ed) (i : Nat) : Bool := match x[i]? with | some e => decide (0 ≤ e.at_) && decide (e.at_ < 8) && (decide (prevAt x i < e.at_) && e.l.ok) | none => true
def edsOK (x : List Ed) : Bool := (List.range x.length).all (edOK x)
/-- The errors of a patch. -/
def valX (x : List Ed) : Int := if 4 < x.length then 3 else errB (edsOK x)
theorem edOK_iff {x : List Ed} {i : Nat} {e : Ed} (h : x[i]? = some e) : edOK x i = true ↔ (0 ≤ e.at_ ∧ e.at_ < 8) ∧ prevAt x i < e.at_ ∧ e.l.ok = true := by
  unfold edOK; rw [h]; simp
theorem edsOK_at {x : List Ed} (h : edsOK x = true) {i : Nat} {e : Ed} (hx : x[i]? = some e) : (0 ≤ e.at_ ∧ e.at_ < 8) ∧ prevAt x i < e.at_ ∧ e.l.ok = true :=
  (edOK_iff hx).1 (List.all_eq_true.1 h i (List.mem_range.2 (List.getElem?_eq_some_iff.1 hx).1))
theorem edsOK_upto {x : List Ed} {k : Nat} (h : ∀ i < k, edOK x i = true) (hk : x.length ≤ k) : edsOK x = true := List.all_eq_true.2 fun i hi => h i (by have := List.mem_range.1 hi; omega)
theorem edsOK_bad {x : List Ed} {k : Nat} (hk : k < x.length) (h : edOK x k = false) : edsOK x = false := by
  rw [← Bool.not_eq_true]
  intro h2
  have := List.all_eq_true.1 h2 k (List.mem_range.2 hk)
  rw [h] at this; cases this
theorem valX_ok {x : List Ed} : valX x = 0 ↔ x.length ≤ 4 ∧ edsOK x = true := by
  unfold valX errB
  by_cases h : 4 < x.length
  · simp only [h, if_true]; exact ⟨fun h => (by cases h), fun h2 => (by omega)⟩
  · simp only [h, if_false]
    cases hp : edsOK x <;> simp; omega
/-- The places rise. -/
theorem eds_lt {x : List Ed} (h : edsOK x = true) : ∀ (j i : Nat) (e f : Ed), i < j → x[i]? = some e → x[j]? = some f → e.at_ < f.at_
  | 0, _, _, _, hij, _, _ => by omega
  | j + 1, i, e, f, hij, he, hf => by
    have hp := (edsOK_at h hf).2.1
    have hj : j < x.length := by have := (List.getElem?_eq_some_iff.1 hf).1; omega
    obtain ⟨g, hg⟩ : ∃ g, x[j]? = some g := ⟨_, List.getElem?_eq_getElem hj⟩
    have hpv : prevAt x (j + 1) = g.at_ := by
      unfold prevAt
      rw [if_neg (by omega), show j + 1 - 1 = j by omega, hg]
    rw [hpv] at hp
    by_cases hi : i = j
    · subst hi; rw [he] at hg; cases hg; exact hp
    · have := eds_lt h j i e g (by omega) he hg
      omega
def atB (j : Int) (e : Ed) : Bool := decide (e.at_ = j)
/-- The program after a patch. -/
def doM (p : List Ln) (x : List Ed) : List Ln := p.mapIdx fun j l => match x.find? (atB j) with | some e => e.l | none => l
theorem doM_length (p : List Ln) (x : List Ed) : (doM p x).length = p.length := by simp [doM]
theorem doM_get (p : List Ln) (x : List Ed) (j : Nat) : (doM p x)[j]? = (p[j]?).map fun l => match x.find? (atB j) with | some e => e.l | none => l := by
  unfold doM; rw [List.getElem?_mapIdx]
theorem doM_ok {p : List Ln} {x : List Ed} (hp : valP p = 0) (hx : ∀ e ∈ x, e.l.ok = true) : valP (doM p x) = 0 := by
  obtain ⟨h1, h2⟩ := valP_ok.1 hp
  refine valP_ok.2 ⟨by rw [doM_length]; exact h1, fun l hl => ?_⟩
  obtain ⟨j, hj⟩ := List.getElem?_of_mem hl
  rw [doM_get] at hj
  cases hpj : p[j]? with
  | none => rw [hpj] at hj; cases hj
  | some m =>
    rw [hpj] at hj
    simp only [Option.map_some, Option.some.injEq] at hj
    cases hf : x.find? (atB j) with
    | none => rw [hf] at hj; dsimp only at hj; rw [← hj]; exact h2 _ (List.mem_of_getElem? hpj)
    | some e => rw [hf] at hj; dsimp only at hj; rw [← hj]; exact hx _ (List.mem_of_find?_eq_some hf)
theorem find_snoc_other {ys : List Ed} {e : Ed} {j : Int} (h : e.at_ ≠ j) : (ys ++ [e]).find? (atB j) = ys.find? (atB j) := by
  rw [List.find?_append]
  have : [e].find? (atB j) = none := by simp [atB, h]
  rw [this]; cases ys.find? (atB j) <;> rfl
theorem find_take_none {x : List Ed} (h : edsOK x = true) {k : Nat} {e : Ed} (hx : x[k]? = some e) : (x.take k).find? (atB e.at_) = none := by
  rw [List.find?_eq_none]
  intro f hf
  obtain ⟨i, hi⟩ := List.getElem?_of_mem hf
  rw [List.getElem?_take] at hi
  split at hi
  · next hik => have := eds_lt h k i f e hik hi hx; simp [atB]; omega
  · cases hi
theorem find_snoc_same {ys : List Ed} {e : Ed} (h : ys.find? (atB e.at_) = none) : (ys ++ [e]).find? (atB e.at_) = some e := by
  rw [List.find?_append, h]
  simp [atB]
/-- The lines put one after the other. -/
def setAll (p : List Ln) (x : List Ed) : List Ln := x.foldl (fun q e => q.set e.at_.toNat e.l) p
theorem setAll_snoc (p : List Ln) (x : List Ed) (e : Ed) : setAll p (x ++ [e]) = (setAll p x).set e.at_.toNat e.l := by unfold setAll; rw [List.foldl_append]; rfl
theorem setAll_length (p : List Ln) (x : List Ed) : (setAll p x).length = p.length := by
  unfold setAll
  induction x generalizing p with
  | nil => rfl
  | cons e r ih => rw [List.foldl_cons, ih, List.length_set]
theorem setAll_take {p : List Ln} {x : List Ed} (h : edsOK x = true) : ∀ k, k ≤ x.length → setAll p (x.take k) = doM p (x.take k)
  | 0, _ => by
    refine List.ext_getElem? fun j => ?_
    rw [doM_get, List.take_zero]
    cases hj : p[j]? with
    | none => exact hj
    | some l => exact hj
  | k + 1, hk => by
    obtain ⟨e, he⟩ : ∃ e, x[k]? = some e := ⟨_, List.getElem?_eq_getElem (by omega)⟩
    have ih := setAll_take h k (by omega) (p := p)
    have ht : x.take (k + 1) = x.take k ++ [e] := by rw [List.take_add_one, he]; rfl
    obtain ⟨⟨e0, _⟩, _⟩ := edsOK_at h he
    rw [ht, setAll_snoc, ih]
    refine List.ext_getElem? fun j => ?_
    rw [doM_get]
    by_cases hj : e.at_ = (j : Int)
    · have hn : e.at_.toNat = j := by omega
      rw [hn, ← hj, find_snoc_same (find_take_none h he)]
      by_cases hl : j < p.length
      · rw [List.getElem?_set_self (by rw [doM_length]; exact hl), List.getElem?_eq_getElem hl]; rfl
      · rw [List.getElem?_eq_none (by rw [List.length_set, doM_length]; omega), List.getElem?_eq_none (by omega)]; rfl
    · rw [List.getElem?_set_ne (by omega), find_snoc_other hj, doM_get]
theorem setAll_eq {p : List Ln} {x : List Ed} (h : edsOK x = true) : setAll p x = doM p x := by
  have := setAll_take (p := p) h x.length (Nat.le_refl _)
  rwa [List.take_length] at this
/-- Some place is no line of the program. -/
def offB (n : Nat) (x : List Ed) : Bool := x.any fun e => decide ((n : Int) ≤ e.at_)
/-- The errors of a program, a patch and tests. -/
def chkX (p : List Ln) (x : List Ed) (ts : List Tst) : Int := if valP p = 0 then (if valX x = 0 then (if valT ts = 0 then (if offB p.length x then 4 else 0) else valT ts) else valX x) else valP p
theorem chkX_ok {p : List Ln} {x : List Ed} {ts : List Tst} : chkX p x ts = 0 ↔ valP p = 0 ∧ valX x = 0 ∧ valT ts = 0 ∧ offB p.length x = false := by
  unfold chkX
  by_cases h1 : valP p = 0
  · by_cases h2 : valX x = 0
    · by_cases h3 : valT ts = 0
      · cases h4 : offB p.length x <;> simp [h1, h2, h3]
      · simp [h1, h2, h3]
    · simp [h1, h2]
  · simp [h1]
def goodM (p : List Ln) (x : List Ed) (ts : List Tst) : Bool := ts.all fun t => passM (doM p x) t
theorem whereL_nil {α : Type} {f : α → Bool} {ts : List α} : (whereL (fun t => !f t) ts).length = 0 ↔ ts.all f = true := by
  rw [List.length_eq_zero_iff, List.all_eq_true]
  constructor
  · intro h t ht
    obtain ⟨k, hk⟩ := List.getElem?_of_mem ht
    cases hf : f t with
    | true => rfl
    | false =>
      have : (k : Int) ∈ whereL (fun t => !f t) ts := mem_whereL.2 ⟨k, t, rfl, hk, by simp [hf]⟩
      rw [h] at this; cases this
  · intro h
    refine List.eq_nil_iff_forall_not_mem.2 fun i hi => ?_
    obtain ⟨k, t, _, hk, hf⟩ := mem_whereL.1 hi
    rw [h t (List.mem_of_getElem? hk)] at hf
    cases hf
end Go.Proofs.YtmlbgfnddgbpbaaGreat
