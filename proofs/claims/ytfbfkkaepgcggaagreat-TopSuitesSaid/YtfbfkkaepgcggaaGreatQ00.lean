/-
General lemmas on worlds and slices: what a later world keeps, when a slice value holds a list, and what a list that was made holds. No program is named.
The plain functions behind layer 1: what the program's functions compute, on lists of integers. No program is named.
The plain functions behind layer 1: states, what a line does, and the run of a program as a list of visits. No program is named.
General lemmas, more of them: whole lists appended, what a cut of a list holds. No program is named.
The plain functions behind layer 2: tests, and which of them pass. No program is named.
-/
import Derived.WalkKit
import Derived.WalkSpells
import Derived.WalkLawsBesides
import Derived.WalkSmall
import Derived.Lib.Hide
import Derived.Laws.EntriesVeiled
import Derived.Shelf.Abstract
namespace Go.Proofs.YtfbfkkaepgcggaaGreat
open Go.RowKit

/-- Every block that was there in w is in w' as it was. -/
def Grow (w w' : World) : Prop := Below w.heap.size w w'

namespace Grow
variable {a b c w w' : World}
theorem refl (w : World) : Grow w w := Below.refl _ _
theorem sz (h : Grow w w') : w.heap.size ≤ w'.heap.size := Below.size h
theorem trans (h : Grow a b) (k : Grow b c) : Grow a c := Below.trans h (Below.mono k h.sz)
theorem alloc (h : Grow a w) (o : Obj) : Grow a (w.alloc o) := Below.alloc h h.sz o
theorem drew (h : Grow a w) : Grow a w.drew := Below.drew h
theorem drewN (h : Grow a w) (n : Nat) : Grow a (w.drewN n) := below_drewN h n
theorem heap (h : Grow w w') {k : Nat} (hk : k < w.heap.size) : w'.heap[k]? = w.heap[k]? := Below.block h k hk
theorem blk (h : Grow w w') {k : Nat} {o : Obj} (hk : w.heap[k]? = some o) : w'.heap[k]? = some o := (h.heap (lt_of_block hk)).trans hk
theorem cellsB (hb : Grow w w') : (∀ b o, b < w.heap.size → w'.cell? ⟨b, o, none⟩ = w.cell? ⟨b, o, none⟩) ∧ (∀ b o, b < w.heap.size → w'.frozen? ⟨b, o, none⟩ = w.frozen? ⟨b, o, none⟩) :=
  ⟨fun b o h => Below.cell (p := ⟨b, o, none⟩) hb h, fun b o h => Below.frozen (p := ⟨b, o, none⟩) hb h⟩
theorem cell (hb : Grow w w') {a : Addr} {v : Value} (h : w.cell? a = some v) : w'.cell? a = some v :=
  (Below.cell hb (World.block_lt_of_cell? _ _ h)).trans h
theorem grownBy (h : Grow w w') (r : Option Nat) : w.grownBy w' r := ⟨Below.os h, Below.tape h, Below.output h, Below.size h, fun k hk _ => Below.block h k hk⟩
theorem of_grownBy (h : w.grownBy w' none) : Grow w w' := ⟨h.os, h.tape, h.output, h.size, fun k hk => h.block k hk (by simp)⟩
theorem owns (h : Grow w w') {base : Nat} {e : TypeId} {size : Nat} {v : Value} {n : Nat} {xs : List Value} (ho : w.ownsRow base e size v n xs) : w'.ownsRow base e size v n xs :=
  ho.kept (h.grownBy none) (by cases hv : v.ownBlock <;> simp)
theorem below (h : Grow w w') {B : Nat} (hB : B ≤ w.heap.size) : Below B w w' := Below.mono h hB
end Grow

theorem Below.of_grow {B : Nat} {a w w' : World} (h : Below B a w) (k : Grow w w') (hB : B ≤ w.heap.size) : Below B a w' := Below.trans h (k.below hB)

theorem heap_two0 (w : World) (A B : Obj) : ((w.alloc A).alloc B).heap[w.heap.size]? = some A := by
  rw [Below.heap_alloc _ _ _ (by simp)]; exact heap_alloc_new w A
theorem heap_two1 (w : World) (A B : Obj) : ((w.alloc A).alloc B).heap[w.heap.size + 1]? = some B := by
  have := heap_alloc_new (w.alloc A) B
  rwa [World.size_alloc] at this

/-- A slice value holds the list xs, each element in k cells as enc says. -/
def SlcAt {α : Type} (k : Nat) (enc : α → List Value) (w : World) (v : Value) (xs : List α) : Prop :=
  ∃ a c, v = .slice a xs.length c ∧ xs.length ≤ c ∧ c ≤ 9223372036854775807 ∧
    ((xs = [] ∧ (a = none → c = 0)) ∨ ∃ b o, a = some ⟨b, o, none⟩ ∧ b < w.heap.size ∧ ∀ j x, xs[j]? = some x → ∀ i u, (enc x)[i]? = some u → w.cell? ⟨b, o + j * k + i, none⟩ = some u)

theorem SlcAt.grow {α : Type} {k : Nat} {enc : α → List Value} {w w' : World} {v : Value} {xs : List α} (h : SlcAt k enc w v xs) (g : Grow w w') : SlcAt k enc w' v xs := by
  obtain ⟨a, c, h1, h2, h3, h4⟩ := h
  refine ⟨a, c, h1, h2, h3, h4.imp id ?_⟩
  rintro ⟨b, o, e, hb, hc⟩
  exact ⟨b, o, e, Nat.lt_of_lt_of_le hb g.sz, fun j x hx i u hu => g.cell (hc j x hx i u hu)⟩

theorem SlcAt.nil {α : Type} (k : Nat) (enc : α → List Value) (w : World) : SlcAt k enc w (.slice none 0 0) [] := ⟨none, 0, rfl, by simp, by simp, .inl ⟨rfl, fun _ => rfl⟩⟩

/-- A list that the call has made, from the block base on. -/
def Own {α : Type} (k : Nat) (enc : α → List Value) (base : Nat) (w : World) (v : Value) (xs : List α) : Prop :=
  ∃ e, w.ownsRow base e k v xs.length (xs.flatMap enc)

theorem Own.grow {α : Type} {k : Nat} {enc : α → List Value} {base : Nat} {w w' : World} {v : Value} {xs : List α} (h : Own k enc base w v xs) (g : Grow w w') : Own k enc base w' v xs :=
  let ⟨e, he⟩ := h; ⟨e, g.owns he⟩

theorem ownsRow_mono {w : World} {base base' : Nat} {e : TypeId} {size : Nat} {v : Value} {n : Nat} {xs : List Value} (h : w.ownsRow base e size v n xs) (hb : base' ≤ base) : w.ownsRow base' e size v n xs := by
  obtain ⟨h1, h2⟩ := h
  refine ⟨h1, h2.imp id ?_⟩
  rintro ⟨g, cap, cur, a, b, c, d⟩
  exact ⟨g, cap, cur, a, Nat.le_trans hb b, c, d⟩

theorem Own.mono {α : Type} {k : Nat} {enc : α → List Value} {base base' : Nat} {w : World} {v : Value} {xs : List α} (h : Own k enc base w v xs) (hb : base' ≤ base) : Own k enc base' w v xs :=
  let ⟨e, he⟩ := h; ⟨e, ownsRow_mono he hb⟩

theorem flatMap_getElem? {α : Type} {k : Nat} {enc : α → List Value} (hk : ∀ x, (enc x).length = k) : ∀ (xs : List α) (j : Nat) (x : α), xs[j]? = some x → ∀ i, i < k → (xs.flatMap enc)[j * k + i]? = (enc x)[i]?
  | [], j, x, h, i, hi => by simp at h
  | y :: ys, 0, x, h, i, hi => by
    simp at h; subst h
    simp [List.flatMap_cons, List.getElem?_append, hk, hi]
  | y :: ys, j + 1, x, h, i, hi => by
    simp at h
    have ih := flatMap_getElem? hk ys j x h i hi
    rw [List.flatMap_cons, List.getElem?_append_right (by rw [hk, Nat.succ_mul]; omega), hk, ← ih]
    congr 1
    rw [Nat.succ_mul]; omega

theorem flatMap_length {α : Type} {k : Nat} {enc : α → List Value} (hk : ∀ x, (enc x).length = k) : ∀ (xs : List α), (xs.flatMap enc).length = xs.length * k
  | [] => by simp
  | y :: ys => by rw [List.flatMap_cons, List.length_append, hk, flatMap_length hk ys, List.length_cons, Nat.succ_mul]; omega

/-- What was made can be read. -/
theorem slc_of_owns {α : Type} {k : Nat} {enc : α → List Value} (hk : ∀ x, (enc x).length = k) {base : Nat} {e : TypeId} {w : World} {v : Value} {xs : List α}
    (h : w.ownsRow base e k v xs.length (xs.flatMap enc)) : SlcAt k enc w v xs := by
  rcases h.2 with ⟨rfl, h0⟩ | ⟨g, cap, cur, rfl, hb, hh, hn, hm, hcs, htake⟩
  · have : xs = [] := List.eq_nil_of_length_eq_zero h0
    subst this
    exact SlcAt.nil _ _ _
  · refine ⟨_, cap, rfl, hn, by simpa [maxLen] using hm, .inr ⟨g, 0, rfl, lt_of_block hh, fun j x hx i u hu => ?_⟩⟩
    have hi : i < k := by rw [← hk x]; exact (List.getElem?_eq_some_iff.1 hu).1
    have hj : j < xs.length := (List.getElem?_eq_some_iff.1 hx).1
    have hf := flatMap_getElem? hk xs j x hx i hi
    have hlt : j * k + i < xs.length * k := by
      have : (j + 1) * k ≤ xs.length * k := Nat.mul_le_mul_right _ hj
      rw [Nat.succ_mul] at this; omega
    have := World.ownsRow.cellAt (w := w) (base := base) (e := e) (size := k) (g := g) (n := xs.length) (cap := cap) h (j * k + i) hlt
    rw [Nat.zero_add, this, hf, hu]

theorem Own.slc {α : Type} {k : Nat} {enc : α → List Value} (hk : ∀ x, (enc x).length = k) {base : Nat} {w : World} {v : Value} {xs : List α} (h : Own k enc base w v xs) : SlcAt k enc w v xs :=
  let ⟨_, he⟩ := h; slc_of_owns hk he

theorem Own.nil {α : Type} (k : Nat) (enc : α → List Value) (base : Nat) (w : World) : Own k enc base w (.slice none 0 0) [] := ⟨0, World.ownsRow_nil _ _ _ _⟩

/-! ### One element appended to a list that the call has made -/
theorem wpList_app {P : Program} {α : Type} (w : World) {ops : Array Oper} {rest : List Oper} {o : Oper} {a : Act} {Q : Exit → Act → World → Prop} (hgd : o.guard = none) (s x : Operand) (t : TypeId)
    (ho : o.op = .call { callee := .builtin .append, args := #[s, x], argTypes := #[t, t] })
    (base : Nat) (e : TypeId) {k bytes : Nat} {z : Value} (ht : P.underlying t = some (.slice e)) (info : (P.info? e).map (fun i => (i.zero, i.size, i.bytes)) = some (some z, k, bytes))
    (hzs : z.cells.size = k) (hk : 0 < k) (hby : bytes ≤ 1000)
    (enc : α → List Value) (hen : ∀ x, (enc x).length = k) (h1 : ∀ x, ∀ u ∈ enc x, u.oneCell' = true)
    (v : Value) (xs : List α) (hs : a.eval s = v) (hown : w.ownsRow base e k v xs.length (xs.flatMap enc)) (ad : Addr) (y : α) (c : Nat) (hx : a.eval x = .slice (some ad) 1 c)
    (hnews : ∀ j u, (enc y)[j]? = some u → w.cell? (ad.add j) = some u) (hn : xs.length < 100000000000) (hbase : base ≤ w.heap.size)
    (h : ∀ v' w', w'.ownsRow base e k v' (xs ++ [y]).length ((xs ++ [y]).flatMap enc) → w.grownBy w' v.ownBlock → wpList P ops Q rest (a.put o.dst v') w') : wpList P ops Q (o :: rest) a w := by
  obtain ⟨i, hi, hz0, hz1, hz2⟩ := info_parts info
  refine wpList_append_own w hgd s x t ho base e i z k bytes ht hi hz0 hz1 hz2 hzs hk v xs.length (xs.flatMap enc) hs hown ad 1 c (enc y) hx (by rw [hen]; omega) hnews (h1 y) (by unfold maxLen; omega) ?_ hbase ?_
  · exact Nat.le_trans (Nat.mul_le_mul (show xs.length + 1 ≤ 100000000000 by omega) hby) (by decide)
  · intro v' w' a1 a2 _
    refine h v' w' ?_ a2
    rw [List.length_append, List.flatMap_append]
    simpa using a1

theorem grown_keep {w w' w0 : World} {base : Nat} {e : TypeId} {k : Nat} {v : Value} {n : Nat} {xs : List Value} (hown : w0.ownsRow base e k v n xs) (hg : w.grownBy w' v.ownBlock) {j : Nat} {o : Obj} (hj : j < base) (h : w.heap[j]? = some o) : w'.heap[j]? = some o := by
  rw [hg.block j (lt_of_block h) (fun e => by have := (hown.lt j e.symm).1; omega)]; exact h
theorem grown_keep_new {w w' w0 : World} {base : Nat} {e : TypeId} {k : Nat} {v : Value} {n : Nat} {xs : List Value} (hown : w0.ownsRow base e k v n xs) (hg : w.grownBy w' v.ownBlock) {j : Nat} {o : Obj} (hj : w0.heap.size ≤ j) (h : w.heap[j]? = some o) : w'.heap[j]? = some o := by
  rw [hg.block j (lt_of_block h) (fun e => by have := (hown.lt j e.symm).2; omega)]; exact h
theorem grown_below {w w' w0 a : World} {base B : Nat} {e : TypeId} {k : Nat} {v : Value} {n : Nat} {xs : List Value} (hown : w0.ownsRow base e k v n xs) (hg : w.grownBy w' v.ownBlock) (hB : B ≤ base) (hsz : B ≤ w.heap.size) (hb : Below B a w) : Below B a w' :=
  Below.grown hb hg hsz (fun j hj => by have := (hown.lt j hj).1; omega)
theorem news_one (w : World) (cs : List Value) (t : TypeId) : ∀ j u, cs[j]? = some u → (w.alloc (.cells cs.toArray t)).cell? ((⟨w.heap.size, 0, none⟩ : Addr).add j) = some u := by
  intro j u hj
  rw [Addr.add_lit, World.cell?_alloc_new]; simpa using hj
theorem news_two (w : World) (A : Obj) (cs : List Value) (t : TypeId) : ∀ j u, cs[j]? = some u → ((w.alloc A).alloc (.cells cs.toArray t)).cell? ((⟨w.heap.size + 1, 0, none⟩ : Addr).add j) = some u := by
  intro j u hj
  have := news_one (w.alloc A) cs t j u hj
  rwa [World.size_alloc] at this

/-! ### Lists of integers -/
def encI (n : Int) : List Value := [.int .i64 n]
theorem encI_len (n : Int) : (encI n).length = 1 := rfl
/-- The slice value v holds the integers xs. -/
abbrev IntsAt (w : World) (v : Value) (xs : List Int) : Prop := SlcAt 1 encI w v xs
abbrev OwnI (base : Nat) (w : World) (v : Value) (xs : List Int) : Prop := Own 1 encI base w v xs
theorem ints_cell {w : World} {b o : Nat} {xs : List Int} (hc : ∀ j x, xs[j]? = some x → ∀ i u, (encI x)[i]? = some u → w.cell? ⟨b, o + j * 1 + i, none⟩ = some u) (j : Nat) (x : Int) (h : xs[j]? = some x) : w.cell? ⟨b, o + j, none⟩ = some (.int .i64 x) := by
  simpa using hc j x h 0 _ rfl

/-! ### Lines -/
structure Ln where
  op : Int
  d : Int
  a : Int
  b : Int
deriving DecidableEq, Inhabited
def encL (l : Ln) : List Value := [.int .i64 l.op, .int .i64 l.d, .int .i64 l.a, .int .i64 l.b]
theorem encL_len (l : Ln) : (encL l).length = 4 := rfl
abbrev LinesAt (w : World) (v : Value) (p : List Ln) : Prop := SlcAt 4 encL w v p
theorem lines_cell {w : World} {b o : Nat} {p : List Ln} (hc : ∀ j x, p[j]? = some x → ∀ i u, (encL x)[i]? = some u → w.cell? ⟨b, o + j * 4 + i, none⟩ = some u) (j : Nat) (op d a c : Int) (h : p[j]? = some ⟨op, d, a, c⟩) :
    w.cell? ⟨b, o + j * 4, none⟩ = some (.int .i64 op) ∧ w.cell? ⟨b, o + j * 4 + 1, none⟩ = some (.int .i64 d) ∧ w.cell? ⟨b, o + j * 4 + 2, none⟩ = some (.int .i64 a) ∧ w.cell? ⟨b, o + j * 4 + 3, none⟩ = some (.int .i64 c) :=
  ⟨hc j _ h 0 _ rfl, hc j _ h 1 _ rfl, hc j _ h 2 _ rfl, hc j _ h 3 _ rfl⟩

end Go.Proofs.YtfbfkkaepgcggaaGreat

namespace Go.Proofs.YtfbfkkaepgcggaaGreat

def inB (n lo hi : Int) : Bool := decide (lo ≤ n) && decide (n ≤ hi)
theorem inB_def (n lo hi : Int) : inB n lo hi = (decide (lo ≤ n) && decide (n ≤ hi)) := rfl
theorem inB_true {n lo hi : Int} : inB n lo hi = true ↔ lo ≤ n ∧ n ≤ hi := by simp [inB_def]
theorem inB_false {n lo hi : Int} : inB n lo hi = false ↔ n < lo ∨ hi < n := by simp [inB_def]; omega

/-- A valid line. -/
def vL (op d a b : Int) : Bool :=
  if op = 0 then decide (d = 0) && decide (a = 0) && decide (b = 0)
  else if op = 1 then inB d 0 3 && inB a (-9) 9 && decide (b = 0)
  else if op = 2 then inB d 0 3 && inB a 0 3 && decide (b = 0)
  else if op = 3 ∨ op = 4 ∨ op = 5 ∨ op = 6 then inB d 0 3 && inB a 0 3 && inB b 0 3
  else if op = 7 then inB d 1 8 && inB a 0 3 && inB b 0 3
  else false
def Ln.ok (l : Ln) : Bool := vL l.op l.d l.a l.b
/-- OK or ErrArg. -/
def errB (b : Bool) : Int := if b then 0 else 1
theorem errB_true : errB true = 0 := rfl
theorem errB_false : errB false = 1 := rfl
def valP (p : List Ln) : Int := if 8 < p.length then 3 else errB (p.all Ln.ok)
def valS (s : List Int) : Int := if s.length = 4 then errB (s.all fun n => inB n (-999) 999) else 1
/-- The errors of a program and a state. -/
def chk (p : List Ln) (s : List Int) : Int := if valP p = 0 then valS s else valP p

theorem valP_ok {p : List Ln} : valP p = 0 ↔ p.length ≤ 8 ∧ ∀ l ∈ p, l.ok = true := by
  unfold valP errB
  by_cases h : 8 < p.length
  · simp only [h, if_true]
    exact ⟨fun h => (by cases h), fun h2 => (by omega)⟩
  · simp only [h, if_false]
    cases hp : p.all Ln.ok
    · simp only [Bool.false_eq_true, if_false]
      constructor
      · intro h; cases h
      · rintro ⟨_, h2⟩; rw [List.all_eq_true.2 h2] at hp; cases hp
    · simp only [if_true, true_iff]
      exact ⟨by omega, List.all_eq_true.1 hp⟩
theorem valS_ok {s : List Int} : valS s = 0 ↔ s.length = 4 ∧ ∀ n ∈ s, -999 ≤ n ∧ n ≤ 999 := by
  unfold valS errB
  by_cases h : s.length = 4
  · simp only [h, if_true, true_and]
    cases hp : s.all fun n => inB n (-999) 999
    · simp only [Bool.false_eq_true, if_false]
      constructor
      · intro h; cases h
      · intro h2; rw [List.all_eq_true.2 (fun n hn => inB_true.2 (h2 n hn))] at hp; cases hp
    · simp only [if_true, true_iff]
      exact fun n hn => inB_true.1 (List.all_eq_true.1 hp n hn)
  · simp [h]
theorem chk_ok {p : List Ln} {s : List Int} : chk p s = 0 ↔ valP p = 0 ∧ valS s = 0 := by
  unfold chk; by_cases h : valP p = 0 <;> simp [h]

/-- A line writes a register. -/
def wrB (op : Int) : Bool := inB op 1 6
end Go.Proofs.YtfbfkkaepgcggaaGreat

namespace Go.Proofs.YtfbfkkaepgcggaaGreat

/-- A state: the numbers of the four registers. -/
structure St where
  r0 : Int
  r1 : Int
  r2 : Int
  r3 : Int
deriving DecidableEq, Inhabited
def St.toL (s : St) : List Int := [s.r0, s.r1, s.r2, s.r3]
def encS (s : St) : List Value := [.int .i64 s.r0, .int .i64 s.r1, .int .i64 s.r2, .int .i64 s.r3]
def St.get (s : St) (r : Int) : Int := if r = 0 then s.r0 else if r = 1 then s.r1 else if r = 2 then s.r2 else s.r3
def St.set (s : St) (r n : Int) : St := if r = 0 then { s with r0 := n } else if r = 1 then { s with r1 := n } else if r = 2 then { s with r2 := n } else { s with r3 := n }
/-- All registers are within the bounds. -/
def St.fine (s : St) : Prop := (-999 ≤ s.r0 ∧ s.r0 ≤ 999) ∧ (-999 ≤ s.r1 ∧ s.r1 ≤ 999) ∧ (-999 ≤ s.r2 ∧ s.r2 ≤ 999) ∧ (-999 ≤ s.r3 ∧ s.r3 ≤ 999)
theorem St.get_fine {s : St} (h : s.fine) (r : Int) : -999 ≤ s.get r ∧ s.get r ≤ 999 := by
  obtain ⟨h0, h1, h2, h3⟩ := h
  unfold St.get
  split
  · exact h0
  · split
    · exact h1
    · split
      · exact h2
      · exact h3
theorem St.set_fine {s : St} (h : s.fine) (r : Int) {n : Int} (hn : -999 ≤ n ∧ n ≤ 999) : (s.set r n).fine := by
  obtain ⟨h0, h1, h2, h3⟩ := h
  unfold St.set
  split
  · exact ⟨hn, h1, h2, h3⟩
  · split
    · exact ⟨h0, hn, h2, h3⟩
    · split
      · exact ⟨h0, h1, hn, h3⟩
      · exact ⟨h0, h1, h2, hn⟩
theorem St.of_valS {s : List Int} (h : valS s = 0) : ∃ q : St, q.toL = s ∧ q.fine := by
  obtain ⟨h1, h2⟩ := valS_ok.1 h
  match s, h1 with
  | [a, b, c, d], _ => exact ⟨⟨a, b, c, d⟩, rfl, h2 a (by simp), h2 b (by simp), h2 c (by simp), h2 d (by simp)⟩

def cut (n : Int) : Int := max (-999) (min 999 n)
theorem cut_fine (n : Int) : -999 ≤ cut n ∧ cut n ≤ 999 := by unfold cut; omega
/-- What a line that writes makes of two registers and its number A. -/
def opV (op a x y : Int) : Int := if op = 1 then a else if op = 2 then x else if op = 3 then x + y else if op = 4 then x - y else if op = 5 then min x y else max x y
def stepS (f : Nat → Option Int) (l : Ln) (i : Nat) (s : St) : St :=
  if wrB l.op then s.set l.d (cut ((f i).getD (opV l.op l.a (s.get l.a) (s.get l.b)))) else s
def nextI (l : Ln) (i : Nat) (s : St) : Nat := if l.op = 7 ∧ s.get l.a < s.get l.b then i + 1 + l.d.toNat else i + 1
theorem nextI_gt (l : Ln) (i : Nat) (s : St) : i < nextI l i s := by unfold nextI; split <;> omega
/-- The lines that are done, each with the state before it, and the state at the end. -/
def trcN (p : List Ln) (f : Nat → Option Int) : Nat → Nat → St → List (Nat × St) × St
  | 0, _, s => ([], s)
  | n + 1, i, s => match p[i]? with
    | none => ([], s)
    | some l => ((i, s) :: (trcN p f n (nextI l i s) (stepS f l i s)).1, (trcN p f n (nextI l i s) (stepS f l i s)).2)
def trc (p : List Ln) (f : Nat → Option Int) (i : Nat) (s : St) : List (Nat × St) × St := trcN p f (p.length - i) i s
theorem trcN_fuel (p : List Ln) (f : Nat → Option Int) : ∀ (n m i : Nat) (s : St), p.length ≤ i + n → p.length ≤ i + m → trcN p f n i s = trcN p f m i s
  | 0, 0, _, _, _, _ => rfl
  | 0, m + 1, i, s, h, _ => by
    have : p[i]? = none := List.getElem?_eq_none (by omega)
    simp [trcN, this]
  | n + 1, 0, i, s, _, h => by
    have : p[i]? = none := List.getElem?_eq_none (by omega)
    simp [trcN, this]
  | n + 1, m + 1, i, s, h1, h2 => by
    cases hl : p[i]? with
    | none => simp [trcN, hl]
    | some l =>
      have := nextI_gt l i s
      have ih := trcN_fuel p f n m (nextI l i s) (stepS f l i s) (by omega) (by omega)
      simp [trcN, hl, ih]
theorem trc_end {p : List Ln} {f : Nat → Option Int} {i : Nat} {s : St} (h : p.length ≤ i) : trc p f i s = ([], s) := by
  unfold trc; rw [show p.length - i = 0 by omega]; rfl
theorem trc_step {p : List Ln} {f : Nat → Option Int} {i : Nat} {s : St} {l : Ln} (h : p[i]? = some l) :
    trc p f i s = ((i, s) :: (trc p f (nextI l i s) (stepS f l i s)).1, (trc p f (nextI l i s) (stepS f l i s)).2) := by
  have hlt : i < p.length := (List.getElem?_eq_some_iff.1 h).1
  have := nextI_gt l i s
  unfold trc
  obtain ⟨n, hn⟩ : ∃ n, p.length - i = n + 1 := ⟨p.length - i - 1, by omega⟩
  rw [hn]
  simp only [trcN, h]
  rw [trcN_fuel p f n (p.length - nextI l i s) _ _ (by omega) (by omega)]

/-- How far a run has come: the visits so far, where it stands, and its state. -/
def Upto (p : List Ln) (f : Nat → Option Int) (s0 : St) (vs : List (Nat × St)) (i : Nat) (s : St) : Prop :=
  vs ++ (trc p f i s).1 = (trc p f 0 s0).1 ∧ (trc p f i s).2 = (trc p f 0 s0).2
theorem Upto.start (p : List Ln) (f : Nat → Option Int) (s0 : St) : Upto p f s0 [] 0 s0 := ⟨rfl, rfl⟩
theorem Upto.step {p : List Ln} {f : Nat → Option Int} {s0 : St} {vs : List (Nat × St)} {i : Nat} {s : St} {l : Ln} (h : Upto p f s0 vs i s) (hl : p[i]? = some l) :
    Upto p f s0 (vs ++ [(i, s)]) (nextI l i s) (stepS f l i s) := by
  obtain ⟨h1, h2⟩ := h
  rw [trc_step hl] at h1 h2
  exact ⟨by rw [← h1]; simp, h2⟩
theorem Upto.done {p : List Ln} {f : Nat → Option Int} {s0 : St} {vs : List (Nat × St)} {i : Nat} {s : St} (h : Upto p f s0 vs i s) (hi : p.length ≤ i) :
    vs = (trc p f 0 s0).1 ∧ s = (trc p f 0 s0).2 := by
  obtain ⟨h1, h2⟩ := h
  rw [trc_end hi] at h1 h2
  exact ⟨by rw [← h1]; simp, h2⟩

def encV (v : Nat × St) : List Value := [.int .i64 v.1, .int .i64 v.2.r0, .int .i64 v.2.r1, .int .i64 v.2.r2, .int .i64 v.2.r3]
theorem encV_len (v : Nat × St) : (encV v).length = 5 := rfl

/-! ### What the functions of the package answer -/
def St.ofL (l : List Int) : St := ⟨l.getD 0 0, l.getD 1 0, l.getD 2 0, l.getD 3 0⟩
def noF : Nat → Option Int := fun _ => none
/-- A list, if there is no error. -/
def ifOK {α : Type} (e : Int) (l : List α) : List α := if e = 0 then l else []
theorem ifOK_ok {α : Type} (l : List α) : ifOK 0 l = l := rfl
theorem ifOK_err {α : Type} {e : Int} (h : e ≠ 0) (l : List α) : ifOK e l = [] := by simp [ifOK, h]
def runM (p : List Ln) (s : List Int) : List Int := (trc p noF 0 (St.ofL s)).2.toL
def visits (p : List Ln) (s : List Int) : List (Nat × St) := (trc p noF 0 (St.ofL s)).1
/-! ### The block of a state -/
def arrS (s : St) : Array Value := #[.int .i64 s.r0, .int .i64 s.r1, .int .i64 s.r2, .int .i64 s.r3]
theorem arr_cell {w : World} {b : Nat} {s : St} {e : TypeId} (h : w.heap[b]? = some (.cells (arrS s) e (0, 0))) (r : Int) (h0 : 0 ≤ r) (h3 : r ≤ 3) : w.cell? ⟨b, r.toNat, none⟩ = some (.int .i64 (s.get r)) := by
  have : r = 0 ∨ r = 1 ∨ r = 2 ∨ r = 3 := by omega
  rcases this with rfl | rfl | rfl | rfl <;> simp [World.cell?, h, arrS, St.get]
theorem arr_cells {w : World} {b : Nat} {s : St} {e : TypeId} (h : w.heap[b]? = some (.cells (arrS s) e (0, 0))) :
    w.cell? ⟨b, 0, none⟩ = some (.int .i64 s.r0) ∧ w.cell? ⟨b, 1, none⟩ = some (.int .i64 s.r1) ∧ w.cell? ⟨b, 2, none⟩ = some (.int .i64 s.r2) ∧ w.cell? ⟨b, 3, none⟩ = some (.int .i64 s.r3) := by
  simp [World.cell?, h, arrS]
theorem arr_free {w : World} {b : Nat} {s : St} {e : TypeId} (h : w.heap[b]? = some (.cells (arrS s) e (0, 0))) (o : Nat) : w.frozen? ⟨b, o, none⟩ = false := by
  simp [World.frozen?, h]
theorem arr_set {w : World} {b : Nat} {s : St} {e : TypeId} (h : w.heap[b]? = some (.cells (arrS s) e (0, 0))) (r n : Int) (h0 : 0 ≤ r) (h3 : r ≤ 3) :
    (w.setCell ⟨b, r.toNat, none⟩ (.int .i64 n)).heap[b]? = some (.cells (arrS (s.set r n)) e (0, 0)) := by
  rw [heap_setCell_same w b _ _ e _ h]
  have : r = 0 ∨ r = 1 ∨ r = 2 ∨ r = 3 := by omega
  rcases this with rfl | rfl | rfl | rfl <;> rfl
/-- The four stores of a whole state. -/
def fillS (w : World) (b : Nat) (q : St) : World :=
  ((((w.setCell ⟨b, 0, none⟩ (.int .i64 q.r0)).setCell ⟨b, 1, none⟩ (.int .i64 q.r1)).setCell ⟨b, 2, none⟩ (.int .i64 q.r2)).setCell ⟨b, 3, none⟩ (.int .i64 q.r3)).drew
theorem arr_fill {w : World} {b : Nat} {s : St} {e : TypeId} (h : w.heap[b]? = some (.cells (arrS s) e (0, 0))) (q : St) : (fillS w b q).heap[b]? = some (.cells (arrS q) e (0, 0)) := by
  have h1 := arr_set h 0 q.r0 (by omega) (by omega)
  have h2 := arr_set h1 1 q.r1 (by omega) (by omega)
  have h3 := arr_set h2 2 q.r2 (by omega) (by omega)
  have h4 := arr_set h3 3 q.r3 (by omega) (by omega)
  exact h4
end Go.Proofs.YtfbfkkaepgcggaaGreat

namespace Go.Proofs.YtfbfkkaepgcggaaGreat
open Go.RowKit

/-- A whole list appended to a list that the call has made. -/
theorem wpList_appAll {P : Program} {α : Type} (w : World) {ops : Array Oper} {rest : List Oper} {o : Oper} {a : Act} {Q : Exit → Act → World → Prop} (hgd : o.guard = none) (s x : Operand) (t : TypeId)
    (ho : o.op = .call { callee := .builtin .append, args := #[s, x], argTypes := #[t, t] })
    (base : Nat) (e : TypeId) {k bytes : Nat} {z : Value} (ht : P.underlying t = some (.slice e)) (info : (P.info? e).map (fun i => (i.zero, i.size, i.bytes)) = some (some z, k, bytes))
    (hzs : z.cells.size = k) (hk : 0 < k) (hby : bytes ≤ 1000)
    (enc : α → List Value) (hen : ∀ x, (enc x).length = k) (h1 : ∀ x, ∀ u ∈ enc x, u.oneCell' = true)
    (v : Value) (xs : List α) (hs : a.eval s = v) (hown : w.ownsRow base e k v xs.length (xs.flatMap enc)) (u : Value) (ys : List α) (hx : a.eval x = u) (hsrc : SlcAt k enc w u ys)
    (hn : xs.length + ys.length < 100000000000) (hbase : base ≤ w.heap.size)
    (h : ∀ v' w', w'.ownsRow base e k v' (xs ++ ys).length ((xs ++ ys).flatMap enc) → w.grownBy w' v.ownBlock → wpList P ops Q rest (a.put o.dst v') w') : wpList P ops Q (o :: rest) a w := by
  obtain ⟨i, hi, hz0, hz1, hz2⟩ := info_parts info
  obtain ⟨ao, c, rfl, h2, h3, h4⟩ := hsrc
  cases ao with
  | none =>
    have hys : ys = [] ∧ c = 0 := by
      rcases h4 with ⟨h4, h5⟩ | ⟨b, o, h4, _⟩
      · exact ⟨h4, h5 rfl⟩
      · cases h4
    obtain ⟨rfl, rfl⟩ := hys
    refine wpList_plain hgd fun K hK' => ?_
    have hrun := run_append_owned_none (P := P) w base t o.type e i k ht hi v xs.length (xs.flatMap enc) hown
    unfold Oper.wp
    simp only [List.length_nil] at hx
    simp [execOp, ho, resolve, invoke, builtin, hs, hx, hrun, Result.andThen]
    exact hK' _ _ (h v w (by simpa using hown) (World.grownBy.refl _ _))
  | some ad =>
    refine wpList_append_own w hgd s x t ho base e i z k bytes ht hi hz0 hz1 hz2 hzs hk v xs.length (xs.flatMap enc) hs hown ad ys.length c (ys.flatMap enc) hx (flatMap_length hen ys) ?_ ?_ (by unfold maxLen; omega) ?_ hbase ?_
    · rcases h4 with ⟨h4, _⟩ | ⟨b, o', h4, hb, hc⟩
      · subst h4; intro j u hj; simp at hj
      · cases h4
        intro j u hj
        have hjl : j < ys.length * k := by rw [← flatMap_length hen ys]; exact (List.getElem?_eq_some_iff.1 hj).1
        have hq : j / k < ys.length := Nat.div_lt_of_lt_mul (by rw [Nat.mul_comm]; exact hjl)
        obtain ⟨y, hy⟩ : ∃ y, ys[j / k]? = some y := ⟨_, List.getElem?_eq_getElem hq⟩
        have hr : j % k < k := Nat.mod_lt _ hk
        have hf := flatMap_getElem? hen ys (j / k) y hy (j % k) hr
        have hdm : j / k * k + j % k = j := by rw [Nat.mul_comm]; exact Nat.div_add_mod j k
        rw [hdm, hj] at hf
        have := hc (j / k) y hy (j % k) u hf.symm
        rw [Addr.add_lit]
        rw [Nat.add_assoc, hdm] at this
        exact this
    · intro u hu
      obtain ⟨y, _, hy⟩ := List.mem_flatMap.1 hu
      exact h1 y u hy
    · exact Nat.le_trans (Nat.mul_le_mul (show xs.length + ys.length ≤ 100000000000 by omega) hby) (by decide)
    · intro v' w' a1 a2 _
      refine h v' w' ?_ a2
      rw [List.length_append, List.flatMap_append]
      exact a1

theorem encI_one (n : Int) : ∀ u ∈ encI n, u.oneCell' = true := by intro u hu; simp [encI] at hu; subst hu; rfl
theorem encL_one (l : Ln) : ∀ u ∈ encL l, u.oneCell' = true := by
  intro u hu; simp [encL] at hu; rcases hu with rfl | rfl | rfl | rfl <;> rfl

/-- An empty list in a block of its own. -/
theorem ownsRow_empty {α : Type} (w : World) (k : Nat) (e : TypeId) (enc : α → List Value) (base : Nat) (hb : base ≤ w.heap.size) : (w.alloc (.cells #[] e)).ownsRow base e k (.slice (some ⟨w.heap.size, 0, none⟩) 0 0) ([] : List α).length (([] : List α).flatMap enc) := by
  have := World.ownsRow_made (base := base) (e := e) (size := k) w #[] 0 hb (by simp [maxLen]) (by simp)
  exact this

/-- A slice value whose block, if it has one, is at or above base. -/
def NewS (base : Nat) (v : Value) : Prop := ∀ a n c, v = .slice (some a) n c → base ≤ a.block
theorem NewS.mono {base base' : Nat} {v : Value} (h : NewS base v) (hb : base' ≤ base) : NewS base' v := fun a n c e => Nat.le_trans hb (h a n c e)
theorem NewS.nil (base n c : Nat) : NewS base (.slice none n c) := by intro a n c e; cases e
theorem NewS.of_own {α : Type} {k : Nat} {enc : α → List Value} {base : Nat} {w : World} {v : Value} {xs : List α} (h : Own k enc base w v xs) : NewS base v := by
  obtain ⟨e, h1, h2⟩ := h
  intro a n c ev
  rcases h2 with ⟨rfl, _⟩ | ⟨g, cap, cur, rfl, hb, _⟩
  · cases ev
  · cases ev; exact hb

end Go.Proofs.YtfbfkkaepgcggaaGreat

namespace Go.Proofs.YtfbfkkaepgcggaaGreat
open Go.RowKit

/-- A test: the value of its list as it lies in memory, the list itself, the register and the number. -/
structure Tst where
  v : Value
  xs : List Int
  o : Int
  wt : Int
def encTs (t : Tst) : List Value := [t.v, .int .i64 t.o, .int .i64 t.wt]
/-- The slice value v holds the tests ts, and each list that they lead to. -/
structure TestsAt (w : World) (v : Value) (ts : List Tst) : Prop where
  at_ : SlcAt 3 encTs w v ts
  ins : ∀ t ∈ ts, IntsAt w t.v t.xs
theorem TestsAt.grow {w w' : World} {v : Value} {ts : List Tst} (h : TestsAt w v ts) (g : Grow w w') : TestsAt w' v ts := ⟨h.at_.grow g, fun t ht => (h.ins t ht).grow g⟩
theorem TestsAt.nil (w : World) : TestsAt w (.slice none 0 0) [] := ⟨SlcAt.nil _ _ _, by simp⟩
theorem tests_at {w : World} {a : Option Addr} {n c : Nat} {ts : List Tst} (h : SlcAt 3 encTs w (.slice a n c) ts) {k : Nat} {t : Tst} (hx : ts[k]? = some t) : ∃ b o, a = some ⟨b, o, none⟩ ∧ b < w.heap.size ∧
    w.cell? ⟨b, o + k * 3, none⟩ = some t.v ∧ w.cell? ⟨b, o + k * 3 + 1, none⟩ = some (.int .i64 t.o) ∧ w.cell? ⟨b, o + k * 3 + 2, none⟩ = some (.int .i64 t.wt) := by
  obtain ⟨_, _, e, _, _, h⟩ := h
  cases e
  obtain ⟨b, o, rfl, hb, hc⟩ := h.resolve_left (by intro h0; rw [h0.1] at hx; simp at hx)
  exact ⟨b, o, rfl, hb, hc k t hx 0 _ rfl, hc k t hx 1 _ rfl, hc k t hx 2 _ rfl⟩
def Tst.ok (t : Tst) : Bool := decide (valS t.xs = 0) && inB t.o 0 3 && inB t.wt (-999) 999
/-- The errors of tests. -/
def valT (ts : List Tst) : Int := if 8 < ts.length then 3 else errB (ts.all Tst.ok)
theorem valT_ok {ts : List Tst} : valT ts = 0 ↔ ts.length ≤ 8 ∧ ∀ t ∈ ts, t.ok = true := by
  unfold valT errB
  by_cases h : 8 < ts.length
  · simp only [h, if_true]
    exact ⟨fun h => (by cases h), fun h2 => (by omega)⟩
  · simp only [h, if_false]
    cases hp : ts.all Tst.ok
    · simp only [Bool.false_eq_true, if_false]
      constructor
      · intro h; cases h
      · rintro ⟨_, h2⟩; rw [List.all_eq_true.2 h2] at hp; cases hp
    · simp only [if_true, true_iff]
      exact ⟨by omega, List.all_eq_true.1 hp⟩
theorem Tst.ok_iff {t : Tst} : t.ok = true ↔ valS t.xs = 0 ∧ (0 ≤ t.o ∧ t.o ≤ 3) ∧ (-999 ≤ t.wt ∧ t.wt ≤ 999) := by
  unfold Tst.ok
  rw [Bool.and_eq_true, Bool.and_eq_true, decide_eq_true_eq, inB_true, inB_true, and_assoc]
/-- What a register is at the end. -/
def endM (p : List Ln) (xs : List Int) (o : Int) : Int := ((runM p xs)[o.toNat]?).getD 0
def passM (p : List Ln) (t : Tst) : Bool := decide (endM p t.xs t.o = t.wt)
/-- The errors of a program and tests. -/
def chkT (p : List Ln) (ts : List Tst) : Int := if valP p = 0 then valT ts else valP p
theorem chkT_ok {p : List Ln} {ts : List Tst} : chkT p ts = 0 ↔ valP p = 0 ∧ valT ts = 0 := by
  unfold chkT; by_cases h : valP p = 0 <;> simp [h]
/-- The places of what has a property. -/
def whereL {α : Type} (f : α → Bool) (ts : List α) : List Int := (List.range ts.length).filterMap fun k : Nat => match ts[k]? with | some t => if f t then some (k : Int) else none | none => none
def whereN {α : Type} (f : α → Bool) (ts : List α) (n : Nat) : List Int := (List.range n).filterMap fun k : Nat => match ts[k]? with | some t => if f t then some (k : Int) else none | none => none
theorem whereN_succ {α : Type} {f : α → Bool} {ts : List α} {k : Nat} {t : α} (h : ts[k]? = some t) : whereN f ts (k + 1) = whereN f ts k ++ if f t then [(k : Int)] else [] := by
  unfold whereN
  rw [List.range_succ, List.filterMap_append]
  simp only [List.filterMap_cons, List.filterMap_nil, h]
  cases f t <;> rfl
theorem whereN_len {α : Type} (f : α → Bool) (ts : List α) (n : Nat) : (whereN f ts n).length ≤ n := by
  unfold whereN
  exact Nat.le_trans (List.length_filterMap_le _ _) (by simp)
theorem mem_whereL {α : Type} {f : α → Bool} {ts : List α} {i : Int} : i ∈ whereL f ts ↔ ∃ (k : Nat) (t : α), i = k ∧ ts[k]? = some t ∧ f t = true := by
  unfold whereL
  rw [List.mem_filterMap]
  constructor
  · rintro ⟨k, hk, h⟩
    have hlt : k < ts.length := List.mem_range.1 hk
    rw [List.getElem?_eq_getElem hlt] at h
    dsimp only at h
    split at h
    · next hf => exact ⟨k, _, (Option.some.inj h).symm, List.getElem?_eq_getElem hlt, hf⟩
    · cases h
  · rintro ⟨k, t, rfl, ht, hf⟩
    refine ⟨k, List.mem_range.2 (List.getElem?_eq_some_iff.1 ht).1, ?_⟩
    rw [ht]
    simp [hf]
theorem runM_length (p : List Ln) (s : List Int) : (runM p s).length = 4 := rfl
end Go.Proofs.YtfbfkkaepgcggaaGreat
