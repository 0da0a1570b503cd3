/- General lemmas on worlds and slices: what a later world keeps, when a slice value holds a list, and what a list that was made holds. No program is named. -/
import Derived.WalkKit
import Derived.WalkSpells
import Derived.WalkLawsBesides
import Derived.WalkSmall
import Derived.Lib.Hide
import Derived.Laws.EntriesVeiled
import Derived.Shelf.Abstract
namespace Go.Proofs.Ytbccbokjecdaaaa
open Go.RowKit

/-- Every block that was there in w is in w' as it was. -/
def Grow (w w' : World) : Prop := Below w.heap.size w w'

namespace Grow
variable {a b c w w' : World}
theorem refl (w : World) : Grow w w := Below.refl _ _
theorem sz (h : Grow w w') : w.heap.size ≤ w'.heap.size := Below.size h
theorem trans (h : Grow a b) (k : Grow b c) : Grow a c := Below.trans h (Below.mono k h.sz)
theorem alloc (h : Grow a w) (o : Obj) : Grow a (w.alloc o) := Below.alloc h h.sz o
theorem drew (h : Grow a w) : Grow a w.drew := Below.drew h
theorem drewN (h : Grow a w) (n : Nat) : Grow a (w.drewN n) := below_drewN h n
theorem heap (h : Grow w w') {k : Nat} (hk : k < w.heap.size) : w'.heap[k]? = w.heap[k]? := Below.block h k hk
theorem blk (h : Grow w w') {k : Nat} {o : Obj} (hk : w.heap[k]? = some o) : w'.heap[k]? = some o := (h.heap (lt_of_block hk)).trans hk
theorem cellsB (hb : Grow w w') : (∀ b o, b < w.heap.size → w'.cell? ⟨b, o, none⟩ = w.cell? ⟨b, o, none⟩) ∧ (∀ b o, b < w.heap.size → w'.frozen? ⟨b, o, none⟩ = w.frozen? ⟨b, o, none⟩) :=
  ⟨fun b o h => Below.cell (p := ⟨b, o, none⟩) hb h, fun b o h => Below.frozen (p := ⟨b, o, none⟩) hb h⟩
theorem cell (hb : Grow w w') {a : Addr} {v : Value} (h : w.cell? a = some v) : w'.cell? a = some v :=
  (Below.cell hb (World.block_lt_of_cell? _ _ h)).trans h
theorem grownBy (h : Grow w w') (r : Option Nat) : w.grownBy w' r := ⟨Below.os h, Below.tape h, Below.output h, Below.size h, fun k hk _ => Below.block h k hk⟩
theorem of_grownBy (h : w.grownBy w' none) : Grow w w' := ⟨h.os, h.tape, h.output, h.size, fun k hk => h.block k hk (by simp)⟩
theorem owns (h : Grow w w') {base : Nat} {e : TypeId} {size : Nat} {v : Value} {n : Nat} {xs : List Value} (ho : w.ownsRow base e size v n xs) : w'.ownsRow base e size v n xs :=
  ho.kept (h.grownBy none) (by cases hv : v.ownBlock <;> simp)
theorem below (h : Grow w w') {B : Nat} (hB : B ≤ w.heap.size) : Below B w w' := Below.mono h hB
end Grow

theorem Below.of_grow {B : Nat} {a w w' : World} (h : Below B a w) (k : Grow w w') (hB : B ≤ w.heap.size) : Below B a w' := Below.trans h (k.below hB)

theorem heap_two0 (w : World) (A B : Obj) : ((w.alloc A).alloc B).heap[w.heap.size]? = some A := by
  rw [Below.heap_alloc _ _ _ (by simp)]; exact heap_alloc_new w A
theorem heap_two1 (w : World) (A B : Obj) : ((w.alloc A).alloc B).heap[w.heap.size + 1]? = some B := by
  have := heap_alloc_new (w.alloc A) B
  rwa [World.size_alloc] at this

/-- A slice value holds the list xs, each element in k cells as enc says. -/
def SlcAt {α : Type} (k : Nat) (enc : α → List Value) (w : World) (v : Value) (xs : List α) : Prop :=
  ∃ a c, v = .slice a xs.length c ∧ xs.length ≤ c ∧ c ≤ 9223372036854775807 ∧
    ((xs = [] ∧ (a = none → c = 0)) ∨ ∃ b o, a = some ⟨b, o, none⟩ ∧ b < w.heap.size ∧ ∀ j x, xs[j]? = some x → ∀ i u, (enc x)[i]? = some u → w.cell? ⟨b, o + j * k + i, none⟩ = some u)

theorem SlcAt.grow {α : Type} {k : Nat} {enc : α → List Value} {w w' : World} {v : Value} {xs : List α} (h : SlcAt k enc w v xs) (g : Grow w w') : SlcAt k enc w' v xs := by
  obtain ⟨a, c, h1, h2, h3, h4⟩ := h
  refine ⟨a, c, h1, h2, h3, h4.imp id ?_⟩
  rintro ⟨b, o, e, hb, hc⟩
  exact ⟨b, o, e, Nat.lt_of_lt_of_le hb g.sz, fun j x hx i u hu => g.cell (hc j x hx i u hu)⟩

/-- Below a number that bounds its block. -/
theorem SlcAt.len_le {α : Type} {k : Nat} {enc : α → List Value} {w : World} {v : Value} {xs : List α} (h : SlcAt k enc w v xs) : xs.length ≤ 9223372036854775807 := by
  obtain ⟨a, c, h1, h2, h3, h4⟩ := h; omega

theorem SlcAt.nil {α : Type} (k : Nat) (enc : α → List Value) (w : World) : SlcAt k enc w (.slice none 0 0) [] := ⟨none, 0, rfl, by simp, by simp, .inl ⟨rfl, fun _ => rfl⟩⟩

/-- A list that the call has made, from the block base on. -/
def Own {α : Type} (k : Nat) (enc : α → List Value) (base : Nat) (w : World) (v : Value) (xs : List α) : Prop :=
  ∃ e, w.ownsRow base e k v xs.length (xs.flatMap enc)

theorem Own.grow {α : Type} {k : Nat} {enc : α → List Value} {base : Nat} {w w' : World} {v : Value} {xs : List α} (h : Own k enc base w v xs) (g : Grow w w') : Own k enc base w' v xs :=
  let ⟨e, he⟩ := h; ⟨e, g.owns he⟩

theorem ownsRow_mono {w : World} {base base' : Nat} {e : TypeId} {size : Nat} {v : Value} {n : Nat} {xs : List Value} (h : w.ownsRow base e size v n xs) (hb : base' ≤ base) : w.ownsRow base' e size v n xs := by
  obtain ⟨h1, h2⟩ := h
  refine ⟨h1, h2.imp id ?_⟩
  rintro ⟨g, cap, cur, a, b, c, d⟩
  exact ⟨g, cap, cur, a, Nat.le_trans hb b, c, d⟩

theorem Own.mono {α : Type} {k : Nat} {enc : α → List Value} {base base' : Nat} {w : World} {v : Value} {xs : List α} (h : Own k enc base w v xs) (hb : base' ≤ base) : Own k enc base' w v xs :=
  let ⟨e, he⟩ := h; ⟨e, ownsRow_mono he hb⟩

theorem flatMap_getElem? {α : Type} {k : Nat} {enc : α → List Value} (hk : ∀ x, (enc x).length = k) : ∀ (xs : List α) (j : Nat) (x : α), xs[j]? = some x → ∀ i, i < k → (xs.flatMap enc)[j * k + i]? = (enc x)[i]?
  | [], j, x, h, i, hi => by simp at h
  | y :: ys, 0, x, h, i, hi => by
    simp at h; subst h
    simp [List.flatMap_cons, List.getElem?_append, hk, hi]
  | y :: ys, j + 1, x, h, i, hi => by
    simp at h
    have ih := flatMap_getElem? hk ys j x h i hi
    rw [List.flatMap_cons, List.getElem?_append_right (by rw [hk, Nat.succ_mul]; omega), hk, ← ih]
    congr 1
    rw [Nat.succ_mul]; omega

theorem flatMap_length {α : Type} {k : Nat} {enc : α → List Value} (hk : ∀ x, (enc x).length = k) : ∀ (xs : List α), (xs.flatMap enc).length = xs.length * k
  | [] => by simp
  | y :: ys => by rw [List.flatMap_cons, List.length_append, hk, flatMap_length hk ys, List.length_cons, Nat.succ_mul]; omega

/-- What was made can be read. -/
theorem slc_of_owns {α : Type} {k : Nat} {enc : α → List Value} (hk : ∀ x, (enc x).length = k) {base : Nat} {e : TypeId} {w : World} {v : Value} {xs : List α}
    (h : w.ownsRow base e k v xs.length (xs.flatMap enc)) : SlcAt k enc w v xs := by
  rcases h.2 with ⟨rfl, h0⟩ | ⟨g, cap, cur, rfl, hb, hh, hn, hm, hcs, htake⟩
  · have : xs = [] := List.eq_nil_of_length_eq_zero h0
    subst this
    exact SlcAt.nil _ _ _
  · refine ⟨_, cap, rfl, hn, by simpa [maxLen] using hm, .inr ⟨g, 0, rfl, lt_of_block hh, fun j x hx i u hu => ?_⟩⟩
    have hi : i < k := by rw [← hk x]; exact (List.getElem?_eq_some_iff.1 hu).1
    have hj : j < xs.length := (List.getElem?_eq_some_iff.1 hx).1
    have hf := flatMap_getElem? hk xs j x hx i hi
    have hlt : j * k + i < xs.length * k := by
      have : (j + 1) * k ≤ xs.length * k := Nat.mul_le_mul_right _ hj
      rw [Nat.succ_mul] at this; omega
    have := World.ownsRow.cellAt (w := w) (base := base) (e := e) (size := k) (g := g) (n := xs.length) (cap := cap) h (j * k + i) hlt
    rw [Nat.zero_add, this, hf, hu]

theorem Own.slc {α : Type} {k : Nat} {enc : α → List Value} (hk : ∀ x, (enc x).length = k) {base : Nat} {w : World} {v : Value} {xs : List α} (h : Own k enc base w v xs) : SlcAt k enc w v xs :=
  let ⟨_, he⟩ := h; slc_of_owns hk he

theorem Own.nil {α : Type} (k : Nat) (enc : α → List Value) (base : Nat) (w : World) : Own k enc base w (.slice none 0 0) [] := ⟨0, World.ownsRow_nil _ _ _ _⟩

/-! ### One element appended to a list that the call has made -/
theorem wpList_app {P : Program} {α : Type} (w : World) {ops : Array Oper} {rest : List Oper} {o : Oper} {a : Act} {Q : Exit → Act → World → Prop} (hgd : o.guard = none) (s x : Operand) (t : TypeId)
    (ho : o.op = .call { callee := .builtin .append, args := #[s, x], argTypes := #[t, t] })
    (base : Nat) (e : TypeId) {k bytes : Nat} {z : Value} (ht : P.underlying t = some (.slice e)) (info : (P.info? e).map (fun i => (i.zero, i.size, i.bytes)) = some (some z, k, bytes))
    (hzs : z.cells.size = k) (hk : 0 < k) (hby : bytes ≤ 1000)
    (enc : α → List Value) (hen : ∀ x, (enc x).length = k) (h1 : ∀ x, ∀ u ∈ enc x, u.oneCell' = true)
    (v : Value) (xs : List α) (hs : a.eval s = v) (hown : w.ownsRow base e k v xs.length (xs.flatMap enc)) (ad : Addr) (y : α) (c : Nat) (hx : a.eval x = .slice (some ad) 1 c)
    (hnews : ∀ j u, (enc y)[j]? = some u → w.cell? (ad.add j) = some u) (hn : xs.length < 100000000000) (hbase : base ≤ w.heap.size)
    (h : ∀ v' w', w'.ownsRow base e k v' (xs ++ [y]).length ((xs ++ [y]).flatMap enc) → w.grownBy w' v.ownBlock → wpList P ops Q rest (a.put o.dst v') w') : wpList P ops Q (o :: rest) a w := by
  obtain ⟨i, hi, hz0, hz1, hz2⟩ := info_parts info
  refine wpList_append_own w hgd s x t ho base e i z k bytes ht hi hz0 hz1 hz2 hzs hk v xs.length (xs.flatMap enc) hs hown ad 1 c (enc y) hx (by rw [hen]; omega) hnews (h1 y) (by unfold maxLen; omega) ?_ hbase ?_
  · exact Nat.le_trans (Nat.mul_le_mul (show xs.length + 1 ≤ 100000000000 by omega) hby) (by decide)
  · intro v' w' a1 a2 _
    refine h v' w' ?_ a2
    rw [List.length_append, List.flatMap_append]
    simpa using a1

theorem grown_keep {w w' w0 : World} {base : Nat} {e : TypeId} {k : Nat} {v : Value} {n : Nat} {xs : List Value} (hown : w0.ownsRow base e k v n xs) (hg : w.grownBy w' v.ownBlock) {j : Nat} {o : Obj} (hj : j < base) (h : w.heap[j]? = some o) : w'.heap[j]? = some o := by
  rw [hg.block j (lt_of_block h) (fun e => by have := (hown.lt j e.symm).1; omega)]; exact h
theorem grown_keep_new {w w' w0 : World} {base : Nat} {e : TypeId} {k : Nat} {v : Value} {n : Nat} {xs : List Value} (hown : w0.ownsRow base e k v n xs) (hg : w.grownBy w' v.ownBlock) {j : Nat} {o : Obj} (hj : w0.heap.size ≤ j) (h : w.heap[j]? = some o) : w'.heap[j]? = some o := by
  rw [hg.block j (lt_of_block h) (fun e => by have := (hown.lt j e.symm).2; omega)]; exact h
theorem grown_below {w w' w0 a : World} {base B : Nat} {e : TypeId} {k : Nat} {v : Value} {n : Nat} {xs : List Value} (hown : w0.ownsRow base e k v n xs) (hg : w.grownBy w' v.ownBlock) (hB : B ≤ base) (hsz : B ≤ w.heap.size) (hb : Below B a w) : Below B a w' :=
  Below.grown hb hg hsz (fun j hj => by have := (hown.lt j hj).1; omega)
theorem news_one (w : World) (cs : List Value) (t : TypeId) : ∀ j u, cs[j]? = some u → (w.alloc (.cells cs.toArray t)).cell? ((⟨w.heap.size, 0, none⟩ : Addr).add j) = some u := by
  intro j u hj
  rw [Addr.add_lit, World.cell?_alloc_new]; simpa using hj
theorem news_two (w : World) (A : Obj) (cs : List Value) (t : TypeId) : ∀ j u, cs[j]? = some u → ((w.alloc A).alloc (.cells cs.toArray t)).cell? ((⟨w.heap.size + 1, 0, none⟩ : Addr).add j) = some u := by
  intro j u hj
  have := news_one (w.alloc A) cs t j u hj
  rwa [World.size_alloc] at this

/-! ### Lists of integers -/
def encI (n : Int) : List Value := [.int .i64 n]
theorem encI_len (n : Int) : (encI n).length = 1 := rfl
theorem flatMap_encI (xs : List Int) : xs.flatMap encI = xs.map (Value.int .i64) := by
  induction xs with
  | nil => rfl
  | cons x xs ih => rw [List.flatMap_cons, ih]; rfl
/-- The slice value v holds the integers xs. -/
abbrev IntsAt (w : World) (v : Value) (xs : List Int) : Prop := SlcAt 1 encI w v xs
abbrev OwnI (base : Nat) (w : World) (v : Value) (xs : List Int) : Prop := Own 1 encI base w v xs
theorem ints_cell {w : World} {b o : Nat} {xs : List Int} (hc : ∀ j x, xs[j]? = some x → ∀ i u, (encI x)[i]? = some u → w.cell? ⟨b, o + j * 1 + i, none⟩ = some u) (j : Nat) (x : Int) (h : xs[j]? = some x) : w.cell? ⟨b, o + j, none⟩ = some (.int .i64 x) := by
  simpa using hc j x h 0 _ rfl

/-! ### Lines -/
structure Ln where
  op : Int
  d : Int
  a : Int
  b : Int
deriving DecidableEq, Inhabited
def encL (l : Ln) : List Value := [.int .i64 l.op, .int .i64 l.d, .int .i64 l.a, .int .i64 l.b]
theorem encL_len (l : Ln) : (encL l).length = 4 := rfl
abbrev LinesAt (w : World) (v : Value) (p : List Ln) : Prop := SlcAt 4 encL w v p
abbrev OwnL (base : Nat) (w : World) (v : Value) (p : List Ln) : Prop := Own 4 encL base w v p
theorem lines_cell {w : World} {b o : Nat} {p : List Ln} (hc : ∀ j x, p[j]? = some x → ∀ i u, (encL x)[i]? = some u → w.cell? ⟨b, o + j * 4 + i, none⟩ = some u) (j : Nat) (op d a c : Int) (h : p[j]? = some ⟨op, d, a, c⟩) :
    w.cell? ⟨b, o + j * 4, none⟩ = some (.int .i64 op) ∧ w.cell? ⟨b, o + j * 4 + 1, none⟩ = some (.int .i64 d) ∧ w.cell? ⟨b, o + j * 4 + 2, none⟩ = some (.int .i64 a) ∧ w.cell? ⟨b, o + j * 4 + 3, none⟩ = some (.int .i64 c) :=
  ⟨hc j _ h 0 _ rfl, hc j _ h 1 _ rfl, hc j _ h 2 _ rfl, hc j _ h 3 _ rfl⟩

end Go.Proofs.Ytbccbokjecdaaaa
