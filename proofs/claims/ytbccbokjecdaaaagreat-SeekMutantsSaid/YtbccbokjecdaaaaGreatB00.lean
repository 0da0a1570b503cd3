/-
General lemmas on worlds and slices: what a later world keeps, when a slice value holds a list, and what a list that was made holds. No program is named.
General lemmas, more of them: whole lists appended, what a cut of a list holds. No program is named.
The plain functions behind layer 1: what the program's functions compute, on lists of integers. No program is named.
The plain functions behind layer 1: states, what a line does, and the run of a program as a list of visits. No program is named.
The plain functions behind layer 1, more of them: what a line reads, slices. No program is named.
The plain functions behind layer 1: the slice of a register. No program is named.
-/
import Derived.WalkKit
import Derived.WalkSpells
import Derived.WalkLawsBesides
import Derived.WalkSmall
import Derived.Lib.Hide
import Derived.Laws.EntriesVeiled
import Derived.Shelf.Abstract
namespace Go.Proofs.YtbccbokjecdaaaaGreat
open Go.RowKit

/-- Every block that was there in w is in w' as it was. -/
def Grow (w w' : World) : Prop := Below w.heap.size w w'

namespace Grow
variable {a b c w w' : World}
theorem refl (w : World) : Grow w w := Below.refl _ _
theorem sz (h : Grow w w') : w.heap.size ≤ w'.heap.size := Below.size h
theorem trans (h : Grow a b) (k : Grow b c) : Grow a c := Below.trans h (Below.mono k h.sz)
theorem alloc (h : Grow a w) (o : Obj) : Grow a (w.alloc o) := Below.alloc h h.sz o
theorem drew (h : Grow a w) : Grow a w.drew := Below.drew h
theorem drewN (h : Grow a w) (n : Nat) : Grow a (w.drewN n) := below_drewN h n
theorem heap (h : Grow w w') {k : Nat} (hk : k < w.heap.size) : w'.heap[k]? = w.heap[k]? := Below.block h k hk
theorem blk (h : Grow w w') {k : Nat} {o : Obj} (hk : w.heap[k]? = some o) : w'.heap[k]? = some o := (h.heap (lt_of_block hk)).trans hk
theorem cellsB (hb : Grow w w') : (∀ b o, b < w.heap.size → w'.cell? ⟨b, o, none⟩ = w.cell? ⟨b, o, none⟩) ∧ (∀ b o, b < w.heap.size → w'.frozen? ⟨b, o, none⟩ = w.frozen? ⟨b, o, none⟩) :=
  ⟨fun b o h => Below.cell (p := ⟨b, o, none⟩) hb h, fun b o h => Below.frozen (p := ⟨b, o, none⟩) hb h⟩
theorem cell (hb : Grow w w') {a : Addr} {v : Value} (h : w.cell? a = some v) : w'.cell? a = some v :=
  (Below.cell hb (World.block_lt_of_cell? _ _ h)).trans h
theorem grownBy (h : Grow w w') (r : Option Nat) : w.grownBy w' r := ⟨Below.os h, Below.tape h, Below.output h, Below.size h, fun k hk _ => Below.block h k hk⟩
theorem of_grownBy (h : w.grownBy w' none) : Grow w w' := ⟨h.os, h.tape, h.output, h.size, fun k hk => h.block k hk (by simp)⟩
theorem owns (h : Grow w w') {base : Nat} {e : TypeId} {size : Nat} {v : Value} {n : Nat} {xs : List Value} (ho : w.ownsRow base e size v n xs) : w'.ownsRow base e size v n xs :=
  ho.kept (h.grownBy none) (by cases hv : v.ownBlock <;> simp)
theorem below (h : Grow w w') {B : Nat} (hB : B ≤ w.heap.size) : Below B w w' := Below.mono h hB
end Grow

theorem Below.of_grow {B : Nat} {a w w' : World} (h : Below B a w) (k : Grow w w') (hB : B ≤ w.heap.size) : Below B a w' := Below.trans h (k.below hB)

theorem heap_two0 (w : World) (A B : Obj) : ((w.alloc A).alloc B).heap[w.heap.size]? = some A := by
  rw [Below.heap_alloc _ _ _ (by simp)]; exact heap_alloc_new w A
theorem heap_two1 (w : World) (A B : Obj) : ((w.alloc A).alloc B).heap[w.heap.size + 1]? = some B := by
  have := heap_alloc_new (w.alloc A) B
  rwa [World.size_alloc] at this

/-- A slice value holds the list xs, each element in k cells as enc says. -/
def SlcAt {α : Type} (k : Nat) (enc : α → List Value) (w : World) (v : Value) (xs : List α) : Prop :=
  ∃ a c, v = .slice a xs.length c ∧ xs.length ≤ c ∧ c ≤ 9223372036854775807 ∧
    ((xs = [] ∧ (a = none → c = 0)) ∨ ∃ b o, a = some ⟨b, o, none⟩ ∧ b < w.heap.size ∧ ∀ j x, xs[j]? = some x → ∀ i u, (enc x)[i]? = some u → w.cell? ⟨b, o + j * k + i, none⟩ = some u)

theorem SlcAt.grow {α : Type} {k : Nat} {enc : α → List Value} {w w' : World} {v : Value} {xs : List α} (h : SlcAt k enc w v xs) (g : Grow w w') : SlcAt k enc w' v xs := by
  obtain ⟨a, c, h1, h2, h3, h4⟩ := h
  refine ⟨a, c, h1, h2, h3, h4.imp id ?_⟩
  rintro ⟨b, o, e, hb, hc⟩
  exact ⟨b, o, e, Nat.lt_of_lt_of_le hb g.sz, fun j x hx i u hu => g.cell (hc j x hx i u hu)⟩

/-- Below a number that bounds its block. -/
theorem SlcAt.len_le {α : Type} {k : Nat} {enc : α → List Value} {w : World} {v : Value} {xs : List α} (h : SlcAt k enc w v xs) : xs.length ≤ 9223372036854775807 := by
  obtain ⟨a, c, h1, h2, h3, h4⟩ := h; omega

theorem SlcAt.nil {α : Type} (k : Nat) (enc : α → List Value) (w : World) : SlcAt k enc w (.slice none 0 0) [] := ⟨none, 0, rfl, by simp, by simp, .inl ⟨rfl, fun _ => rfl⟩⟩

/-- A list that the call has made, from the block base on. -/
def Own {α : Type} (k : Nat) (enc : α → List Value) (base : Nat) (w : World) (v : Value) (xs : List α) : Prop :=
  ∃ e, w.ownsRow base e k v xs.length (xs.flatMap enc)

theorem Own.grow {α : Type} {k : Nat} {enc : α → List Value} {base : Nat} {w w' : World} {v : Value} {xs : List α} (h : Own k enc base w v xs) (g : Grow w w') : Own k enc base w' v xs :=
  let ⟨e, he⟩ := h; ⟨e, g.owns he⟩

theorem ownsRow_mono {w : World} {base base' : Nat} {e : TypeId} {size : Nat} {v : Value} {n : Nat} {xs : List Value} (h : w.ownsRow base e size v n xs) (hb : base' ≤ base) : w.ownsRow base' e size v n xs := by
  obtain ⟨h1, h2⟩ := h
  refine ⟨h1, h2.imp id ?_⟩
  rintro ⟨g, cap, cur, a, b, c, d⟩
  exact ⟨g, cap, cur, a, Nat.le_trans hb b, c, d⟩

theorem Own.mono {α : Type} {k : Nat} {enc : α → List Value} {base base' : Nat} {w : World} {v : Value} {xs : List α} (h : Own k enc base w v xs) (hb : base' ≤ base) : Own k enc base' w v xs :=
  let ⟨e, he⟩ := h; ⟨e, ownsRow_mono he hb⟩

theorem flatMap_getElem? {α : Type} {k : Nat} {enc : α → List Value} (hk : ∀ x, (enc x).length = k) : ∀ (xs : List α) (j : Nat) (x : α), xs[j]? = some x → ∀ i, i < k → (xs.flatMap enc)[j * k + i]? = (enc x)[i]?
  | [], j, x, h, i, hi => by simp at h
  | y :: ys, 0, x, h, i, hi => by
    simp at h; subst h
    simp [List.flatMap_cons, List.getElem?_append, hk, hi]
  | y :: ys, j + 1, x, h, i, hi => by
    simp at h
    have ih := flatMap_getElem? hk ys j x h i hi
    rw [List.flatMap_cons, List.getElem?_append_right (by rw [hk, Nat.succ_mul]; omega), hk, ← ih]
    congr 1
    rw [Nat.succ_mul]; omega

theorem flatMap_length {α : Type} {k : Nat} {enc : α → List Value} (hk : ∀ x, (enc x).length = k) : ∀ (xs : List α), (xs.flatMap enc).length = xs.length * k
  | [] => by simp
  | y :: ys => by rw [List.flatMap_cons, List.length_append, hk, flatMap_length hk ys, List.length_cons, Nat.succ_mul]; omega

/-- What was made can be read. -/
theorem slc_of_owns {α : Type} {k : Nat} {enc : α → List Value} (hk : ∀ x, (enc x).length = k) {base : Nat} {e : TypeId} {w : World} {v : Value} {xs : List α}
    (h : w.ownsRow base e k v xs.length (xs.flatMap enc)) : SlcAt k enc w v xs := by
  rcases h.2 with ⟨rfl, h0⟩ | ⟨g, cap, cur, rfl, hb, hh, hn, hm, hcs, htake⟩
  · have : xs = [] := List.eq_nil_of_length_eq_zero h0
    subst this
    exact SlcAt.nil _ _ _
  · refine ⟨_, cap, rfl, hn, by simpa [maxLen] using hm, .inr ⟨g, 0, rfl, lt_of_block hh, fun j x hx i u hu => ?_⟩⟩
    have hi : i < k := by rw [← hk x]; exact (List.getElem?_eq_some_iff.1 hu).1
    have hj : j < xs.length := (List.getElem?_eq_some_iff.1 hx).1
    have hf := flatMap_getElem? hk xs j x hx i hi
    have hlt : j * k + i < xs.length * k := by
      have : (j + 1) * k ≤ xs.length * k := Nat.mul_le_mul_right _ hj
      rw [Nat.succ_mul] at this; omega
    have := World.ownsRow.cellAt (w := w) (base := base) (e := e) (size := k) (g := g) (n := xs.length) (cap := cap) h (j * k + i) hlt
    rw [Nat.zero_add, this, hf, hu]

theorem Own.slc {α : Type} {k : Nat} {enc : α → List Value} (hk : ∀ x, (enc x).length = k) {base : Nat} {w : World} {v : Value} {xs : List α} (h : Own k enc base w v xs) : SlcAt k enc w v xs :=
  let ⟨_, he⟩ := h; slc_of_owns hk he

theorem Own.nil {α : Type} (k : Nat) (enc : α → List Value) (base : Nat) (w : World) : Own k enc base w (.slice none 0 0) [] := ⟨0, World.ownsRow_nil _ _ _ _⟩

/-! ### One element appended to a list that the call has made -/
theorem wpList_app {P : Program} {α : Type} (w : World) {ops : Array Oper} {rest : List Oper} {o : Oper} {a : Act} {Q : Exit → Act → World → Prop} (hgd : o.guard = none) (s x : Operand) (t : TypeId)
    (ho : o.op = .call { callee := .builtin .append, args := #[s, x], argTypes := #[t, t] })
    (base : Nat) (e : TypeId) {k bytes : Nat} {z : Value} (ht : P.underlying t = some (.slice e)) (info : (P.info? e).map (fun i => (i.zero, i.size, i.bytes)) = some (some z, k, bytes))
    (hzs : z.cells.size = k) (hk : 0 < k) (hby : bytes ≤ 1000)
    (enc : α → List Value) (hen : ∀ x, (enc x).length = k) (h1 : ∀ x, ∀ u ∈ enc x, u.oneCell' = true)
    (v : Value) (xs : List α) (hs : a.eval s = v) (hown : w.ownsRow base e k v xs.length (xs.flatMap enc)) (ad : Addr) (y : α) (c : Nat) (hx : a.eval x = .slice (some ad) 1 c)
    (hnews : ∀ j u, (enc y)[j]? = some u → w.cell? (ad.add j) = some u) (hn : xs.length < 100000000000) (hbase : base ≤ w.heap.size)
    (h : ∀ v' w', w'.ownsRow base e k v' (xs ++ [y]).length ((xs ++ [y]).flatMap enc) → w.grownBy w' v.ownBlock → wpList P ops Q rest (a.put o.dst v') w') : wpList P ops Q (o :: rest) a w := by
  obtain ⟨i, hi, hz0, hz1, hz2⟩ := info_parts info
  refine wpList_append_own w hgd s x t ho base e i z k bytes ht hi hz0 hz1 hz2 hzs hk v xs.length (xs.flatMap enc) hs hown ad 1 c (enc y) hx (by rw [hen]; omega) hnews (h1 y) (by unfold maxLen; omega) ?_ hbase ?_
  · exact Nat.le_trans (Nat.mul_le_mul (show xs.length + 1 ≤ 100000000000 by omega) hby) (by decide)
  · intro v' w' a1 a2 _
    refine h v' w' ?_ a2
    rw [List.length_append, List.flatMap_append]
    simpa using a1

theorem grown_keep {w w' w0 : World} {base : Nat} {e : TypeId} {k : Nat} {v : Value} {n : Nat} {xs : List Value} (hown : w0.ownsRow base e k v n xs) (hg : w.grownBy w' v.ownBlock) {j : Nat} {o : Obj} (hj : j < base) (h : w.heap[j]? = some o) : w'.heap[j]? = some o := by
  rw [hg.block j (lt_of_block h) (fun e => by have := (hown.lt j e.symm).1; omega)]; exact h
theorem grown_keep_new {w w' w0 : World} {base : Nat} {e : TypeId} {k : Nat} {v : Value} {n : Nat} {xs : List Value} (hown : w0.ownsRow base e k v n xs) (hg : w.grownBy w' v.ownBlock) {j : Nat} {o : Obj} (hj : w0.heap.size ≤ j) (h : w.heap[j]? = some o) : w'.heap[j]? = some o := by
  rw [hg.block j (lt_of_block h) (fun e => by have := (hown.lt j e.symm).2; omega)]; exact h
theorem grown_below {w w' w0 a : World} {base B : Nat} {e : TypeId} {k : Nat} {v : Value} {n : Nat} {xs : List Value} (hown : w0.ownsRow base e k v n xs) (hg : w.grownBy w' v.ownBlock) (hB : B ≤ base) (hsz : B ≤ w.heap.size) (hb : Below B a w) : Below B a w' :=
  Below.grown hb hg hsz (fun j hj => by have := (hown.lt j hj).1; omega)
theorem news_one (w : World) (cs : List Value) (t : TypeId) : ∀ j u, cs[j]? = some u → (w.alloc (.cells cs.toArray t)).cell? ((⟨w.heap.size, 0, none⟩ : Addr).add j) = some u := by
  intro j u hj
  rw [Addr.add_lit, World.cell?_alloc_new]; simpa using hj
theorem news_two (w : World) (A : Obj) (cs : List Value) (t : TypeId) : ∀ j u, cs[j]? = some u → ((w.alloc A).alloc (.cells cs.toArray t)).cell? ((⟨w.heap.size + 1, 0, none⟩ : Addr).add j) = some u := by
  intro j u hj
  have := news_one (w.alloc A) cs t j u hj
  rwa [World.size_alloc] at this

/-! ### Lists of integers -/
def encI (n : Int) : List Value := [.int .i64 n]
theorem encI_len (n : Int) : (encI n).length = 1 := rfl
theorem flatMap_encI (xs : List Int) : xs.flatMap encI = xs.map (Value.int .i64) := by
  induction xs with
  | nil => rfl
  | cons x xs ih => rw [List.flatMap_cons, ih]; rfl
/-- The slice value v holds the integers xs. -/
abbrev IntsAt (w : World) (v : Value) (xs : List Int) : Prop := SlcAt 1 encI w v xs
abbrev OwnI (base : Nat) (w : World) (v : Value) (xs : List Int) : Prop := Own 1 encI base w v xs
theorem ints_cell {w : World} {b o : Nat} {xs : List Int} (hc : ∀ j x, xs[j]? = some x → ∀ i u, (encI x)[i]? = some u → w.cell? ⟨b, o + j * 1 + i, none⟩ = some u) (j : Nat) (x : Int) (h : xs[j]? = some x) : w.cell? ⟨b, o + j, none⟩ = some (.int .i64 x) := by
  simpa using hc j x h 0 _ rfl

/-! ### Lines -/
structure Ln where
  op : Int
  d : Int
  a : Int
  b : Int
deriving DecidableEq, Inhabited
def encL (l : Ln) : List Value := [.int .i64 l.op, .int .i64 l.d, .int .i64 l.a, .int .i64 l.b]
theorem encL_len (l : Ln) : (encL l).length = 4 := rfl
abbrev LinesAt (w : World) (v : Value) (p : List Ln) : Prop := SlcAt 4 encL w v p
abbrev OwnL (base : Nat) (w : World) (v : Value) (p : List Ln) : Prop := Own 4 encL base w v p
theorem lines_cell {w : World} {b o : Nat} {p : List Ln} (hc : ∀ j x, p[j]? = some x → ∀ i u, (encL x)[i]? = some u → w.cell? ⟨b, o + j * 4 + i, none⟩ = some u) (j : Nat) (op d a c : Int) (h : p[j]? = some ⟨op, d, a, c⟩) :
    w.cell? ⟨b, o + j * 4, none⟩ = some (.int .i64 op) ∧ w.cell? ⟨b, o + j * 4 + 1, none⟩ = some (.int .i64 d) ∧ w.cell? ⟨b, o + j * 4 + 2, none⟩ = some (.int .i64 a) ∧ w.cell? ⟨b, o + j * 4 + 3, none⟩ = some (.int .i64 c) :=
  ⟨hc j _ h 0 _ rfl, hc j _ h 1 _ rfl, hc j _ h 2 _ rfl, hc j _ h 3 _ rfl⟩

end Go.Proofs.YtbccbokjecdaaaaGreat

namespace Go.Proofs.YtbccbokjecdaaaaGreat
open Go.RowKit

/-- A whole list appended to a list that the call has made. -/
theorem wpList_appAll {P : Program} {α : Type} (w : World) {ops : Array Oper} {rest : List Oper} {o : Oper} {a : Act} {Q : Exit → Act → World → Prop} (hgd : o.guard = none) (s x : Operand) (t : TypeId)
    (ho : o.op = .call { callee := .builtin .append, args := #[s, x], argTypes := #[t, t] })
    (base : Nat) (e : TypeId) {k bytes : Nat} {z : Value} (ht : P.underlying t = some (.slice e)) (info : (P.info? e).map (fun i => (i.zero, i.size, i.bytes)) = some (some z, k, bytes))
    (hzs : z.cells.size = k) (hk : 0 < k) (hby : bytes ≤ 1000)
    (enc : α → List Value) (hen : ∀ x, (enc x).length = k) (h1 : ∀ x, ∀ u ∈ enc x, u.oneCell' = true)
    (v : Value) (xs : List α) (hs : a.eval s = v) (hown : w.ownsRow base e k v xs.length (xs.flatMap enc)) (u : Value) (ys : List α) (hx : a.eval x = u) (hsrc : SlcAt k enc w u ys)
    (hn : xs.length + ys.length < 100000000000) (hbase : base ≤ w.heap.size)
    (h : ∀ v' w', w'.ownsRow base e k v' (xs ++ ys).length ((xs ++ ys).flatMap enc) → w.grownBy w' v.ownBlock → wpList P ops Q rest (a.put o.dst v') w') : wpList P ops Q (o :: rest) a w := by
  obtain ⟨i, hi, hz0, hz1, hz2⟩ := info_parts info
  obtain ⟨ao, c, rfl, h2, h3, h4⟩ := hsrc
  cases ao with
  | none =>
    have hys : ys = [] ∧ c = 0 := by
      rcases h4 with ⟨h4, h5⟩ | ⟨b, o, h4, _⟩
      · exact ⟨h4, h5 rfl⟩
      · cases h4
    obtain ⟨rfl, rfl⟩ := hys
    refine wpList_plain hgd fun K hK' => ?_
    have hrun := run_append_owned_none (P := P) w base t o.type e i k ht hi v xs.length (xs.flatMap enc) hown
    unfold Oper.wp
    simp only [List.length_nil] at hx
    simp [execOp, ho, resolve, invoke, builtin, hs, hx, hrun, Result.andThen]
    exact hK' _ _ (h v w (by simpa using hown) (World.grownBy.refl _ _))
  | some ad =>
    refine wpList_append_own w hgd s x t ho base e i z k bytes ht hi hz0 hz1 hz2 hzs hk v xs.length (xs.flatMap enc) hs hown ad ys.length c (ys.flatMap enc) hx (flatMap_length hen ys) ?_ ?_ (by unfold maxLen; omega) ?_ hbase ?_
    · rcases h4 with ⟨h4, _⟩ | ⟨b, o', h4, hb, hc⟩
      · subst h4; intro j u hj; simp at hj
      · cases h4
        intro j u hj
        have hjl : j < ys.length * k := by rw [← flatMap_length hen ys]; exact (List.getElem?_eq_some_iff.1 hj).1
        have hq : j / k < ys.length := Nat.div_lt_of_lt_mul (by rw [Nat.mul_comm]; exact hjl)
        obtain ⟨y, hy⟩ : ∃ y, ys[j / k]? = some y := ⟨_, List.getElem?_eq_getElem hq⟩
        have hr : j % k < k := Nat.mod_lt _ hk
        have hf := flatMap_getElem? hen ys (j / k) y hy (j % k) hr
        have hdm : j / k * k + j % k = j := by rw [Nat.mul_comm]; exact Nat.div_add_mod j k
        rw [hdm, hj] at hf
        have := hc (j / k) y hy (j % k) u hf.symm
        rw [Addr.add_lit]
        rw [Nat.add_assoc, hdm] at this
        exact this
    · intro u hu
      obtain ⟨y, _, hy⟩ := List.mem_flatMap.1 hu
      exact h1 y u hy
    · exact Nat.le_trans (Nat.mul_le_mul (show xs.length + ys.length ≤ 100000000000 by omega) hby) (by decide)
    · intro v' w' a1 a2 _
      refine h v' w' ?_ a2
      rw [List.length_append, List.flatMap_append]
      exact a1

theorem encI_one (n : Int) : ∀ u ∈ encI n, u.oneCell' = true := by intro u hu; simp [encI] at hu; subst hu; rfl
theorem encL_one (l : Ln) : ∀ u ∈ encL l, u.oneCell' = true := by
  intro u hu; simp [encL] at hu; rcases hu with rfl | rfl | rfl | rfl <;> rfl

/-- An empty list in a block of its own. -/
theorem ownsRow_empty {α : Type} (w : World) (k : Nat) (e : TypeId) (enc : α → List Value) (base : Nat) (hb : base ≤ w.heap.size) : (w.alloc (.cells #[] e)).ownsRow base e k (.slice (some ⟨w.heap.size, 0, none⟩) 0 0) ([] : List α).length (([] : List α).flatMap enc) := by
  have := World.ownsRow_made (base := base) (e := e) (size := k) w #[] 0 hb (by simp [maxLen]) (by simp)
  exact this

/-- A slice value whose block, if it has one, is at or above base. -/
def NewS (base : Nat) (v : Value) : Prop := ∀ a n c, v = .slice (some a) n c → base ≤ a.block
theorem NewS.mono {base base' : Nat} {v : Value} (h : NewS base v) (hb : base' ≤ base) : NewS base' v := fun a n c e => Nat.le_trans hb (h a n c e)
theorem NewS.nil (base n c : Nat) : NewS base (.slice none n c) := by intro a n c e; cases e
theorem NewS.of_own {α : Type} {k : Nat} {enc : α → List Value} {base : Nat} {w : World} {v : Value} {xs : List α} (h : Own k enc base w v xs) : NewS base v := by
  obtain ⟨e, h1, h2⟩ := h
  intro a n c ev
  rcases h2 with ⟨rfl, _⟩ | ⟨g, cap, cur, rfl, hb, _⟩
  · cases ev
  · cases ev; exact hb

end Go.Proofs.YtbccbokjecdaaaaGreat

namespace Go.Proofs.YtbccbokjecdaaaaGreat

def inB (n lo hi : Int) : Bool := decide (lo ≤ n) && decide (n ≤ hi)
theorem inB_def (n lo hi : Int) : inB n lo hi = (decide (lo ≤ n) && decide (n ≤ hi)) := rfl
theorem inB_true {n lo hi : Int} : inB n lo hi = true ↔ lo ≤ n ∧ n ≤ hi := by simp [inB_def]
theorem inB_false {n lo hi : Int} : inB n lo hi = false ↔ n < lo ∨ hi < n := by simp [inB_def]; omega

/-- A valid line. -/
def vL (op d a b : Int) : Bool :=
  if op = 0 then decide (d = 0) && decide (a = 0) && decide (b = 0)
  else if op = 1 then inB d 0 3 && inB a (-9) 9 && decide (b = 0)
  else if op = 2 then inB d 0 3 && inB a 0 3 && decide (b = 0)
  else if op = 3 ∨ op = 4 ∨ op = 5 ∨ op = 6 then inB d 0 3 && inB a 0 3 && inB b 0 3
  else if op = 7 then inB d 1 8 && inB a 0 3 && inB b 0 3
  else false
def Ln.ok (l : Ln) : Bool := vL l.op l.d l.a l.b
/-- OK or ErrArg. -/
def errB (b : Bool) : Int := if b then 0 else 1
theorem errB_true : errB true = 0 := rfl
theorem errB_false : errB false = 1 := rfl
def valP (p : List Ln) : Int := if 8 < p.length then 3 else errB (p.all Ln.ok)
def valS (s : List Int) : Int := if s.length = 4 then errB (s.all fun n => inB n (-999) 999) else 1
/-- The errors of a program and a state. -/
def chk (p : List Ln) (s : List Int) : Int := if valP p = 0 then valS s else valP p

theorem errB_cases (b : Bool) : errB b = 0 ∨ errB b = 1 := by cases b <;> simp [errB]
theorem valP_ok {p : List Ln} : valP p = 0 ↔ p.length ≤ 8 ∧ ∀ l ∈ p, l.ok = true := by
  unfold valP errB
  by_cases h : 8 < p.length
  · simp only [h, if_true]
    exact ⟨fun h => (by cases h), fun h2 => (by omega)⟩
  · simp only [h, if_false]
    cases hp : p.all Ln.ok
    · simp only [Bool.false_eq_true, if_false]
      constructor
      · intro h; cases h
      · rintro ⟨_, h2⟩; rw [List.all_eq_true.2 h2] at hp; cases hp
    · simp only [if_true, true_iff]
      exact ⟨by omega, List.all_eq_true.1 hp⟩
theorem valS_ok {s : List Int} : valS s = 0 ↔ s.length = 4 ∧ ∀ n ∈ s, -999 ≤ n ∧ n ≤ 999 := by
  unfold valS errB
  by_cases h : s.length = 4
  · simp only [h, if_true, true_and]
    cases hp : s.all fun n => inB n (-999) 999
    · simp only [Bool.false_eq_true, if_false]
      constructor
      · intro h; cases h
      · intro h2; rw [List.all_eq_true.2 (fun n hn => inB_true.2 (h2 n hn))] at hp; cases hp
    · simp only [if_true, true_iff]
      exact fun n hn => inB_true.1 (List.all_eq_true.1 hp n hn)
  · simp [h]
theorem chk_ok {p : List Ln} {s : List Int} : chk p s = 0 ↔ valP p = 0 ∧ valS s = 0 := by
  unfold chk; by_cases h : valP p = 0 <;> simp [h]

/-- A line writes a register. -/
def wrB (op : Int) : Bool := inB op 1 6
end Go.Proofs.YtbccbokjecdaaaaGreat

namespace Go.Proofs.YtbccbokjecdaaaaGreat

/-- A state: the numbers of the four registers. -/
structure St where
  r0 : Int
  r1 : Int
  r2 : Int
  r3 : Int
deriving DecidableEq, Inhabited
def St.toL (s : St) : List Int := [s.r0, s.r1, s.r2, s.r3]
def encS (s : St) : List Value := [.int .i64 s.r0, .int .i64 s.r1, .int .i64 s.r2, .int .i64 s.r3]
def St.get (s : St) (r : Int) : Int := if r = 0 then s.r0 else if r = 1 then s.r1 else if r = 2 then s.r2 else s.r3
def St.set (s : St) (r n : Int) : St := if r = 0 then { s with r0 := n } else if r = 1 then { s with r1 := n } else if r = 2 then { s with r2 := n } else { s with r3 := n }
/-- All registers are within the bounds. -/
def St.fine (s : St) : Prop := (-999 ≤ s.r0 ∧ s.r0 ≤ 999) ∧ (-999 ≤ s.r1 ∧ s.r1 ≤ 999) ∧ (-999 ≤ s.r2 ∧ s.r2 ≤ 999) ∧ (-999 ≤ s.r3 ∧ s.r3 ≤ 999)
theorem St.get_fine {s : St} (h : s.fine) (r : Int) : -999 ≤ s.get r ∧ s.get r ≤ 999 := by
  obtain ⟨h0, h1, h2, h3⟩ := h
  unfold St.get
  split
  · exact h0
  · split
    · exact h1
    · split
      · exact h2
      · exact h3
theorem St.set_fine {s : St} (h : s.fine) (r : Int) {n : Int} (hn : -999 ≤ n ∧ n ≤ 999) : (s.set r n).fine := by
  obtain ⟨h0, h1, h2, h3⟩ := h
  unfold St.set
  split
  · exact ⟨hn, h1, h2, h3⟩
  · split
    · exact ⟨h0, hn, h2, h3⟩
    · split
      · exact ⟨h0, h1, hn, h3⟩
      · exact ⟨h0, h1, h2, hn⟩
theorem St.of_valS {s : List Int} (h : valS s = 0) : ∃ q : St, q.toL = s ∧ q.fine := by
  obtain ⟨h1, h2⟩ := valS_ok.1 h
  match s, h1 with
  | [a, b, c, d], _ => exact ⟨⟨a, b, c, d⟩, rfl, h2 a (by simp), h2 b (by simp), h2 c (by simp), h2 d (by simp)⟩

def cut (n : Int) : Int := max (-999) (min 999 n)
theorem cut_fine (n : Int) : -999 ≤ cut n ∧ cut n ≤ 999 := by unfold cut; omega
/-- What a line that writes makes of two registers and its number A. -/
def opV (op a x y : Int) : Int := if op = 1 then a else if op = 2 then x else if op = 3 then x + y else if op = 4 then x - y else if op = 5 then min x y else max x y
def stepS (f : Nat → Option Int) (l : Ln) (i : Nat) (s : St) : St :=
  if wrB l.op then s.set l.d (cut ((f i).getD (opV l.op l.a (s.get l.a) (s.get l.b)))) else s
def nextI (l : Ln) (i : Nat) (s : St) : Nat := if l.op = 7 ∧ s.get l.a < s.get l.b then i + 1 + l.d.toNat else i + 1
theorem nextI_gt (l : Ln) (i : Nat) (s : St) : i < nextI l i s := by unfold nextI; split <;> omega
theorem stepS_fine (f : Nat → Option Int) (l : Ln) (i : Nat) {s : St} (h : s.fine) : (stepS f l i s).fine := by
  unfold stepS; split
  · exact St.set_fine h _ (cut_fine _)
  · exact h

/-- The lines that are done, each with the state before it, and the state at the end. -/
def trcN (p : List Ln) (f : Nat → Option Int) : Nat → Nat → St → List (Nat × St) × St
  | 0, _, s => ([], s)
  | n + 1, i, s => match p[i]? with
    | none => ([], s)
    | some l => ((i, s) :: (trcN p f n (nextI l i s) (stepS f l i s)).1, (trcN p f n (nextI l i s) (stepS f l i s)).2)
def trc (p : List Ln) (f : Nat → Option Int) (i : Nat) (s : St) : List (Nat × St) × St := trcN p f (p.length - i) i s
theorem trcN_fuel (p : List Ln) (f : Nat → Option Int) : ∀ (n m i : Nat) (s : St), p.length ≤ i + n → p.length ≤ i + m → trcN p f n i s = trcN p f m i s
  | 0, 0, _, _, _, _ => rfl
  | 0, m + 1, i, s, h, _ => by
    have : p[i]? = none := List.getElem?_eq_none (by omega)
    simp [trcN, this]
  | n + 1, 0, i, s, _, h => by
    have : p[i]? = none := List.getElem?_eq_none (by omega)
    simp [trcN, this]
  | n + 1, m + 1, i, s, h1, h2 => by
    cases hl : p[i]? with
    | none => simp [trcN, hl]
    | some l =>
      have := nextI_gt l i s
      have ih := trcN_fuel p f n m (nextI l i s) (stepS f l i s) (by omega) (by omega)
      simp [trcN, hl, ih]
theorem trc_end {p : List Ln} {f : Nat → Option Int} {i : Nat} {s : St} (h : p.length ≤ i) : trc p f i s = ([], s) := by
  unfold trc; rw [show p.length - i = 0 by omega]; rfl
theorem trc_step {p : List Ln} {f : Nat → Option Int} {i : Nat} {s : St} {l : Ln} (h : p[i]? = some l) :
    trc p f i s = ((i, s) :: (trc p f (nextI l i s) (stepS f l i s)).1, (trc p f (nextI l i s) (stepS f l i s)).2) := by
  have hlt : i < p.length := (List.getElem?_eq_some_iff.1 h).1
  have := nextI_gt l i s
  unfold trc
  obtain ⟨n, hn⟩ : ∃ n, p.length - i = n + 1 := ⟨p.length - i - 1, by omega⟩
  rw [hn]
  simp only [trcN, h]
  rw [trcN_fuel p f n (p.length - nextI l i s) _ _ (by omega) (by omega)]

/-- How far a run has come: the visits so far, where it stands, and its state. -/
def Upto (p : List Ln) (f : Nat → Option Int) (s0 : St) (vs : List (Nat × St)) (i : Nat) (s : St) : Prop :=
  vs ++ (trc p f i s).1 = (trc p f 0 s0).1 ∧ (trc p f i s).2 = (trc p f 0 s0).2
theorem Upto.start (p : List Ln) (f : Nat → Option Int) (s0 : St) : Upto p f s0 [] 0 s0 := ⟨rfl, rfl⟩
theorem Upto.step {p : List Ln} {f : Nat → Option Int} {s0 : St} {vs : List (Nat × St)} {i : Nat} {s : St} {l : Ln} (h : Upto p f s0 vs i s) (hl : p[i]? = some l) :
    Upto p f s0 (vs ++ [(i, s)]) (nextI l i s) (stepS f l i s) := by
  obtain ⟨h1, h2⟩ := h
  rw [trc_step hl] at h1 h2
  exact ⟨by rw [← h1]; simp, h2⟩
theorem Upto.done {p : List Ln} {f : Nat → Option Int} {s0 : St} {vs : List (Nat × St)} {i : Nat} {s : St} (h : Upto p f s0 vs i s) (hi : p.length ≤ i) :
    vs = (trc p f 0 s0).1 ∧ s = (trc p f 0 s0).2 := by
  obtain ⟨h1, h2⟩ := h
  rw [trc_end hi] at h1 h2
  exact ⟨by rw [← h1]; simp, h2⟩

def encV (v : Nat × St) : List Value := [.int .i64 v.1, .int .i64 v.2.r0, .int .i64 v.2.r1, .int .i64 v.2.r2, .int .i64 v.2.r3]
theorem encV_len (v : Nat × St) : (encV v).length = 5 := rfl

/-! ### What the functions of the package answer -/
def St.ofL (l : List Int) : St := ⟨l.getD 0 0, l.getD 1 0, l.getD 2 0, l.getD 3 0⟩
theorem St.ofL_toL (s : St) : St.ofL s.toL = s := rfl
def noF : Nat → Option Int := fun _ => none
/-- A list, if there is no error. -/
def ifOK {α : Type} (e : Int) (l : List α) : List α := if e = 0 then l else []
theorem ifOK_ok {α : Type} (l : List α) : ifOK 0 l = l := rfl
theorem ifOK_err {α : Type} {e : Int} (h : e ≠ 0) (l : List α) : ifOK e l = [] := by simp [ifOK, h]
def runM (p : List Ln) (s : List Int) : List Int := (trc p noF 0 (St.ofL s)).2.toL
def visits (p : List Ln) (s : List Int) : List (Nat × St) := (trc p noF 0 (St.ofL s)).1
def doneM (p : List Ln) (s : List Int) : List Int := (visits p s).map fun v => (v.1 : Int)

theorem visits_cell {w : World} {b o : Nat} {vs : List (Nat × St)} (hc : ∀ j x, vs[j]? = some x → ∀ i u, (encV x)[i]? = some u → w.cell? ⟨b, o + j * 5 + i, none⟩ = some u) (j : Nat) (x : Nat × St) (h : vs[j]? = some x) :
    w.cell? ⟨b, o + j * 5, none⟩ = some (.int .i64 x.1) ∧ w.cell? ⟨b, o + j * 5 + 1, none⟩ = some (.int .i64 x.2.r0) ∧ w.cell? ⟨b, o + j * 5 + 2, none⟩ = some (.int .i64 x.2.r1) ∧ w.cell? ⟨b, o + j * 5 + 3, none⟩ = some (.int .i64 x.2.r2) ∧ w.cell? ⟨b, o + j * 5 + 4, none⟩ = some (.int .i64 x.2.r3) :=
  ⟨hc j _ h 0 _ rfl, hc j _ h 1 _ rfl, hc j _ h 2 _ rfl, hc j _ h 3 _ rfl, hc j _ h 4 _ rfl⟩
theorem trcN_length (p : List Ln) (f : Nat → Option Int) : ∀ (n i : Nat) (s : St), (trcN p f n i s).1.length ≤ n
  | 0, _, _ => by simp [trcN]
  | n + 1, i, s => by
    simp only [trcN]
    split
    · simp
    · have := trcN_length p f n (nextI (by assumption) i s) (stepS f (by assumption) i s)
      simp only [List.length_cons]; omega
theorem visits_length (p : List Ln) (s : List Int) : (visits p s).length ≤ p.length := by
  unfold visits trc; exact trcN_length _ _ _ _ _
/-- The state before a line, its error. -/
def befE (p : List Ln) (s : List Int) (line : Int) : Int := if chk p s = 0 then (if inB line 0 (p.length - 1) then 0 else 4) else chk p s
def befO (p : List Ln) (s : List Int) (line : Int) : Option St := if befE p s line = 0 then ((visits p s).find? fun v => (v.1 : Int) == line).map (·.2) else none
def optL (o : Option St) : List Int := (o.map St.toL).getD []

/-! ### The block of a state -/
def arrS (s : St) : Array Value := #[.int .i64 s.r0, .int .i64 s.r1, .int .i64 s.r2, .int .i64 s.r3]
theorem arr_cell {w : World} {b : Nat} {s : St} {e : TypeId} (h : w.heap[b]? = some (.cells (arrS s) e (0, 0))) (r : Int) (h0 : 0 ≤ r) (h3 : r ≤ 3) : w.cell? ⟨b, r.toNat, none⟩ = some (.int .i64 (s.get r)) := by
  have : r = 0 ∨ r = 1 ∨ r = 2 ∨ r = 3 := by omega
  rcases this with rfl | rfl | rfl | rfl <;> simp [World.cell?, h, arrS, St.get]
theorem arr_cells {w : World} {b : Nat} {s : St} {e : TypeId} (h : w.heap[b]? = some (.cells (arrS s) e (0, 0))) :
    w.cell? ⟨b, 0, none⟩ = some (.int .i64 s.r0) ∧ w.cell? ⟨b, 1, none⟩ = some (.int .i64 s.r1) ∧ w.cell? ⟨b, 2, none⟩ = some (.int .i64 s.r2) ∧ w.cell? ⟨b, 3, none⟩ = some (.int .i64 s.r3) := by
  simp [World.cell?, h, arrS]
theorem arr_free {w : World} {b : Nat} {s : St} {e : TypeId} (h : w.heap[b]? = some (.cells (arrS s) e (0, 0))) (o : Nat) : w.frozen? ⟨b, o, none⟩ = false := by
  simp [World.frozen?, h]
theorem arr_set {w : World} {b : Nat} {s : St} {e : TypeId} (h : w.heap[b]? = some (.cells (arrS s) e (0, 0))) (r n : Int) (h0 : 0 ≤ r) (h3 : r ≤ 3) :
    (w.setCell ⟨b, r.toNat, none⟩ (.int .i64 n)).heap[b]? = some (.cells (arrS (s.set r n)) e (0, 0)) := by
  rw [heap_setCell_same w b _ _ e _ h]
  have : r = 0 ∨ r = 1 ∨ r = 2 ∨ r = 3 := by omega
  rcases this with rfl | rfl | rfl | rfl <;> rfl
/-- The four stores of a whole state. -/
def fillS (w : World) (b : Nat) (q : St) : World :=
  ((((w.setCell ⟨b, 0, none⟩ (.int .i64 q.r0)).setCell ⟨b, 1, none⟩ (.int .i64 q.r1)).setCell ⟨b, 2, none⟩ (.int .i64 q.r2)).setCell ⟨b, 3, none⟩ (.int .i64 q.r3)).drew
theorem arr_fill {w : World} {b : Nat} {s : St} {e : TypeId} (h : w.heap[b]? = some (.cells (arrS s) e (0, 0))) (q : St) : (fillS w b q).heap[b]? = some (.cells (arrS q) e (0, 0)) := by
  have h1 := arr_set h 0 q.r0 (by omega) (by omega)
  have h2 := arr_set h1 1 q.r1 (by omega) (by omega)
  have h3 := arr_set h2 2 q.r2 (by omega) (by omega)
  have h4 := arr_set h3 3 q.r3 (by omega) (by omega)
  exact h4
/-- Two numbers, sorted, each once. -/
def two (a b : Int) : List Int := if a = b then [a] else if a < b then [a, b] else [b, a]
end Go.Proofs.YtbccbokjecdaaaaGreat

namespace Go.Proofs.YtbccbokjecdaaaaGreat

/-- How many registers a line reads. -/
def rdN (op : Int) : Int := if op = 2 then 1 else if 3 ≤ op then 2 else 0
def rdL (op a b : Int) : List Int := if op = 2 then [a] else if 3 ≤ op then two a b else []
end Go.Proofs.YtbccbokjecdaaaaGreat

namespace Go.Proofs.YtbccbokjecdaaaaGreat
open Go.RowKit

/-- Which registers matter. -/
structure Ms where
  b0 : Bool
  b1 : Bool
  b2 : Bool
  b3 : Bool
deriving DecidableEq
def Ms.get (s : Ms) (r : Int) : Bool := if r = 0 then s.b0 else if r = 1 then s.b1 else if r = 2 then s.b2 else s.b3
def Ms.set (s : Ms) (r : Int) (n : Bool) : Ms := if r = 0 then { s with b0 := n } else if r = 1 then { s with b1 := n } else if r = 2 then { s with b2 := n } else { s with b3 := n }
def arrM (s : Ms) : Array Value := #[.bool s.b0, .bool s.b1, .bool s.b2, .bool s.b3]
theorem arrM_cell {w : World} {b : Nat} {s : Ms} {e : TypeId} (h : w.heap[b]? = some (.cells (arrM s) e (0, 0))) (r : Int) (h0 : 0 ≤ r) (h3 : r ≤ 3) : w.cell? ⟨b, r.toNat, none⟩ = some (.bool (s.get r)) := by
  have : r = 0 ∨ r = 1 ∨ r = 2 ∨ r = 3 := by omega
  rcases this with rfl | rfl | rfl | rfl <;> simp [World.cell?, h, arrM, Ms.get]
theorem arrM_free {w : World} {b : Nat} {s : Ms} {e : TypeId} (h : w.heap[b]? = some (.cells (arrM s) e (0, 0))) (o : Nat) : w.frozen? ⟨b, o, none⟩ = false := by
  simp [World.frozen?, h]
theorem arrM_set {w : World} {b : Nat} {s : Ms} {e : TypeId} (h : w.heap[b]? = some (.cells (arrM s) e (0, 0))) (r : Int) (n : Bool) (h0 : 0 ≤ r) (h3 : r ≤ 3) :
    (w.setCell ⟨b, r.toNat, none⟩ (.bool n)).heap[b]? = some (.cells (arrM (s.set r n)) e (0, 0)) := by
  rw [heap_setCell_same w b _ _ e _ h]
  have : r = 0 ∨ r = 1 ∨ r = 2 ∨ r = 3 := by omega
  rcases this with rfl | rfl | rfl | rfl <;> rfl

def wrT' (op d : Int) : Int := if wrB op then d else 0
/-- A line that is met on the way back: which registers matter now, and what is in the slice so far. -/
def sliceStep (p : List Ln) (acc : Ms × List Int) (v : Nat × St) : Ms × List Int :=
  match p[v.1]? with
  | none => acc
  | some l => if l.op ≠ 7 ∧ (wrB l.op = false ∨ acc.1.get l.d = false) then acc
    else ((rdL l.op l.a l.b).foldl (fun m r => m.set r true) (if wrB l.op then acc.1.set l.d false else acc.1), acc.2 ++ [(v.1 : Int)])
def sliceM (p : List Ln) (s : List Int) (r : Int) : List Int := ((visits p s).reverse.foldl (sliceStep p) (Ms.set ⟨false, false, false, false⟩ r true, [])).2.reverse
def sliceE (p : List Ln) (s : List Int) (r : Int) : Int := if chk p s = 0 then (if inB r 0 3 then 0 else 1) else chk p s

theorem ok_rd {op d a b : Int} (h : Ln.ok ⟨op, d, a, b⟩ = true) : 0 ≤ op ∧ op ≤ 7 ∧ (wrB op = true → 0 ≤ d ∧ d ≤ 3) ∧ ∀ r ∈ rdL op a b, 0 ≤ r ∧ r ≤ 3 := by
  unfold Ln.ok vL at h
  simp only [inB_def] at h
  have two_mem : ∀ r ∈ two a b, r = a ∨ r = b := by
    intro r hr
    unfold two at hr
    split at hr
    · simp at hr; exact .inl hr
    · split at hr <;> simp at hr <;> omega
  split at h
  · subst_vars; simp [wrB, inB_def, rdL]
  · split at h
    · subst_vars
      simp at h
      refine ⟨by omega, by omega, fun _ => by omega, ?_⟩
      simp [rdL]
    · split at h
      · subst_vars
        simp at h
        refine ⟨by omega, by omega, fun _ => by omega, ?_⟩
        simp [rdL]; omega
      · split at h
        · simp at h
          refine ⟨by omega, by omega, fun _ => by omega, ?_⟩
          intro r hr
          rw [show rdL op a b = two a b by unfold rdL; rw [if_neg (by omega), if_pos (by omega)]] at hr
          rcases two_mem r hr with rfl | rfl <;> omega
        · split at h
          · subst_vars
            simp at h
            refine ⟨by omega, by omega, fun hw => by simp [wrB, inB_def] at hw, ?_⟩
            intro r hr
            rw [show rdL 7 a b = two a b by simp [rdL]] at hr
            rcases two_mem r hr with rfl | rfl <;> omega
          · cases h

theorem trcN_lt (p : List Ln) (f : Nat → Option Int) : ∀ (n i : Nat) (s : St) (v : Nat × St), v ∈ (trcN p f n i s).1 → v.1 < p.length
  | 0, _, _, v, h => by simp [trcN] at h
  | n + 1, i, s, v, h => by
    cases hl : p[i]? with
    | none => simp [trcN, hl] at h
    | some l =>
      simp only [trcN, hl, List.mem_cons] at h
      rcases h with rfl | h
      · exact (List.getElem?_eq_some_iff.1 hl).1
      · exact trcN_lt p f n _ _ v h
theorem visits_lt (p : List Ln) (s : List Int) (v : Nat × St) (h : v ∈ visits p s) : v.1 < p.length := trcN_lt p noF _ _ _ v h

/-- What comes in a round of the walk back. -/
def vAt (vs : List (Nat × St)) (j : Fin vs.length) : Nat × St := vs[vs.length - 1 - j.1]'(by have := j.2; omega)
/-- How a walk back stands behind some rounds. -/
def backAcc (p : List Ln) (vs : List (Nat × St)) (m : Ms) (js : List (Fin vs.length)) : Ms × List Int := js.foldl (fun acc j => sliceStep p acc (vAt vs j)) (m, [])
theorem backAcc_snoc (p : List Ln) (vs : List (Nat × St)) (m : Ms) (js : List (Fin vs.length)) (j : Fin vs.length) : backAcc p vs m (js ++ [j]) = sliceStep p (backAcc p vs m js) (vAt vs j) := by
  simp [backAcc]
theorem sliceStep_le (p : List Ln) (acc : Ms × List Int) (v : Nat × St) : (sliceStep p acc v).2.length ≤ acc.2.length + 1 := by
  unfold sliceStep
  split
  · omega
  · split
    · omega
    · simp
theorem backAcc_le (p : List Ln) (vs : List (Nat × St)) : ∀ (js : List (Fin vs.length)) (acc : Ms × List Int), (js.foldl (fun acc j => sliceStep p acc (vAt vs j)) acc).2.length ≤ acc.2.length + js.length
  | [], acc => by simp
  | j :: js, acc => by
    have h1 := backAcc_le p vs js (sliceStep p acc (vAt vs j))
    have h2 := sliceStep_le p acc (vAt vs j)
    simp only [List.foldl_cons, List.length_cons]
    omega
theorem backAcc_len (p : List Ln) (vs : List (Nat × St)) (m : Ms) (js : List (Fin vs.length)) : (backAcc p vs m js).2.length ≤ js.length := by
  have := backAcc_le p vs js (m, [])
  simpa [backAcc] using this
theorem back_all (vs : List (Nat × St)) : (List.finRange vs.length).map (vAt vs) = vs.reverse := by
  apply List.ext_getElem
  · simp
  · intro i h1 h2
    simp [vAt]
theorem backAcc_all (p : List Ln) (vs : List (Nat × St)) (m : Ms) : backAcc p vs m (List.finRange vs.length) = vs.reverse.foldl (sliceStep p) (m, []) := by
  rw [← back_all, List.foldl_map]; rfl
theorem fin_take (n k : Nat) (h : k < n) : (List.finRange n).take (k + 1) = (List.finRange n).take k ++ [⟨k, h⟩] := by
  rw [List.take_add_one]
  simp [h]
/-- The two values of a round. -/
def encB (vs : List (Nat × St)) (j : Fin vs.length) : Array Value := #[.int .i64 ((vs.length - 1 - j : Nat) : Int), .agg (encV (vAt vs j)).toArray]
theorem encB_at (vs : List (Nat × St)) (m k : Nat) (h : vs.length = m + 1 + k) (hk : k < vs.length) (x : Nat × St) (hx : vs[m]? = some x) : encB vs ⟨k, hk⟩ = #[.int .i64 (m : Int), .agg #[.int .i64 x.1, .int .i64 x.2.r0, .int .i64 x.2.r1, .int .i64 x.2.r2, .int .i64 x.2.r3]] := by
  have e : vs.length - 1 - k = m := by omega
  obtain ⟨hm, hx'⟩ := List.getElem?_eq_some_iff.1 hx
  subst hx'
  simp [encB, vAt, e, encV]
/-- Two blocks lie as they lay. -/
def KeepAt (b b' : Nat) (A B : World) : Prop := B.heap[b]? = A.heap[b]? ∧ B.heap[b']? = A.heap[b']?
theorem KeepAt.refl (b b' : Nat) (A : World) : KeepAt b b' A A := ⟨rfl, rfl⟩
theorem KeepAt.trans {b b' : Nat} {A B C : World} (h : KeepAt b b' A B) (k : KeepAt b b' B C) : KeepAt b b' A C := ⟨k.1.trans h.1, k.2.trans h.2⟩
theorem KeepAt.of_grow {b b' : Nat} {A B : World} (h : Grow A B) (hb : b < A.heap.size) (hb' : b' < A.heap.size) : KeepAt b b' A B := ⟨h.heap hb, h.heap hb'⟩
theorem cell_of_heap {A B : World} {b : Nat} (h : B.heap[b]? = A.heap[b]?) {o : Nat} {v : Value} (hc : A.cell? ⟨b, o, none⟩ = some v) : B.cell? ⟨b, o, none⟩ = some v := by
  simp only [World.cell?, h] at hc ⊢; exact hc
end Go.Proofs.YtbccbokjecdaaaaGreat
