/- The plain functions behind layer 5: the order of lines, and templates. No program is named. -/
import Derived.Test.YtbccbokjecdaaaaPlS
import Derived.Test.YtbccbokjecdaaaaPlI
namespace Go.Proofs.Ytbccbokjecdaaaa
open Go.RowKit

/-! ### The order of lines -/
/-- A line comes before another one. -/
def ltP (x y : Ln) : Prop := x.op < y.op ∨ (x.op = y.op ∧ (x.d < y.d ∨ (x.d = y.d ∧ (x.a < y.a ∨ (x.a = y.a ∧ x.b < y.b)))))
instance (x y : Ln) : Decidable (ltP x y) := by unfold ltP; exact inferInstance
def ltL (x y : Ln) : Bool := decide (ltP x y)
theorem ltL_def (x y : Ln) : ltL x y = decide (ltP x y) := rfl
theorem ltP_irrefl (x : Ln) : ¬ ltP x x := by unfold ltP; omega
theorem ltP_trans {x y z : Ln} (h : ltP x y) (k : ltP y z) : ltP x z := by unfold ltP at *; omega
theorem ltP_total (x y : Ln) : ltP x y ∨ x = y ∨ ltP y x := by
  obtain ⟨o, d, a, b⟩ := x
  obtain ⟨o', d', a', b'⟩ := y
  simp only [ltP, Ln.mk.injEq]
  omega
def cmpI (a b : Int) : Int := if a < b then -1 else if b < a then 1 else 0
def orI (xs : List Int) : Int := match xs with | [] => 0 | x :: r => if x = 0 then orI r else x
def cmpL (x y : Ln) : Int := orI [cmpI x.op y.op, cmpI x.d y.d, cmpI x.a y.a, cmpI x.b y.b]
theorem cmpL_lt (x y : Ln) : decide (cmpL x y < 0) = ltL x y := by
  unfold ltL
  rw [decide_eq_decide]
  obtain ⟨o, d, a, b⟩ := x
  obtain ⟨o', d', a', b'⟩ := y
  simp only [cmpL, orI, cmpI, ltP]
  split <;> split <;> omega

/-- The ascending list of what is in a list, each once. -/
def IsOrd (xs ys : List Ln) : Prop := ys.Pairwise ltP ∧ ∀ x, x ∈ ys ↔ x ∈ xs
theorem ord_ext : ∀ (l m : List Ln), l.Pairwise ltP → m.Pairwise ltP → (∀ x, x ∈ l ↔ x ∈ m) → l = m
  | [], [], _, _, _ => rfl
  | [], b :: m, _, _, h => by have := (h b).2 (by simp); simp at this
  | a :: l, [], _, _, h => by have := (h a).1 (by simp); simp at this
  | a :: l, b :: m, hl, hm, h => by
    obtain ⟨l1, l2⟩ := List.pairwise_cons.1 hl
    obtain ⟨m1, m2⟩ := List.pairwise_cons.1 hm
    have hab : a = b := by
      rcases List.mem_cons.1 ((h a).1 (by simp)) with e | e
      · exact e
      · rcases List.mem_cons.1 ((h b).2 (by simp)) with e' | e'
        · exact e'.symm
        · exact absurd (ltP_trans (m1 a e) (l1 b e')) (ltP_irrefl _)
    subst hab
    congr 1
    refine ord_ext l m l2 m2 fun x => ⟨fun hx => ?_, fun hx => ?_⟩
    · rcases List.mem_cons.1 ((h x).1 (List.mem_cons_of_mem _ hx)) with e | e
      · subst e; exact absurd (l1 x hx) (ltP_irrefl _)
      · exact e
    · rcases List.mem_cons.1 ((h x).2 (List.mem_cons_of_mem _ hx)) with e | e
      · subst e; exact absurd (m1 x hx) (ltP_irrefl _)
      · exact e
def insL (x : Ln) : List Ln → List Ln
  | [] => [x]
  | y :: r => if ltP x y then x :: y :: r else if x = y then y :: r else y :: insL x r
def ordL (xs : List Ln) : List Ln := xs.foldr insL []
theorem mem_insL (x z : Ln) : ∀ l, z ∈ insL x l ↔ z = x ∨ z ∈ l
  | [] => by simp [insL]
  | y :: r => by
    unfold insL
    split
    · simp
    · split
      · next h => subst h; simp
      · simp only [List.mem_cons, mem_insL x z r]
        constructor
        · rintro (h | h | h)
          · exact .inr (.inl h)
          · exact .inl h
          · exact .inr (.inr h)
        · rintro (h | h | h)
          · exact .inr (.inl h)
          · exact .inl h
          · exact .inr (.inr h)
theorem insL_asc (x : Ln) : ∀ l : List Ln, l.Pairwise ltP → (insL x l).Pairwise ltP
  | [], _ => by simp [insL]
  | y :: r, h => by
    obtain ⟨h1, h2⟩ := List.pairwise_cons.1 h
    unfold insL
    split
    · next hx => exact List.pairwise_cons.2 ⟨fun z hz => by rcases List.mem_cons.1 hz with rfl | hz; exact hx; exact ltP_trans hx (h1 z hz), h⟩
    · split
      · exact h
      · next hx hne =>
        refine List.pairwise_cons.2 ⟨fun z hz => ?_, insL_asc x r h2⟩
        rcases (mem_insL x z r).1 hz with rfl | hz
        · rcases ltP_total y z with h | h | h
          · exact h
          · exact absurd h.symm hne
          · exact absurd h hx
        · exact h1 z hz
theorem ordL_is (xs : List Ln) : IsOrd xs (ordL xs) := by
  unfold ordL
  induction xs with
  | nil => exact ⟨List.Pairwise.nil, fun x => by simp⟩
  | cons x r ih => exact ⟨insL_asc x _ ih.1, fun z => by rw [List.foldr_cons, mem_insL, ih.2, List.mem_cons]⟩
theorem IsOrd.eq {xs ys : List Ln} (h : IsOrd xs ys) : ys = ordL xs := ord_ext _ _ h.1 (ordL_is xs).1 fun x => (h.2 x).trans ((ordL_is xs).2 x).symm
theorem mem_ordL {xs : List Ln} {x : Ln} : x ∈ ordL xs ↔ x ∈ xs := (ordL_is xs).2 x

/-! ### Templates -/
def validL (xs : List Ln) (but : Ln) : List Ln := ordL (xs.filter fun x => !(decide (x = but) || !x.ok))
theorem mem_validL {xs : List Ln} {but x : Ln} : x ∈ validL xs but ↔ x ∈ xs ∧ x ≠ but ∧ x.ok = true := by
  unfold validL
  rw [mem_ordL, List.mem_filter]
  simp
def setF (l : Ln) (k : Nat) (n : Int) : Ln := match k with | 0 => { l with d := n } | 1 => { l with a := n } | _ => { l with b := n }
/-- The fields that a line has, by number: 0 the target, 1 and 2 the operands. -/
def fldL (op : Int) : List Nat := if op = 1 then [0] else if op = 2 then [0, 1] else if op = 7 then [1, 2] else if op = 0 then [] else [0, 1, 2]
def byL (l : Ln) (n : Int) : Ln := if l.op = 1 then { l with a := l.a + n } else if l.op = 7 then { l with d := l.d + n } else l
def rawT (l : Ln) : List Ln :=
  [⟨0, 0, 0, 0⟩, byL l (-1), byL l 1] ++ (fldL l.op).flatMap (fun k => [setF l k 0, setF l k 1, setF l k 2, setF l k 3]) ++
    (if 3 ≤ l.op then [⟨l.op, l.d, l.b, l.a⟩] else []) ++ (if 3 ≤ l.op ∧ l.op ≤ 6 then [⟨3, l.d, l.a, l.b⟩, ⟨4, l.d, l.a, l.b⟩, ⟨5, l.d, l.a, l.b⟩, ⟨6, l.d, l.a, l.b⟩] else [])
def tmpl (l : Ln) : List Ln := if l.op = 0 then [] else validL (rawT l) l
/-- What Near answers. -/
def nearE (l m : Ln) : Int := if l.ok && m.ok then 0 else 1
def nearB (l m : Ln) : Bool := l.ok && m.ok && (tmpl l).contains m
theorem mem_tmpl {l m : Ln} : m ∈ tmpl l ↔ l.op ≠ 0 ∧ m ∈ rawT l ∧ m ≠ l ∧ m.ok = true := by
  unfold tmpl
  by_cases h : l.op = 0
  · rw [if_pos h]; simp [h]
  · rw [if_neg h, mem_validL]; simp [h]

/-- A template by the fields. -/
def tmpP (l m : Ln) : Prop :=
  m = ⟨0, 0, 0, 0⟩ ∨ (m.op = l.op ∧ (
    (l.op = 1 ∧ ((m.d = l.d ∧ (m.a = l.a - 1 ∨ m.a = l.a + 1)) ∨ (m.a = l.a)) ∧ m.b = l.b) ∨
    (l.op = 2 ∧ ((m.a = l.a) ∨ (m.d = l.d)) ∧ m.b = l.b) ∨
    (l.op = 7 ∧ ((m.a = l.a ∧ m.b = l.b ∧ (m.d = l.d - 1 ∨ m.d = l.d + 1)) ∨ (m.d = l.d ∧ (m.b = l.b ∨ m.a = l.a ∨ (m.a = l.b ∧ m.b = l.a))))) ∨
    (3 ≤ l.op ∧ l.op ≤ 6 ∧ ((m.a = l.a ∧ m.b = l.b) ∨ (m.d = l.d ∧ m.b = l.b) ∨ (m.d = l.d ∧ m.a = l.a) ∨ (m.d = l.d ∧ m.a = l.b ∧ m.b = l.a))))) ∨
  (3 ≤ l.op ∧ l.op ≤ 6 ∧ 3 ≤ m.op ∧ m.op ≤ 6 ∧ m.d = l.d ∧ m.a = l.a ∧ m.b = l.b)
instance (l m : Ln) : Decidable (tmpP l m) := by unfold tmpP; exact inferInstance
end Go.Proofs.Ytbccbokjecdaaaa
