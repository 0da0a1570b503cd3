/-
The plain functions behind layer 4: patches. No program is named.
The plain functions behind layer 1: the slice of a register. No program is named.
The plain functions of the document's answer to layer 1. No program is named.
Small lemmas: one element of a list that can be read. No program is named.
The plain functions behind layer 5: the order of lines, and templates. No program is named.
Stores into a list that the call has made. No program is named.
The greedy order waits at most four times as long as any other: the plain law, on numbers. No program is named.
Suites, plainly: what rows meet, covers, goals that exclude each other, how long an order waits. No program is named.
-/
import Derived.Test.YtfbfkkaepgcggaaGreatQ00
namespace Go.Proofs.YtfbfkkaepgcggaaGreat
open Go.RowKit

/-- An edit. -/
structure Ed where
  at_ : Int
  l : Ln
deriving DecidableEq
def encE (e : Ed) : List Value := .int .i64 e.at_ :: encL e.l
theorem encE_len (e : Ed) : (encE e).length = 5 := rfl
abbrev EditsAt (w : World) (v : Value) (x : List Ed) : Prop := SlcAt 5 encE w v x
theorem edits_at {w : World} {a : Option Addr} {n c : Nat} {x : List Ed} (h : EditsAt w (.slice a n c) x) {k : Nat} {t op d a' b' : Int} (hx : x[k]? = some ⟨t, ⟨op, d, a', b'⟩⟩) : ∃ b o, a = some ⟨b, o, none⟩ ∧ b < w.heap.size ∧
    w.cell? ⟨b, o + k * 5, none⟩ = some (.int .i64 t) ∧ w.cell? ⟨b, o + k * 5 + 1, none⟩ = some (.int .i64 op) ∧ w.cell? ⟨b, o + k * 5 + 2, none⟩ = some (.int .i64 d) ∧ w.cell? ⟨b, o + k * 5 + 3, none⟩ = some (.int .i64 a') ∧ w.cell? ⟨b, o + k * 5 + 4, none⟩ = some (.int .i64 b') := by
  obtain ⟨_, _, e, _, _, h⟩ := h
  cases e
  obtain ⟨b, o, rfl, hb, hc⟩ := h.resolve_left (by intro h0; rw [h0.1] at hx; simp at hx)
  exact ⟨b, o, rfl, hb, hc k _ hx 0 _ rfl, hc k _ hx 1 _ rfl, hc k _ hx 2 _ rfl, hc k _ hx 3 _ rfl, hc k _ hx 4 _ rfl⟩
def prevAt (x : List Ed) (i : Nat) : Int := if i = 0 then -1 else match x[i - 1]? with | some e => e.at_ | none => -1
def edOK (x : List Ed) (i : Nat) : Bool := match x[i]? with | some e => decide (0 ≤ e.at_) && decide (e.at_ < 8) && (decide (prevAt x i < e.at_) && e.l.ok) | none => true
def edsOK (x : List Ed) : Bool := (List.range x.length).all (edOK x)
/-- The errors of a patch. -/
def valX (x : List Ed) : Int := if 4 < x.length then 3 else errB (edsOK x)
theorem edOK_iff {x : List Ed} {i : Nat} {e : Ed} (h : x[i]? = some e) : edOK x i = true ↔ (0 ≤ e.at_ ∧ e.at_ < 8) ∧ prevAt x i < e.at_ ∧ e.l.ok = true := by
  unfold edOK; rw [h]; simp
theorem edsOK_at {x : List Ed} (h : edsOK x = true) {i : Nat} {e : Ed} (hx : x[i]? = some e) : (0 ≤ e.at_ ∧ e.at_ < 8) ∧ prevAt x i < e.at_ ∧ e.l.ok = true :=
  (edOK_iff hx).1 (List.all_eq_true.1 h i (List.mem_range.2 (List.getElem?_eq_some_iff.1 hx).1))
theorem edsOK_upto {x : List Ed} {k : Nat} (h : ∀ i < k, edOK x i = true) (hk : x.length ≤ k) : edsOK x = true := List.all_eq_true.2 fun i hi => h i (by have := List.mem_range.1 hi; omega)
theorem edsOK_bad {x : List Ed} {k : Nat} (hk : k < x.length) (h : edOK x k = false) : edsOK x = false := by
  rw [← Bool.not_eq_true]
  intro h2
  have := List.all_eq_true.1 h2 k (List.mem_range.2 hk)
  rw [h] at this; cases this
theorem valX_ok {x : List Ed} : valX x = 0 ↔ x.length ≤ 4 ∧ edsOK x = true := by
  unfold valX errB
  by_cases h : 4 < x.length
  · simp only [h, if_true]; exact ⟨fun h => (by cases h), fun h2 => (by omega)⟩
  · simp only [h, if_false]
    cases hp : edsOK x <;> simp; omega
/-- The places rise. -/
theorem eds_lt {x : List Ed} (h : edsOK x = true) : ∀ (j i : Nat) (e f : Ed), i < j → x[i]? = some e → x[j]? = some f → e.at_ < f.at_
  | 0, _, _, _, hij, _, _ => by omega
  | j + 1, i, e, f, hij, he, hf => by
    have hp := (edsOK_at h hf).2.1
    have hj : j < x.length := by have := (List.getElem?_eq_some_iff.1 hf).1; omega
    obtain ⟨g, hg⟩ : ∃ g, x[j]? = some g := ⟨_, List.getElem?_eq_getElem hj⟩
    have hpv : prevAt x (j + 1) = g.at_ := by
      unfold prevAt
      rw [if_neg (by omega), show j + 1 - 1 = j by omega, hg]
    rw [hpv] at hp
    by_cases hi : i = j
    · subst hi; rw [he] at hg; cases hg; exact hp
    · have := eds_lt h j i e g (by omega) he hg
      omega
def atB (j : Int) (e : Ed) : Bool := decide (e.at_ = j)
/-- The program after a patch. -/
def doM (p : List Ln) (x : List Ed) : List Ln := p.mapIdx fun j l => match x.find? (atB j) with | some e => e.l | none => l
theorem doM_length (p : List Ln) (x : List Ed) : (doM p x).length = p.length := by simp [doM]
theorem doM_get (p : List Ln) (x : List Ed) (j : Nat) : (doM p x)[j]? = (p[j]?).map fun l => match x.find? (atB j) with | some e => e.l | none => l := by
  unfold doM; rw [List.getElem?_mapIdx]
theorem doM_ok {p : List Ln} {x : List Ed} (hp : valP p = 0) (hx : ∀ e ∈ x, e.l.ok = true) : valP (doM p x) = 0 := by
  obtain ⟨h1, h2⟩ := valP_ok.1 hp
  refine valP_ok.2 ⟨by rw [doM_length]; exact h1, fun l hl => ?_⟩
  obtain ⟨j, hj⟩ := List.getElem?_of_mem hl
  rw [doM_get] at hj
  cases hpj : p[j]? with
  | none => rw [hpj] at hj; cases hj
  | some m =>
    rw [hpj] at hj
    simp only [Option.map_some, Option.some.injEq] at hj
    cases hf : x.find? (atB j) with
    | none => rw [hf] at hj; dsimp only at hj; rw [← hj]; exact h2 _ (List.mem_of_getElem? hpj)
    | some e => rw [hf] at hj; dsimp only at hj; rw [← hj]; exact hx _ (List.mem_of_find?_eq_some hf)
theorem find_snoc_other {ys : List Ed} {e : Ed} {j : Int} (h : e.at_ ≠ j) : (ys ++ [e]).find? (atB j) = ys.find? (atB j) := by
  rw [List.find?_append]
  have : [e].find? (atB j) = none := by simp [atB, h]
  rw [this]; cases ys.find? (atB j) <;> rfl
theorem find_take_none {x : List Ed} (h : edsOK x = true) {k : Nat} {e : Ed} (hx : x[k]? = some e) : (x.take k).find? (atB e.at_) = none := by
  rw [List.find?_eq_none]
  intro f hf
  obtain ⟨i, hi⟩ := List.getElem?_of_mem hf
  rw [List.getElem?_take] at hi
  split at hi
  · next hik => have := eds_lt h k i f e hik hi hx; simp [atB]; omega
  · cases hi
theorem find_snoc_same {ys : List Ed} {e : Ed} (h : ys.find? (atB e.at_) = none) : (ys ++ [e]).find? (atB e.at_) = some e := by
  rw [List.find?_append, h]
  simp [atB]
/-- The lines put one after the other. -/
def setAll (p : List Ln) (x : List Ed) : List Ln := x.foldl (fun q e => q.set e.at_.toNat e.l) p
theorem setAll_snoc (p : List Ln) (x : List Ed) (e : Ed) : setAll p (x ++ [e]) = (setAll p x).set e.at_.toNat e.l := by unfold setAll; rw [List.foldl_append]; rfl
theorem setAll_take {p : List Ln} {x : List Ed} (h : edsOK x = true) : ∀ k, k ≤ x.length → setAll p (x.take k) = doM p (x.take k)
  | 0, _ => by
    refine List.ext_getElem? fun j => ?_
    rw [doM_get, List.take_zero]
    cases hj : p[j]? with
    | none => exact hj
    | some l => exact hj
  | k + 1, hk => by
    obtain ⟨e, he⟩ : ∃ e, x[k]? = some e := ⟨_, List.getElem?_eq_getElem (by omega)⟩
    have ih := setAll_take h k (by omega) (p := p)
    have ht : x.take (k + 1) = x.take k ++ [e] := by rw [List.take_add_one, he]; rfl
    obtain ⟨⟨e0, _⟩, _⟩ := edsOK_at h he
    rw [ht, setAll_snoc, ih]
    refine List.ext_getElem? fun j => ?_
    rw [doM_get]
    by_cases hj : e.at_ = (j : Int)
    · have hn : e.at_.toNat = j := by omega
      rw [hn, ← hj, find_snoc_same (find_take_none h he)]
      by_cases hl : j < p.length
      · rw [List.getElem?_set_self (by rw [doM_length]; exact hl), List.getElem?_eq_getElem hl]; rfl
      · rw [List.getElem?_eq_none (by rw [List.length_set, doM_length]; omega), List.getElem?_eq_none (by omega)]; rfl
    · rw [List.getElem?_set_ne (by omega), find_snoc_other hj, doM_get]
theorem setAll_eq {p : List Ln} {x : List Ed} (h : edsOK x = true) : setAll p x = doM p x := by
  have := setAll_take (p := p) h x.length (Nat.le_refl _)
  rwa [List.take_length] at this
/-- Some place is no line of the program. -/
def offB (n : Nat) (x : List Ed) : Bool := x.any fun e => decide ((n : Int) ≤ e.at_)
/-- The errors of a program, a patch and tests. -/
def chkX (p : List Ln) (x : List Ed) (ts : List Tst) : Int := if valP p = 0 then (if valX x = 0 then (if valT ts = 0 then (if offB p.length x then 4 else 0) else valT ts) else valX x) else valP p
theorem chkX_ok {p : List Ln} {x : List Ed} {ts : List Tst} : chkX p x ts = 0 ↔ valP p = 0 ∧ valX x = 0 ∧ valT ts = 0 ∧ offB p.length x = false := by
  unfold chkX
  by_cases h1 : valP p = 0
  · by_cases h2 : valX x = 0
    · by_cases h3 : valT ts = 0
      · cases h4 : offB p.length x <;> simp [h1, h2, h3]
      · simp [h1, h2, h3]
    · simp [h1, h2]
  · simp [h1]
end Go.Proofs.YtfbfkkaepgcggaaGreat

namespace Go.Proofs.YtfbfkkaepgcggaaGreat
open Go.RowKit

/-- Which registers matter. -/
structure Ms where
  b0 : Bool
  b1 : Bool
  b2 : Bool
  b3 : Bool
deriving DecidableEq
def Ms.get (s : Ms) (r : Int) : Bool := if r = 0 then s.b0 else if r = 1 then s.b1 else if r = 2 then s.b2 else s.b3
def Ms.set (s : Ms) (r : Int) (n : Bool) : Ms := if r = 0 then { s with b0 := n } else if r = 1 then { s with b1 := n } else if r = 2 then { s with b2 := n } else { s with b3 := n }
/-- Two blocks lie as they lay. -/
def KeepAt (b b' : Nat) (A B : World) : Prop := B.heap[b]? = A.heap[b]? ∧ B.heap[b']? = A.heap[b']?
theorem KeepAt.refl (b b' : Nat) (A : World) : KeepAt b b' A A := ⟨rfl, rfl⟩
theorem KeepAt.trans {b b' : Nat} {A B C : World} (h : KeepAt b b' A B) (k : KeepAt b b' B C) : KeepAt b b' A C := ⟨k.1.trans h.1, k.2.trans h.2⟩
theorem KeepAt.of_grow {b b' : Nat} {A B : World} (h : Grow A B) (hb : b < A.heap.size) (hb' : b' < A.heap.size) : KeepAt b b' A B := ⟨h.heap hb, h.heap hb'⟩
end Go.Proofs.YtfbfkkaepgcggaaGreat

namespace Go.Proofs.YtfbfkkaepgcggaaGreat
open Go.RowKit

def Ms.toL (m : Ms) : List Bool := [m.b0, m.b1, m.b2, m.b3]
end Go.Proofs.YtfbfkkaepgcggaaGreat

namespace Go.Proofs.YtfbfkkaepgcggaaGreat
open Go.RowKit

theorem slc_n {α : Type} {k : Nat} {enc : α → List Value} {w : World} {a : Option Addr} {n c : Nat} {xs : List α} (h : SlcAt k enc w (.slice a n c) xs) : n = xs.length ∧ xs.length ≤ 9223372036854775807 := by
  obtain ⟨_, _, e, h1, h2, _⟩ := h
  cases e
  exact ⟨rfl, by omega⟩
theorem ints_at {w : World} {a : Option Addr} {n c : Nat} {xs : List Int} (h : IntsAt w (.slice a n c) xs) {k : Nat} {x : Int} (hx : xs[k]? = some x) : ∃ b o, a = some ⟨b, o, none⟩ ∧ b < w.heap.size ∧ w.cell? ⟨b, o + k, none⟩ = some (.int .i64 x) := by
  obtain ⟨_, _, e, _, _, h⟩ := h
  cases e
  obtain ⟨b, o, rfl, hb, hc⟩ := h.resolve_left (by intro h0; rw [h0.1] at hx; simp at hx)
  exact ⟨b, o, rfl, hb, ints_cell hc k x hx⟩
theorem lines_at {w : World} {a : Option Addr} {n c : Nat} {xs : List Ln} (h : LinesAt w (.slice a n c) xs) {k : Nat} {op d x y : Int} (hx : xs[k]? = some ⟨op, d, x, y⟩) : ∃ b o, a = some ⟨b, o, none⟩ ∧ b < w.heap.size ∧
    w.cell? ⟨b, o + k * 4, none⟩ = some (.int .i64 op) ∧ w.cell? ⟨b, o + k * 4 + 1, none⟩ = some (.int .i64 d) ∧ w.cell? ⟨b, o + k * 4 + 2, none⟩ = some (.int .i64 x) ∧ w.cell? ⟨b, o + k * 4 + 3, none⟩ = some (.int .i64 y) := by
  obtain ⟨_, _, e, _, _, h⟩ := h
  cases e
  obtain ⟨b, o, rfl, hb, hc⟩ := h.resolve_left (by intro h0; rw [h0.1] at hx; simp at hx)
  exact ⟨b, o, rfl, hb, lines_cell hc k op d x y hx⟩
end Go.Proofs.YtfbfkkaepgcggaaGreat

namespace Go.Proofs.YtfbfkkaepgcggaaGreat
open Go.RowKit

/-! ### The order of lines -/
/-- A line comes before another one. -/
def ltP (x y : Ln) : Prop := x.op < y.op ∨ (x.op = y.op ∧ (x.d < y.d ∨ (x.d = y.d ∧ (x.a < y.a ∨ (x.a = y.a ∧ x.b < y.b)))))
instance (x y : Ln) : Decidable (ltP x y) := by unfold ltP; exact inferInstance
def ltL (x y : Ln) : Bool := decide (ltP x y)
theorem ltL_def (x y : Ln) : ltL x y = decide (ltP x y) := rfl
theorem ltP_irrefl (x : Ln) : ¬ ltP x x := by unfold ltP; omega
theorem ltP_trans {x y z : Ln} (h : ltP x y) (k : ltP y z) : ltP x z := by unfold ltP at *; omega
theorem ltP_total (x y : Ln) : ltP x y ∨ x = y ∨ ltP y x := by
  obtain ⟨o, d, a, b⟩ := x
  obtain ⟨o', d', a', b'⟩ := y
  simp only [ltP, Ln.mk.injEq]
  omega
def cmpI (a b : Int) : Int := if a < b then -1 else if b < a then 1 else 0
def orI (xs : List Int) : Int := match xs with | [] => 0 | x :: r => if x = 0 then orI r else x
def cmpL (x y : Ln) : Int := orI [cmpI x.op y.op, cmpI x.d y.d, cmpI x.a y.a, cmpI x.b y.b]
theorem cmpL_lt (x y : Ln) : decide (cmpL x y < 0) = ltL x y := by
  unfold ltL
  rw [decide_eq_decide]
  obtain ⟨o, d, a, b⟩ := x
  obtain ⟨o', d', a', b'⟩ := y
  simp only [cmpL, orI, cmpI, ltP]
  split <;> split <;> omega

/-- The ascending list of what is in a list, each once. -/
def IsOrd (xs ys : List Ln) : Prop := ys.Pairwise ltP ∧ ∀ x, x ∈ ys ↔ x ∈ xs
theorem ord_ext : ∀ (l m : List Ln), l.Pairwise ltP → m.Pairwise ltP → (∀ x, x ∈ l ↔ x ∈ m) → l = m
  | [], [], _, _, _ => rfl
  | [], b :: m, _, _, h => by have := (h b).2 (by simp); simp at this
  | a :: l, [], _, _, h => by have := (h a).1 (by simp); simp at this
  | a :: l, b :: m, hl, hm, h => by
    obtain ⟨l1, l2⟩ := List.pairwise_cons.1 hl
    obtain ⟨m1, m2⟩ := List.pairwise_cons.1 hm
    have hab : a = b := by
      rcases List.mem_cons.1 ((h a).1 (by simp)) with e | e
      · exact e
      · rcases List.mem_cons.1 ((h b).2 (by simp)) with e' | e'
        · exact e'.symm
        · exact absurd (ltP_trans (m1 a e) (l1 b e')) (ltP_irrefl _)
    subst hab
    congr 1
    refine ord_ext l m l2 m2 fun x => ⟨fun hx => ?_, fun hx => ?_⟩
    · rcases List.mem_cons.1 ((h x).1 (List.mem_cons_of_mem _ hx)) with e | e
      · subst e; exact absurd (l1 x hx) (ltP_irrefl _)
      · exact e
    · rcases List.mem_cons.1 ((h x).2 (List.mem_cons_of_mem _ hx)) with e | e
      · subst e; exact absurd (m1 x hx) (ltP_irrefl _)
      · exact e
def insL (x : Ln) : List Ln → List Ln
  | [] => [x]
  | y :: r => if ltP x y then x :: y :: r else if x = y then y :: r else y :: insL x r
def ordL (xs : List Ln) : List Ln := xs.foldr insL []
theorem mem_insL (x z : Ln) : ∀ l, z ∈ insL x l ↔ z = x ∨ z ∈ l
  | [] => by simp [insL]
  | y :: r => by
    unfold insL
    split
    · simp
    · split
      · next h => subst h; simp
      · simp only [List.mem_cons, mem_insL x z r]
        constructor
        · rintro (h | h | h)
          · exact .inr (.inl h)
          · exact .inl h
          · exact .inr (.inr h)
        · rintro (h | h | h)
          · exact .inr (.inl h)
          · exact .inl h
          · exact .inr (.inr h)
theorem insL_asc (x : Ln) : ∀ l : List Ln, l.Pairwise ltP → (insL x l).Pairwise ltP
  | [], _ => by simp [insL]
  | y :: r, h => by
    obtain ⟨h1, h2⟩ := List.pairwise_cons.1 h
    unfold insL
    split
    · next hx => exact List.pairwise_cons.2 ⟨fun z hz => by rcases List.mem_cons.1 hz with rfl | hz; exact hx; exact ltP_trans hx (h1 z hz), h⟩
    · split
      · exact h
      · next hx hne =>
        refine List.pairwise_cons.2 ⟨fun z hz => ?_, insL_asc x r h2⟩
        rcases (mem_insL x z r).1 hz with rfl | hz
        · rcases ltP_total y z with h | h | h
          · exact h
          · exact absurd h.symm hne
          · exact absurd h hx
        · exact h1 z hz
theorem ordL_is (xs : List Ln) : IsOrd xs (ordL xs) := by
  unfold ordL
  induction xs with
  | nil => exact ⟨List.Pairwise.nil, fun x => by simp⟩
  | cons x r ih => exact ⟨insL_asc x _ ih.1, fun z => by rw [List.foldr_cons, mem_insL, ih.2, List.mem_cons]⟩
theorem IsOrd.eq {xs ys : List Ln} (h : IsOrd xs ys) : ys = ordL xs := ord_ext _ _ h.1 (ordL_is xs).1 fun x => (h.2 x).trans ((ordL_is xs).2 x).symm
theorem mem_ordL {xs : List Ln} {x : Ln} : x ∈ ordL xs ↔ x ∈ xs := (ordL_is xs).2 x

/-! ### Templates -/
def validL (xs : List Ln) (but : Ln) : List Ln := ordL (xs.filter fun x => !(decide (x = but) || !x.ok))
theorem mem_validL {xs : List Ln} {but x : Ln} : x ∈ validL xs but ↔ x ∈ xs ∧ x ≠ but ∧ x.ok = true := by
  unfold validL
  rw [mem_ordL, List.mem_filter]
  simp
def setF (l : Ln) (k : Nat) (n : Int) : Ln := match k with | 0 => { l with d := n } | 1 => { l with a := n } | _ => { l with b := n }
/-- The fields that a line has, by number: 0 the target, 1 and 2 the operands. -/
def fldL (op : Int) : List Nat := if op = 1 then [0] else if op = 2 then [0, 1] else if op = 7 then [1, 2] else if op = 0 then [] else [0, 1, 2]
def byL (l : Ln) (n : Int) : Ln := if l.op = 1 then { l with a := l.a + n } else if l.op = 7 then { l with d := l.d + n } else l
def rawT (l : Ln) : List Ln :=
  [⟨0, 0, 0, 0⟩, byL l (-1), byL l 1] ++ (fldL l.op).flatMap (fun k => [setF l k 0, setF l k 1, setF l k 2, setF l k 3]) ++
    (if 3 ≤ l.op then [⟨l.op, l.d, l.b, l.a⟩] else []) ++ (if 3 ≤ l.op ∧ l.op ≤ 6 then [⟨3, l.d, l.a, l.b⟩, ⟨4, l.d, l.a, l.b⟩, ⟨5, l.d, l.a, l.b⟩, ⟨6, l.d, l.a, l.b⟩] else [])
def tmpl (l : Ln) : List Ln := if l.op = 0 then [] else validL (rawT l) l
def nearB (l m : Ln) : Bool := l.ok && m.ok && (tmpl l).contains m
theorem mem_tmpl {l m : Ln} : m ∈ tmpl l ↔ l.op ≠ 0 ∧ m ∈ rawT l ∧ m ≠ l ∧ m.ok = true := by
  unfold tmpl
  by_cases h : l.op = 0
  · rw [if_pos h]; simp [h]
  · rw [if_neg h, mem_validL]; simp [h]

/-- A template by the fields. -/
def tmpP (l m : Ln) : Prop :=
  m = ⟨0, 0, 0, 0⟩ ∨ (m.op = l.op ∧ (
    (l.op = 1 ∧ ((m.d = l.d ∧ (m.a = l.a - 1 ∨ m.a = l.a + 1)) ∨ (m.a = l.a)) ∧ m.b = l.b) ∨
    (l.op = 2 ∧ ((m.a = l.a) ∨ (m.d = l.d)) ∧ m.b = l.b) ∨
    (l.op = 7 ∧ ((m.a = l.a ∧ m.b = l.b ∧ (m.d = l.d - 1 ∨ m.d = l.d + 1)) ∨ (m.d = l.d ∧ (m.b = l.b ∨ m.a = l.a ∨ (m.a = l.b ∧ m.b = l.a))))) ∨
    (3 ≤ l.op ∧ l.op ≤ 6 ∧ ((m.a = l.a ∧ m.b = l.b) ∨ (m.d = l.d ∧ m.b = l.b) ∨ (m.d = l.d ∧ m.a = l.a) ∨ (m.d = l.d ∧ m.a = l.b ∧ m.b = l.a))))) ∨
  (3 ≤ l.op ∧ l.op ≤ 6 ∧ 3 ≤ m.op ∧ m.op ≤ 6 ∧ m.d = l.d ∧ m.a = l.a ∧ m.b = l.b)
instance (l m : Ln) : Decidable (tmpP l m) := by unfold tmpP; exact inferInstance
end Go.Proofs.YtfbfkkaepgcggaaGreat

namespace Go.Proofs.YtfbfkkaepgcggaaGreat
open Go.RowKit

theorem ownsRow_free {w : World} {base : Nat} {e : TypeId} {size g cap n : Nat} {xs : List Value} (h : w.ownsRow base e size (.slice (some ⟨g, 0, none⟩) n cap) n xs) (i : Nat) : w.frozen? ⟨g, i, none⟩ = false := by
  rcases h.2 with ⟨h2, _⟩ | ⟨g', cap', cur, hv, hg, hh, _⟩
  · cases h2
  · cases hv; simp [World.frozen?, hh]

/-- The four stores of a line. -/
def storeL (w : World) (g i : Nat) (l : Ln) : World := (((w.setCell ⟨g, i, none⟩ (.int .i64 l.op)).setCell ⟨g, i + 1, none⟩ (.int .i64 l.d)).setCell ⟨g, i + 2, none⟩ (.int .i64 l.a)).setCell ⟨g, i + 3, none⟩ (.int .i64 l.b)
theorem below_storeL {a w : World} {B g i : Nat} (l : Ln) (h : Below B a w) (hg : B ≤ g) : Below B a (storeL w g i l) :=
  Below.setCell (Below.setCell (Below.setCell (Below.setCell h hg _) hg _) hg _) hg _
theorem size_storeL (w : World) (g i : Nat) (l : Ln) : (storeL w g i l).heap.size = w.heap.size := by simp [storeL, World.size_setCell]
theorem heap_storeL (w : World) (g i k : Nat) (l : Ln) (h : k ≠ g) : (storeL w g i l).heap[k]? = w.heap[k]? := by
  unfold storeL
  rw [Below.heap_setCell _ _ _ _ (by simpa using h), Below.heap_setCell _ _ _ _ (by simpa using h), Below.heap_setCell _ _ _ _ (by simpa using h), Below.heap_setCell _ _ _ _ (by simpa using h)]
end Go.Proofs.YtfbfkkaepgcggaaGreat

namespace Go.Proofs.YtfbfkkaepgcggaaGreat

/-- The sum of the first ones. -/
def sumN (f : Nat → Nat) : Nat → Nat
  | 0 => 0
  | k + 1 => sumN f k + f k
theorem sumN_le {f g : Nat → Nat} : ∀ {K : Nat}, (∀ t < K, f t ≤ g t) → sumN f K ≤ sumN g K
  | 0, _ => Nat.le_refl _
  | K + 1, h => Nat.add_le_add (sumN_le fun t ht => h t (by omega)) (h K (by omega))
theorem sumN_mul (f : Nat → Nat) (c : Nat) : ∀ K, sumN (fun t => c * f t) K = c * sumN f K
  | 0 => rfl
  | K + 1 => by
    show sumN (fun t => c * f t) K + c * f K = c * (sumN f K + f K)
    rw [sumN_mul f c K, Nat.mul_add]
theorem sumN_step {f g : Nat → Nat} {m : Nat} : ∀ {K c : Nat}, c ≤ K → (∀ t < K, f t ≤ g t) → (∀ t < c, f t + m ≤ g t) → sumN f K + m * c ≤ sumN g K
  | 0, c, hc, _, _ => by
    obtain rfl : c = 0 := by omega
    simp [sumN]
  | K + 1, c, hc, h1, h2 => by
    by_cases h : c ≤ K
    · have ih := sumN_step h (fun t ht => h1 t (by omega)) h2
      have := h1 K (by omega)
      show sumN f K + f K + m * c ≤ sumN g K + g K
      omega
    · obtain rfl : c = K + 1 := by omega
      have ih := sumN_step (c := K) (Nat.le_refl K) (fun t ht => h1 t (by omega)) (fun t ht => h2 t (by omega))
      have := h2 K (by omega)
      show sumN f K + f K + m * (K + 1) ≤ sumN g K + g K
      rw [Nat.mul_succ]
      omega
/-- What is not met yet ahead of each step of the greedy order: n; what each step meets: m; what is not met behind each step of another order: U. -/
theorem greedy4 {n m U : Nat → Nat} {k K : Nat} (h0 : ∀ i < k, n (i + 1) + m i = n i) (hm : ∀ i < k, 0 < n i → 0 < m i) (hU : ∀ i < k, 0 < n i → ∀ t, 2 * m i * t ≤ n i → t < K ∧ n i ≤ 2 * U t) : sumN n k ≤ 4 * sumN U K := by
  have hs : ∀ j, j ≤ k → sumN n j + 2 * sumN (fun t => min (2 * U t) (n j)) K ≤ 2 * sumN (fun t => min (2 * U t) (n 0)) K := by
    intro j
    induction j with
    | zero => intro _; simp [sumN]
    | succ j ih =>
      intro hj
      have ihj := ih (by omega)
      have hn := h0 j (by omega)
      have hstep : n j + 2 * sumN (fun t => min (2 * U t) (n (j + 1))) K ≤ 2 * sumN (fun t => min (2 * U t) (n j)) K := by
        by_cases hz : n j = 0
        · have := sumN_le (K := K) (f := fun t => min (2 * U t) (n (j + 1))) (g := fun t => min (2 * U t) (n j)) (fun t _ => by show min _ _ ≤ min _ _; omega)
          omega
        · have hmp := hm j (by omega) (by omega)
          have hu := hU j (by omega) (by omega)
          have hd : 0 < 2 * m j := by omega
          have hq := Nat.div_add_mod (n j) (2 * m j)
          have hr := Nat.mod_lt (n j) hd
          obtain ⟨q, hqe⟩ : ∃ q, n j / (2 * m j) = q := ⟨_, rfl⟩
          rw [hqe] at hq
          have hle : ∀ t, t ≤ q → 2 * m j * t ≤ n j := fun t ht => by
            have := Nat.mul_le_mul_left (2 * m j) ht
            omega
          have hqK := (hu q (hle q (Nat.le_refl q))).1
          have := sumN_step (f := fun t => min (2 * U t) (n (j + 1))) (g := fun t => min (2 * U t) (n j)) (m := m j) (K := K) (c := q + 1) (by omega) (fun t _ => by show min _ _ ≤ min _ _; omega) (fun t ht => by
            have h2 := (hu t (hle t (by omega))).2
            show min _ _ + m j ≤ min _ _
            omega)
          have h3 : 2 * (m j * (q + 1)) = 2 * m j * q + 2 * m j := by rw [Nat.mul_succ, Nat.mul_add, Nat.mul_assoc]
          omega
      show sumN n j + n j + 2 * sumN (fun t => min (2 * U t) (n (j + 1))) K ≤ _
      omega
  have h1 := hs k (Nat.le_refl k)
  have h2 := sumN_le (K := K) (f := fun t => min (2 * U t) (n 0)) (g := fun t => 2 * U t) (fun t _ => by show min _ _ ≤ _; omega)
  rw [sumN_mul] at h2
  omega
end Go.Proofs.YtfbfkkaepgcggaaGreat

namespace Go.Proofs.YtfbfkkaepgcggaaGreat

/-- The goals that some row of a list meets. -/
def metH (hit : Nat → Nat → Bool) (G : Nat) (set : List Nat) : List Nat := (List.range G).filter fun g => set.any fun r => hit r g
def cntF (p : Nat → Bool) (l : List Nat) : Nat := (l.filter p).length
theorem cntF_le {p q : Nat → Bool} (h : ∀ g, p g = true → q g = true) : ∀ l : List Nat, cntF p l ≤ cntF q l
  | [] => Nat.le_refl _
  | g :: l => by
    have ih := cntF_le h l
    unfold cntF at ih ⊢
    rw [List.filter_cons, List.filter_cons]
    cases hp : p g with
    | false =>
      cases hq : q g with
      | false => simpa using ih
      | true => simp; omega
    | true => rw [h g hp]; simpa using ih
theorem cntF_or (p q : Nat → Bool) : ∀ l : List Nat, cntF (fun g => p g || q g) l ≤ cntF p l + cntF q l
  | [] => Nat.le_refl _
  | g :: l => by
    have ih := cntF_or p q l
    unfold cntF at ih ⊢
    rw [List.filter_cons, List.filter_cons, List.filter_cons]
    cases hp : p g <;> cases hq : q g <;> simp <;> omega
/-- What is in one and not in the other. -/
theorem cntF_split (p q : Nat → Bool) : ∀ l : List Nat, cntF (fun g => p g || q g) l = cntF p l + cntF (fun g => q g && !p g) l
  | [] => rfl
  | g :: l => by
    have ih := cntF_split p q l
    unfold cntF at ih ⊢
    rw [List.filter_cons, List.filter_cons, List.filter_cons]
    cases hp : p g <;> cases hq : q g <;> simp <;> omega
/-- Goals of which no row meets two: a list of rows meets at most as many as it has rows. -/
theorem excl_le {hit : Nat → Nat → Bool} {apart : List Nat} : ∀ {set : List Nat}, (∀ r ∈ set, cntF (hit r) apart ≤ 1) → cntF (fun g => set.any fun r => hit r g) apart ≤ set.length
  | [], _ => by simp [cntF]
  | r :: s, h => by
    have ih := excl_le (set := s) fun x hx => h x (List.mem_cons_of_mem _ hx)
    have h1 := h r (List.mem_cons_self ..)
    have h2 := cntF_or (hit r) (fun g => s.any fun x => hit x g) apart
    simp only [List.any_cons, List.length_cons]
    omega
/-- Rows that are added one by one: what they meet anew is at most so many times the most that one of them meets anew. -/
theorem gain_le {hit : Nat → Nat → Bool} {l : List Nat} {p : Nat → Bool} {m : Nat} : ∀ {set : List Nat}, (∀ r ∈ set, cntF (fun g => hit r g && !p g) l ≤ m) → cntF (fun g => (set.any fun r => hit r g) && !p g) l ≤ m * set.length
  | [], _ => by simp [cntF]
  | r :: s, h => by
    have ih := gain_le (set := s) (p := p) fun x hx => h x (List.mem_cons_of_mem _ hx)
    have h1 := h r (List.mem_cons_self ..)
    have h2 := cntF_or (fun g => hit r g && !p g) (fun g => (s.any fun x => hit x g) && !p g) l
    have h3 : cntF (fun g => ((r :: s).any fun x => hit x g) && !p g) l ≤ cntF (fun g => (hit r g && !p g) || ((s.any fun x => hit x g) && !p g)) l := cntF_le (fun g hg => by
      simp only [List.any_cons] at hg
      cases ha : hit r g <;> cases hb : (s.any fun x => hit x g) <;> cases hc : p g <;> simp_all) l
    rw [List.length_cons, Nat.mul_succ]
    omega
/-- What of the goals is not met by the first t rows of an order. -/
def unmet (hit : Nat → Nat → Bool) (l : List Nat) (o : List Nat) (t : Nat) : Nat := cntF (fun g => !((o.take t).any fun r => hit r g)) l
/-- The wait of an order is the sum of what is not met ahead of each place. -/
theorem wait_one {hit : Nat → Bool} : ∀ {o : List Nat} {i : Nat}, o.findIdx hit = i → i < o.length → sumN (fun t => if (o.take t).any hit then 0 else 1) o.length = i + 1 := by
  intro o i hi hl
  have key : ∀ K, K ≤ o.length → sumN (fun t => if (o.take t).any hit then 0 else 1) K = min K (i + 1) := by
    intro K
    induction K with
    | zero => intro _; simp [sumN]
    | succ K ih =>
      intro hK
      have h1 := ih (by omega)
      show sumN _ K + _ = _
      rw [h1]
      by_cases h : i < K
      · have ha : (o.take K).any hit = true := by
          rw [List.any_eq_true]
          refine ⟨o[i], ?_, ?_⟩
          · rw [List.mem_take_iff_getElem]
            exact ⟨i, by omega, rfl⟩
          · have := List.findIdx_getElem (w := by rw [hi]; exact hl) (xs := o) (p := hit)
            simp only [hi] at this
            exact this
        dsimp only
        rw [ha]
        simp
        omega
      · have ha : (o.take K).any hit = false := by
          rw [List.any_eq_false]
          intro x hx
          obtain ⟨j, hj, rfl⟩ := List.mem_take_iff_getElem.1 hx
          have := List.not_of_lt_findIdx (xs := o) (p := hit) (i := j) (by rw [hi]; omega)
          simpa using this
        dsimp only
        rw [ha]
        simp
        omega
  rw [key o.length (Nat.le_refl _)]
  omega
theorem sumN_add (f g : Nat → Nat) : ∀ K, sumN (fun t => f t + g t) K = sumN f K + sumN g K
  | 0 => rfl
  | K + 1 => by
    show sumN (fun t => f t + g t) K + (f K + g K) = (sumN f K + f K) + (sumN g K + g K)
    rw [sumN_add f g K]; omega
theorem sumN_zero : ∀ K, sumN (fun _ => 0) K = 0
  | 0 => rfl
  | K + 1 => by show sumN _ K + 0 = 0; rw [sumN_zero K]
theorem wait_sum {hit : Nat → Nat → Bool} {o : List Nat} : ∀ {l : List Nat}, (∀ g ∈ l, o.findIdx (fun r => hit r g) < o.length) → (l.map fun g => o.findIdx (fun r => hit r g) + 1).sum = sumN (unmet hit l o) o.length
  | [], _ => by
    show 0 = sumN (fun t => cntF _ []) o.length
    simp only [cntF, List.filter_nil, List.length_nil]
    exact (sumN_zero _).symm
  | g :: l, h => by
    have ih := wait_sum (l := l) fun x hx => h x (List.mem_cons_of_mem _ hx)
    have h1 := wait_one (hit := fun r => hit r g) (o := o) rfl (h g (List.mem_cons_self ..))
    rw [List.map_cons, List.sum_cons, ih, ← h1, ← sumN_add]
    congr 1
    funext t
    unfold unmet cntF
    rw [List.filter_cons]
    cases (o.take t).any fun r => hit r g <;> simp <;> omega
theorem unmet_step (hit : Nat → Nat → Bool) (A : List Nat) (x : Nat) : ∀ l : List Nat, cntF (fun g => !((A ++ [x]).any fun r => hit r g)) l + cntF (fun g => hit x g && !(A.any fun r => hit r g)) l = cntF (fun g => !(A.any fun r => hit r g)) l
  | [] => rfl
  | g :: l => by
    have ih := unmet_step hit A x l
    unfold cntF at ih ⊢
    simp only [List.any_append, List.any_cons, List.any_nil, Bool.or_false, Bool.not_or] at ih ⊢
    rw [List.filter_cons, List.filter_cons, List.filter_cons]
    cases (A.any fun r => hit r g) <;> cases hit x g <;> simp <;> omega
/-- **The greedy order waits at most four times as long as any order that meets all.** gr: the greedy order, each of whose rows meets the most new goals; o: another order. -/
theorem greedy_wait {hit : Nat → Nat → Bool} {l gr o : List Nat} (hall : ∀ g ∈ l, (o.any fun r => hit r g) = true)
    (hg : ∀ i, (h : i < gr.length) → ∀ r ∈ o, cntF (fun g => hit r g && !((gr.take i).any fun x => hit x g)) l ≤ cntF (fun g => hit gr[i] g && !((gr.take i).any fun x => hit x g)) l) :
    sumN (unmet hit l gr) gr.length ≤ 4 * sumN (unmet hit l o) o.length := by
  have hstep : ∀ i, (h : i < gr.length) → unmet hit l gr (i + 1) + cntF (fun g => hit gr[i] g && !((gr.take i).any fun x => hit x g)) l = unmet hit l gr i := by
    intro i h
    have e : gr.take (i + 1) = gr.take i ++ [gr[i]] := by rw [List.take_add_one, List.getElem?_eq_getElem h]; rfl
    unfold unmet
    rw [e]
    exact unmet_step hit _ _ l
  refine greedy4 (n := unmet hit l gr) (m := fun i => if h : i < gr.length then cntF (fun g => hit gr[i] g && !((gr.take i).any fun x => hit x g)) l else 0) (U := unmet hit l o) (k := gr.length) (K := o.length) ?_ ?_ ?_
  · intro i h
    simp only [dif_pos h]
    exact hstep i h
  · intro i h hn
    simp only [dif_pos h]
    -- some goal is not met yet; the row of the other order that meets it meets it anew
    unfold unmet cntF at hn
    obtain ⟨g, hgm⟩ := List.exists_mem_of_length_pos hn
    rw [List.mem_filter] at hgm
    obtain ⟨r, hr, hrg⟩ := List.any_eq_true.1 (hall g hgm.1)
    have h1 := hg i h r hr
    have h2 : 0 < cntF (fun g => hit r g && !((gr.take i).any fun x => hit x g)) l := by
      unfold cntF
      refine List.length_pos_of_mem (a := g) (List.mem_filter.2 ⟨hgm.1, ?_⟩)
      rw [hrg]; simpa using hgm.2
    omega
  · intro i h hn t ht
    simp only [dif_pos h] at ht
    obtain ⟨m, hm⟩ : ∃ m, cntF (fun g => hit gr[i] g && !((gr.take i).any fun x => hit x g)) l = m := ⟨_, rfl⟩
    rw [hm] at ht
    have hgain := gain_le (hit := hit) (l := l) (p := fun g => (gr.take i).any fun x => hit x g) (m := m) (set := o.take t) (fun r hr => by rw [← hm]; exact hg i h r (List.mem_of_mem_take hr))
    have hlen : (o.take t).length ≤ t := by rw [List.length_take]; omega
    have hmt : m * (o.take t).length ≤ m * t := Nat.mul_le_mul_left m hlen
    -- what is not met ahead of step i is not met by the other order either, or is met anew by it
    have hsplit : unmet hit l gr i ≤ unmet hit l o t + cntF (fun g => ((o.take t).any fun r => hit r g) && !((gr.take i).any fun x => hit x g)) l := by
      unfold unmet
      refine Nat.le_trans (cntF_le (fun g hg => ?_) l) (cntF_or _ _ l)
      cases ha : ((o.take t).any fun r => hit r g) <;> simp_all
    have h2m : 2 * m * t = m * t + m * t := by rw [Nat.mul_assoc, Nat.two_mul]
    refine ⟨?_, by omega⟩
    by_cases htl : t < o.length
    · exact htl
    · have h0 : unmet hit l o t = 0 := by
        unfold unmet cntF
        rw [List.length_eq_zero_iff, List.filter_eq_nil_iff]
        intro g hgm
        rw [List.take_of_length_le (by omega), hall g hgm]
        simp
      omega
end Go.Proofs.YtfbfkkaepgcggaaGreat
