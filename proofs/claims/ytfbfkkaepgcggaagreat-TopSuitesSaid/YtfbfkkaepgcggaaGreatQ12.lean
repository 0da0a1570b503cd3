/-
A row of lines that the call has made and that is written in place: its cells, and how the shelf's sort says it. No program is named.
The plain functions behind Compact and DeleteFunc on lines. No program is named.
The plain functions behind SeekAlls: all lines. No program is named.
The document's near, as it is written, is what the templates are. No program is named.
The plain functions behind Candidates. No program is named.
A row of edits that the call has made and that is written in place: its cells, and how the shelf's sort says it. No program is named.
-/
import Derived.Test.YtfbfkkaepgcggaaGreatQ01
import Derived.Shelf.GgSortFunc.RowK
import Derived.Laws.IdiomCopy
import Derived.Test.YtfbfkkaepgcggaaGreatQ03
namespace Go.Proofs.YtfbfkkaepgcggaaGreat
open Go.RowKit
open Go.Sort (HoldsK Holds flatK get_flatK size_flatK blk_iff)

/-- The block g holds the lines xs from the place o on, and they can be written. -/
def RowL (w : World) (g o : Nat) (xs : List Ln) : Prop := ∀ (j : Nat) (l : Ln), xs[j]? = some l → ∀ (i : Nat) (u : Value), (encL l)[i]? = some u → w.cell? ⟨g, o + j * 4 + i, none⟩ = some u ∧ w.frozen? ⟨g, o + j * 4 + i, none⟩ = false
theorem RowL.at {w : World} {g o : Nat} {xs : List Ln} (h : RowL w g o xs) {k : Nat} {op d a b : Int} (hk : xs[k]? = some ⟨op, d, a, b⟩) :
    (w.cell? ⟨g, o + k * 4, none⟩ = some (.int .i64 op) ∧ w.cell? ⟨g, o + k * 4 + 1, none⟩ = some (.int .i64 d) ∧ w.cell? ⟨g, o + k * 4 + 2, none⟩ = some (.int .i64 a) ∧ w.cell? ⟨g, o + k * 4 + 3, none⟩ = some (.int .i64 b)) ∧
    (w.frozen? ⟨g, o + k * 4, none⟩ = false ∧ w.frozen? ⟨g, o + k * 4 + 1, none⟩ = false ∧ w.frozen? ⟨g, o + k * 4 + 2, none⟩ = false ∧ w.frozen? ⟨g, o + k * 4 + 3, none⟩ = false) :=
  ⟨⟨(h k _ hk 0 _ rfl).1, (h k _ hk 1 _ rfl).1, (h k _ hk 2 _ rfl).1, (h k _ hk 3 _ rfl).1⟩, (h k _ hk 0 _ rfl).2, (h k _ hk 1 _ rfl).2, (h k _ hk 2 _ rfl).2, (h k _ hk 3 _ rfl).2⟩
theorem RowL.grow {w w' : World} {g o : Nat} {xs : List Ln} (h : RowL w g o xs) (hg : Grow w w') (hb : g < w.heap.size) : RowL w' g o xs := by
  intro j l hj i u hu
  obtain ⟨h1, h2⟩ := h j l hj i u hu
  exact ⟨hg.cell h1, (hg.cellsB.2 g _ hb).trans h2⟩
theorem RowL.take {w : World} {g o : Nat} {xs : List Ln} (h : RowL w g o xs) (n : Nat) : RowL w g o (xs.take n) := by
  intro j l hj i u hu
  rw [List.getElem?_take] at hj
  split at hj
  · exact h j l hj i u hu
  · cases hj
theorem RowL.pre {w : World} {g o : Nat} {xs ys : List Ln} (h : RowL w g o xs) (e : ys = xs.take ys.length) : RowL w g o ys := by rw [e]; exact h.take _
theorem RowL.of_own {w : World} {base e g n cap : Nat} {xs : List Ln} (h : w.ownsRow base e 4 (.slice (some ⟨g, 0, none⟩) n cap) xs.length (xs.flatMap encL)) : RowL w g 0 xs := by
  have hn : n = xs.length := by
    rcases h.2 with ⟨h2, _⟩ | ⟨g', cap', cur, hv, _⟩
    · cases h2
    · cases hv; rfl
  subst hn
  have hs := slc_of_owns encL_len h
  intro j l hj i u hu
  obtain ⟨_, _, e1, _, _, h4⟩ := hs
  cases e1
  rcases h4 with ⟨h4, _⟩ | ⟨b, o, e2, _, hc⟩
  · rw [h4] at hj; simp at hj
  · cases e2
    refine ⟨hc j l hj i u hu, ownsRow_free h _⟩
theorem RowL.slc {w : World} {g o c : Nat} {xs : List Ln} (h : RowL w g o xs) (hb : g < w.heap.size) (hc : xs.length ≤ c) (hm : c ≤ 9223372036854775807) : LinesAt w (.slice (some ⟨g, o, none⟩) xs.length c) xs :=
  ⟨_, c, rfl, hc, hm, .inr ⟨g, o, rfl, hb, fun j x hx i u hu => (h j x hx i u hu).1⟩⟩
theorem encL_get! (l : Ln) (i : Nat) (hi : i < 4) : (encL l)[i]? = some (encL l)[i]! := by
  have : i = 0 ∨ i = 1 ∨ i = 2 ∨ i = 3 := by omega
  rcases this with rfl | rfl | rfl | rfl <;> rfl
theorem RowL.holds {w : World} {g o : Nat} {xs : List Ln} (h : RowL w g o xs) : HoldsK encL 4 w g o xs.toArray := by
  intro t ht
  rw [size_flatK] at ht
  have ht' : t < xs.length * 4 := by simpa using ht
  rw [get_flatK _ _ _ _ ht]
  have hq : t / 4 < xs.length := by omega
  have hj : xs[t / 4]? = some xs[t / 4] := List.getElem?_eq_getElem hq
  have e : xs.toArray[t / 4]! = xs[t / 4] := by rw [getElem!_pos _ _ (by simpa using hq)]; simp
  have := h (t / 4) _ hj (t % 4) _ (encL_get! _ _ (Nat.mod_lt _ (by omega)))
  rw [show o + t / 4 * 4 + t % 4 = o + t by omega] at this
  rw [e]
  exact this
theorem RowL.of_holds {w : World} {g o : Nat} {xs : List Ln} (h : HoldsK encL 4 w g o xs.toArray) : RowL w g o xs := by
  intro j l hj i u hu
  have hjl : j < xs.length := (List.getElem?_eq_some_iff.1 hj).1
  have hi : i < 4 := by have := (List.getElem?_eq_some_iff.1 hu).1; rw [encL_len] at this; exact this
  have := h.cell (i := j) (c := i) (by simpa using hjl) hi
  have e : xs.toArray[j]! = l := by
    rw [getElem!_pos _ _ (by simpa using hjl)]
    rw [List.getElem?_eq_getElem hjl] at hj
    simpa using Option.some.inj hj
  rw [e] at this
  rw [encL_get! l i hi] at hu
  rw [← Option.some.inj hu]
  exact this
theorem cell_storeL_same {w : World} {g p : Nat} (l : Ln) {i : Nat} {u : Value} (hu : (encL l)[i]? = some u) (h : ∀ c, c < 4 → (w.cell? ⟨g, p + c, none⟩).isSome = true) : (storeL w g p l).cell? ⟨g, p + i, none⟩ = some u := by
  have e : storeL w g p l = w.setCells g p (encL l) := rfl
  have hi : i < 4 := by have := (List.getElem?_eq_some_iff.1 hu).1; rw [encL_len] at this; exact this
  rw [e]
  have := World.cell?_setCells_in g (encL l) p w (fun j hj => h j (by simpa [encL_len] using hj)) i (by rw [encL_len]; exact hi)
  rw [this]
  rw [List.getElem?_eq_getElem (by rw [encL_len]; exact hi)] at hu
  exact hu
theorem cell_storeL_other {w : World} {g p q : Nat} (l : Ln) (h : q < p ∨ p + 4 ≤ q) : (storeL w g p l).cell? ⟨g, q, none⟩ = w.cell? ⟨g, q, none⟩ := by
  have e : storeL w g p l = w.setCells g p (encL l) := rfl
  rw [e]
  exact World.cell?_setCells_out g (encL l) p w ⟨g, q, none⟩ (fun _ _ => by rw [encL_len]; exact h)
theorem frozen_storeL {w : World} {g p : Nat} (l : Ln) (a : Addr) : (storeL w g p l).frozen? a = w.frozen? a := by
  have e : storeL w g p l = w.setCells g p (encL l) := rfl
  rw [e]; exact World.frozen?_setCells g (encL l) p w a
theorem RowL.set {w : World} {g o : Nat} {xs : List Ln} (h : RowL w g o xs) {k : Nat} (hk : k < xs.length) (l : Ln) : RowL (storeL w g (o + k * 4) l) g o (xs.set k l) := by
  intro j m hj i u hu
  rw [frozen_storeL]
  have hi : i < 4 := by have := (List.getElem?_eq_some_iff.1 hu).1; rw [encL_len] at this; exact this
  by_cases e : j = k
  · subst e
    rw [List.getElem?_set_self hk] at hj
    cases hj
    have h0 := h j xs[j] (List.getElem?_eq_getElem hk)
    refine ⟨cell_storeL_same l hu fun c hc => ?_, (h0 i _ (encL_get! _ i hi)).2⟩
    rw [(h0 c _ (encL_get! _ c hc)).1]; rfl
  · rw [List.getElem?_set_ne (fun e2 => e e2.symm)] at hj
    have h0 := h j m hj i u hu
    refine ⟨?_, h0.2⟩
    rw [cell_storeL_other l (by omega)]
    exact h0.1
end Go.Proofs.YtfbfkkaepgcggaaGreat

namespace Go.Proofs.YtfbfkkaepgcggaaGreat
open Go.RowKit

/-- Each line that differs from the one ahead of it. -/
def dd (x : Ln) : List Ln → List Ln
  | [] => []
  | y :: r => if y = x then dd x r else y :: dd y r
def compL : List Ln → List Ln
  | [] => []
  | x :: r => x :: dd x r
theorem dd_snoc : ∀ (r : List Ln) (x y : Ln), dd x (r ++ [y]) = dd x r ++ (if y = (x :: r).getLast (by simp) then [] else [y])
  | [], x, y => by by_cases h : y = x <;> simp [dd, h]
  | z :: r, x, y => by
    have e : (x :: z :: r).getLast (by simp) = (z :: r).getLast (by simp) := List.getLast_cons (by simp)
    rw [e]
    by_cases h : z = x
    · subst h
      rw [List.cons_append, dd, if_pos rfl, dd, if_pos rfl, dd_snoc r z y]
    · rw [List.cons_append, dd, if_neg h, dd, if_neg h, dd_snoc r z y, List.cons_append]
theorem compL_snoc {xs : List Ln} {x y : Ln} {k : Nat} (hx : xs[k]? = some x) (hy : xs[k + 1]? = some y) : compL (xs.take (k + 2)) = compL (xs.take (k + 1)) ++ (if y = x then [] else [y]) := by
  have hk := (List.getElem?_eq_some_iff.1 hy).1
  rw [show xs.take (k + 2) = xs.take (k + 1) ++ [y] by rw [List.take_add_one (i := k + 1), hy]; rfl]
  match h : xs.take (k + 1) with
  | [] => have := congrArg List.length h; rw [List.length_take, List.length_nil] at this; omega
  | z :: r =>
    have e : (z :: r).getLast (by simp) = x := by
      rw [List.getLast_eq_getElem]
      have hl : (z :: r).length = k + 1 := by rw [← h]; simp; omega
      have : (z :: r)[k]? = some x := by rw [← h, List.getElem?_take, if_pos (by omega)]; exact hx
      obtain ⟨h1, h2⟩ := List.getElem?_eq_some_iff.1 this
      have e2 : (z :: r).length - 1 = k := by omega
      simp only [e2, h2]
    rw [List.cons_append, compL, compL, dd_snoc, e, List.cons_append]
theorem mem_dd (z : Ln) : ∀ (r : List Ln) (x : Ln), z ∈ x :: dd x r ↔ z ∈ x :: r
  | [], x => by simp [dd]
  | y :: r, x => by
    by_cases h : y = x
    · subst h
      rw [dd, if_pos rfl, mem_dd z r y]; simp
    · rw [dd, if_neg h]
      have ih := mem_dd z r y
      simp only [List.mem_cons] at ih ⊢
      constructor
      · rintro (h1 | h1)
        · exact .inl h1
        · exact .inr (ih.1 h1)
      · rintro (h1 | h1)
        · exact .inl h1
        · exact .inr (ih.2 h1)
theorem mem_compL {z : Ln} {xs : List Ln} : z ∈ compL xs ↔ z ∈ xs := by
  cases xs with
  | nil => simp [compL]
  | cons x r => exact mem_dd z r x
/-- No later line comes before an earlier one. -/
def WeakL (xs : List Ln) : Prop := xs.Pairwise fun x y => ¬ ltP y x
theorem dd_asc : ∀ (r : List Ln) (x : Ln), WeakL (x :: r) → (x :: dd x r).Pairwise ltP
  | [], x, _ => by simp [dd]
  | y :: r, x, h => by
    obtain ⟨h1, h2⟩ := List.pairwise_cons.1 h
    by_cases e : y = x
    · subst e
      rw [dd, if_pos rfl]
      exact dd_asc r y h2
    · rw [dd, if_neg e]
      have ih := dd_asc r y h2
      refine List.pairwise_cons.2 ⟨fun z hz => ?_, ih⟩
      have hxy : ltP x y := by
        rcases ltP_total x y with h | h | h
        · exact h
        · exact absurd h.symm e
        · exact absurd h (h1 y (by simp))
      rcases List.mem_cons.1 hz with rfl | hz
      · exact hxy
      · exact ltP_trans hxy ((List.pairwise_cons.1 ih).1 z hz)
theorem compL_ord {xs : List Ln} (h : WeakL xs) : compL xs = ordL xs := by
  refine IsOrd.eq ⟨?_, fun x => mem_compL⟩
  cases xs with
  | nil => exact List.Pairwise.nil
  | cons x r => exact dd_asc r x h
theorem ordL_congr {xs ys : List Ln} (h : ∀ x, x ∈ ys ↔ x ∈ xs) : ordL ys = ordL xs := ord_ext _ _ (ordL_is ys).1 (ordL_is xs).1 fun x => by rw [mem_ordL, mem_ordL, h]
/-- Nothing comes twice among the first k: they stay. -/
theorem compL_take_same {xs : List Ln} : ∀ k, k ≤ xs.length → (∀ j x y, j + 1 < k → xs[j]? = some x → xs[j + 1]? = some y → y ≠ x) → compL (xs.take k) = xs.take k
  | 0, _, _ => by simp [compL]
  | 1, hk, _ => by
    cases xs with
    | nil => simp at hk
    | cons x r => simp [compL, dd]
  | k + 2, hk, h => by
    obtain ⟨x, hx⟩ : ∃ x, xs[k]? = some x := ⟨_, List.getElem?_eq_getElem (by omega)⟩
    obtain ⟨y, hy⟩ : ∃ y, xs[k + 1]? = some y := ⟨_, List.getElem?_eq_getElem (by omega)⟩
    rw [compL_snoc hx hy, if_neg (h k x y (by omega) hx hy), compL_take_same (k + 1) (by omega) (fun j x y hj => h j x y (by omega)), List.take_add_one (i := k + 1), hy]
    rfl

/-- What is left by DeleteFunc. -/
def keepL (pr : Ln → Bool) (xs : List Ln) : List Ln := xs.filter fun x => !pr x
theorem keepL_snoc {pr : Ln → Bool} {xs : List Ln} {k : Nat} {x : Ln} (hx : xs[k]? = some x) : keepL pr (xs.take (k + 1)) = keepL pr (xs.take k) ++ (if pr x then [] else [x]) := by
  rw [List.take_add_one, hx]
  unfold keepL
  rw [List.filter_append]
  cases h : pr x <;> simp [h]
theorem keepL_len (pr : Ln → Bool) (xs : List Ln) : (keepL pr xs).length ≤ xs.length := List.length_filter_le _ _
end Go.Proofs.YtfbfkkaepgcggaaGreat

namespace Go.Proofs.YtfbfkkaepgcggaaGreat
open Go.RowKit

def okOf (l : Ln) : List Ln := if l.ok then [l] else []
def allB (op d a : Int) (n : Nat) : List Ln := (List.range n).flatMap fun b : Nat => okOf ⟨op, d, a, (b : Int)⟩
def allA (op d : Int) (n : Nat) : List Ln := (List.range n).flatMap fun a : Nat => allB op d ((a : Int) - 9) 4
def allD (op : Int) (n : Nat) : List Ln := (List.range n).flatMap fun d : Nat => allA op (d : Int) 19
def allO (n : Nat) : List Ln := (List.range n).flatMap fun o : Nat => allD (o : Int) 9
theorem mem_okOf {x l : Ln} : x ∈ okOf l ↔ x = l ∧ l.ok = true := by
  unfold okOf
  split
  · next h => simp [h]
  · next h => simp [h]
theorem mem_allO {x : Ln} : x ∈ allO 8 ↔ x.ok = true := by
  constructor
  · intro h
    obtain ⟨o, _, h⟩ := List.mem_flatMap.1 h
    obtain ⟨d, _, h⟩ := List.mem_flatMap.1 h
    obtain ⟨a, _, h⟩ := List.mem_flatMap.1 h
    obtain ⟨b, _, h⟩ := List.mem_flatMap.1 h
    have h2 := mem_okOf.1 h
    rw [h2.1]
    exact h2.2
  · intro h
    have c := ok_cases h
    have key : ∀ (o d a b : Nat), o < 8 → d < 9 → a < 19 → b < 4 → x.op = o → x.d = d → x.a = (a : Int) - 9 → x.b = b → x ∈ allO 8 := by
      intro o d a b ho hd ha hb e0 e1 e2 e3
      refine List.mem_flatMap.2 ⟨o, List.mem_range.2 ho, List.mem_flatMap.2 ⟨d, List.mem_range.2 hd, List.mem_flatMap.2 ⟨a, List.mem_range.2 ha, List.mem_flatMap.2 ⟨b, List.mem_range.2 hb, mem_okOf.2 ⟨?_, ?_⟩⟩⟩⟩⟩
      · exact ln_eq e0 e1 e2 e3
      · rw [← show x = (⟨(o : Int), (d : Int), (a : Int) - 9, (b : Int)⟩ : Ln) from ln_eq e0 e1 e2 e3]; exact h
    exact key x.op.toNat x.d.toNat (x.a + 9).toNat x.b.toNat (by omega) (by omega) (by omega) (by omega) (by omega) (by omega) (by omega) (by omega)

/-! ### The document's way: field by field -/
def setA (t : Int) (n : Nat) : List Ln := (List.range n).map fun a : Nat => ⟨1, t, (a : Int) - 9, 0⟩
def setT (n : Nat) : List Ln := (List.range n).flatMap fun t : Nat => setA (t : Int) 19
def cpA (t : Int) (n : Nat) : List Ln := (List.range n).map fun a : Nat => ⟨2, t, (a : Int), 0⟩
def cpT (n : Nat) : List Ln := (List.range n).flatMap fun t : Nat => cpA (t : Int) 4
def opB (o t a : Int) (n : Nat) : List Ln := (List.range n).map fun b : Nat => ⟨o, t, a, (b : Int)⟩
def opA (o t : Int) (n : Nat) : List Ln := (List.range n).flatMap fun a : Nat => opB o t (a : Int) 4
def opT (o : Int) (lo n : Nat) : List Ln := (List.range n).flatMap fun t : Nat => opA o ((lo + t : Nat) : Int) 4
def opO (n : Nat) : List Ln := (List.range n).flatMap fun k : Nat => if k = 4 then opT 7 1 8 else opT ((3 + k : Nat) : Int) 0 4
def allR : List Ln := [⟨0, 0, 0, 0⟩] ++ setT 4 ++ cpT 4 ++ opO 5
set_option maxRecDepth 100000 in
theorem allR_eq : allR = allO 8 := by decide +kernel
set_option maxRecDepth 100000 in
theorem allR_asc : allR.Pairwise ltP := by decide +kernel
theorem mem_allR {x : Ln} : x ∈ allR ↔ x.ok = true := by rw [allR_eq]; exact mem_allO
/-- Any list of lines, each once in ascending order, is what of all lines is in it. -/
theorem ord_of_all {xs : List Ln} (h : ∀ x ∈ xs, x.ok = true) : ordL xs = allR.filter fun x => xs.contains x := by
  symm
  refine IsOrd.eq ⟨allR_asc.filter _, fun x => ?_⟩
  rw [List.mem_filter, mem_allR, List.contains_iff_mem]
  exact ⟨fun h => h.2, fun hx => ⟨h x hx, hx⟩⟩
end Go.Proofs.YtfbfkkaepgcggaaGreat

namespace Go.Proofs.YtfbfkkaepgcggaaGreat
open Go.RowKit

def fieldsN (l m : Ln) : Int := (if l.op = m.op then 0 else 1) + (if l.d = m.d then 0 else 1) + (if l.a = m.a then 0 else 1) + (if l.b = m.b then 0 else 1)
def rnearB (l m : Ln) : Bool :=
  if l = m then false else if l.op = 0 then false else if m.op = 0 then true
  else if m.op ≠ l.op then (if 3 ≤ l.op ∧ l.op ≤ 6 then (if 3 ≤ m.op ∧ m.op ≤ 6 then decide (fieldsN l m = 1) else false) else false)
  else if l.d = m.d ∧ 3 ≤ l.op ∧ l.a = m.b ∧ l.b = m.a then true
  else if fieldsN l m ≠ 1 then false
  else if l.op = 1 ∧ l.a ≠ m.a then decide (l.a - m.a = 1 ∨ m.a - l.a = 1)
  else if l.op = 7 ∧ l.d ≠ m.d then decide (l.d - m.d = 1 ∨ m.d - l.d = 1)
  else true
theorem fieldsN_cases (l m : Ln) : ∃ x0 x1 x2 x3 : Int, fieldsN l m = x0 + x1 + x2 + x3 ∧ ((l.op = m.op ∧ x0 = 0) ∨ (l.op ≠ m.op ∧ x0 = 1)) ∧ ((l.d = m.d ∧ x1 = 0) ∨ (l.d ≠ m.d ∧ x1 = 1)) ∧ ((l.a = m.a ∧ x2 = 0) ∨ (l.a ≠ m.a ∧ x2 = 1)) ∧ ((l.b = m.b ∧ x3 = 0) ∨ (l.b ≠ m.b ∧ x3 = 1)) := by
  refine ⟨_, _, _, _, rfl, ?_, ?_, ?_, ?_⟩ <;> (split <;> omega)
set_option maxHeartbeats 4000000 in
theorem rnear_eq {l m : Ln} (hl : l.ok = true) (hm : m.ok = true) : rnearB l m = nearB l m := by
  rw [near_eq hl hm, Bool.eq_iff_iff, decide_eq_true_eq]
  have cl := ok_cases hl
  have cm := ok_cases hm
  obtain ⟨x0, x1, x2, x3, hf, c0, c1, c2, c3⟩ := fieldsN_cases l m
  have z : m = ⟨0, 0, 0, 0⟩ ↔ m.op = 0 := ⟨fun e => by rw [e], fun e => ok_none hm e⟩
  have ne : m = l ↔ (m.op = l.op ∧ m.d = l.d ∧ m.a = l.a ∧ m.b = l.b) := ⟨fun e => by rw [e]; exact ⟨rfl, rfl, rfl, rfl⟩, fun e => ln_eq e.1 e.2.1 e.2.2.1 e.2.2.2⟩
  unfold rnearB tmpP
  have ne' : l = m ↔ (m.op = l.op ∧ m.d = l.d ∧ m.a = l.a ∧ m.b = l.b) := eq_comm.trans ne
  have neN : m ≠ l ↔ ¬ (m.op = l.op ∧ m.d = l.d ∧ m.a = l.a ∧ m.b = l.b) := not_congr ne
  simp only [hf, z, neN, ne']
  clear hf z ne ne' neN hl hm
  generalize l.op = lo at *
  generalize l.d = ld at *
  generalize l.a = la at *
  generalize l.b = lb at *
  generalize m.op = mo at *
  generalize m.d = md at *
  generalize m.a = ma at *
  generalize m.b = mb at *
  by_cases h1 : (mo = lo ∧ md = ld ∧ ma = la ∧ mb = lb)
  · rw [if_pos h1]; simp [h1]
  · rw [if_neg h1]
    by_cases h2 : lo = 0
    · rw [if_pos h2]; simp [h2]
    · rw [if_neg h2]
      by_cases h3 : mo = 0
      · rw [if_pos h3]; simp [h2, h3]; omega
      · rw [if_neg h3]
        by_cases h4 : mo ≠ lo
        · rw [if_pos h4]
          obtain rfl : x0 = 1 := by rcases c0 with ⟨c, _⟩ | ⟨_, c⟩; exact absurd c.symm h4; exact c
          clear cl cm c0 h1
          by_cases h5 : 3 ≤ lo ∧ lo ≤ 6
          · rw [if_pos h5]
            by_cases h6 : 3 ≤ mo ∧ mo ≤ 6
            · rw [if_pos h6, decide_eq_true_eq]
              rcases c1 with ⟨c1, rfl⟩ | ⟨c1, rfl⟩ <;> rcases c2 with ⟨c2, rfl⟩ | ⟨c2, rfl⟩ <;> rcases c3 with ⟨c3, rfl⟩ | ⟨c3, rfl⟩ <;> omega
            · rw [if_neg h6]; simp only [Bool.false_eq_true, false_iff]; omega
          · rw [if_neg h5]; simp only [Bool.false_eq_true, false_iff]; omega
        · rw [if_neg h4]
          have h4' : mo = lo := by omega
          clear h4
          obtain rfl : x0 = 0 := by rcases c0 with ⟨_, c⟩ | ⟨c, _⟩; exact c; exact absurd h4'.symm c
          clear c0
          have hb : (lo = 1 ∨ lo = 2 → lb = 0 ∧ mb = 0) ∧ 1 ≤ lo ∧ lo ≤ 7 := by
            rcases cl with h | h | h | h | h <;> rcases cm with k | k | k | k | k <;> omega
          clear cl cm
          obtain ⟨hb, lo1, lo7⟩ := hb
          by_cases h5 : ld = md ∧ 3 ≤ lo ∧ la = mb ∧ lb = ma
          · rw [if_pos h5]; simp only [true_iff]; clear c1 c2 c3 hb; omega
          · rw [if_neg h5]
            have hcase : (lo = 1 ∧ lb = 0 ∧ mb = 0) ∨ (lo = 2 ∧ lb = 0 ∧ mb = 0) ∨ (3 ≤ lo ∧ lo ≤ 6) ∨ lo = 7 := by
              have : lo = 1 ∨ lo = 2 ∨ (3 ≤ lo ∧ lo ≤ 6) ∨ lo = 7 := by omega
              rcases this with e | e | e | e
              · exact .inl ⟨e, hb (.inl e)⟩
              · exact .inr (.inl ⟨e, hb (.inr e)⟩)
              · exact .inr (.inr (.inl e))
              · exact .inr (.inr (.inr e))
            clear hb lo1 lo7
            rcases c1 with ⟨c1, rfl⟩ | ⟨c1, rfl⟩ <;> rcases c2 with ⟨c2, rfl⟩ | ⟨c2, rfl⟩ <;> rcases c3 with ⟨c3, rfl⟩ | ⟨c3, rfl⟩ <;>
              rcases hcase with hc | hc | hc | hc <;>
              (first
                | (exfalso; omega)
                | (rw [if_pos (by omega)]; simp only [Bool.false_eq_true, false_iff]; omega)
                | (rw [if_neg (by omega), if_pos (by omega), decide_eq_true_eq]; omega)
                | (rw [if_neg (by omega), if_neg (by omega), if_pos (by omega), decide_eq_true_eq]; omega)
                | (rw [if_neg (by omega), if_neg (by omega), if_neg (by omega)]; simp only [true_iff]; omega))
/-- The templates are what of all lines is near. -/
theorem tmpl_filter {l : Ln} (hl : l.ok = true) : tmpl l = allR.filter (fun x => rnearB l x) := by
  have h1 : tmpl l = ordL (tmpl l) := by
    unfold tmpl
    split
    · rfl
    · unfold validL
      exact IsOrd.eq ⟨(ordL_is _).1, fun x => Iff.rfl⟩
  rw [h1, ord_of_all (fun x hx => (mem_tmpl.1 hx).2.2.2)]
  refine List.filter_congr fun x hx => ?_
  have hx2 := mem_allR.1 hx
  rw [rnear_eq hl hx2]
  unfold nearB
  rw [hl, hx2]; rfl
end Go.Proofs.YtfbfkkaepgcggaaGreat

namespace Go.Proofs.YtfbfkkaepgcggaaGreat
open Go.RowKit

/-- The candidates of a line, by the kind. -/
def candL (p : List Ln) (l : Ln) (kind : Int) : List Ln := if kind = 0 then tmpl l else if kind = 1 then validL p l else validL allR l
def inC (p : List Ln) (l : Ln) (kind : Int) (x : Ln) : Bool := (decide (kind = 2) || (decide (kind = 0) && rnearB l x)) || (decide (kind = 1) && p.contains x)
def candR (p : List Ln) (l : Ln) (kind : Int) : List Ln := allR.filter fun x => inC p l kind x && !decide (x = l)
theorem validL_filter (xs : List Ln) (l : Ln) : validL xs l = allR.filter fun x => xs.contains x && !decide (x = l) := by
  unfold validL
  rw [ord_of_all (fun x hx => by have := (List.mem_filter.1 hx).2; simp at this; exact this.2)]
  refine List.filter_congr fun x hx => ?_
  have hok := mem_allR.1 hx
  rw [Bool.eq_iff_iff, List.contains_iff_mem, List.mem_filter, hok]
  simp
theorem cand_eq {p : List Ln} {l : Ln} {kind : Int} (hl : l.ok = true) (hk : 0 ≤ kind) (hk2 : kind ≤ 2) : candL p l kind = candR p l kind := by
  unfold candL candR inC
  have : kind = 0 ∨ kind = 1 ∨ kind = 2 := by omega
  rcases this with rfl | rfl | rfl
  · rw [if_pos rfl, tmpl_filter hl]
    refine List.filter_congr fun x hx => ?_
    have hok := mem_allR.1 hx
    simp only [show ((0 : Int) = 2) = False by simp, show ((0 : Int) = 1) = False by simp, decide_false, decide_true, Bool.false_or, Bool.true_and, Bool.false_and, Bool.or_false]
    by_cases e : x = l
    · subst e
      have : rnearB x x = false := by unfold rnearB; rw [if_pos rfl]
      rw [this]; rfl
    · rw [decide_eq_false e]; simp
  · rw [if_neg (by omega), if_pos rfl, validL_filter]
    refine List.filter_congr fun x hx => ?_
    simp
  · rw [if_neg (by omega), if_neg (by omega), validL_filter]
    refine List.filter_congr fun x hx => ?_
    rw [List.contains_iff_mem.2 hx]
    simp
end Go.Proofs.YtfbfkkaepgcggaaGreat

namespace Go.Proofs.YtfbfkkaepgcggaaGreat
open Go.RowKit
open Go.Sort (HoldsK Holds flatK get_flatK size_flatK blk_iff)

instance : Inhabited Ed := ⟨⟨0, ⟨0, 0, 0, 0⟩⟩⟩
/-- The block g holds the lines xs from the place o on, and they can be written. -/
def RowE (w : World) (g o : Nat) (xs : List Ed) : Prop := ∀ (j : Nat) (l : Ed), xs[j]? = some l → ∀ (i : Nat) (u : Value), (encE l)[i]? = some u → w.cell? ⟨g, o + j * 5 + i, none⟩ = some u ∧ w.frozen? ⟨g, o + j * 5 + i, none⟩ = false
theorem RowE.grow {w w' : World} {g o : Nat} {xs : List Ed} (h : RowE w g o xs) (hg : Grow w w') (hb : g < w.heap.size) : RowE w' g o xs := by
  intro j l hj i u hu
  obtain ⟨h1, h2⟩ := h j l hj i u hu
  exact ⟨hg.cell h1, (hg.cellsB.2 g _ hb).trans h2⟩
theorem RowE.of_own {w : World} {base e g n cap : Nat} {xs : List Ed} (h : w.ownsRow base e 5 (.slice (some ⟨g, 0, none⟩) n cap) xs.length (xs.flatMap encE)) : RowE w g 0 xs := by
  have hn : n = xs.length := by
    rcases h.2 with ⟨h2, _⟩ | ⟨g', cap', cur, hv, _⟩
    · cases h2
    · cases hv; rfl
  subst hn
  have hs := slc_of_owns encE_len h
  intro j l hj i u hu
  obtain ⟨_, _, e1, _, _, h4⟩ := hs
  cases e1
  rcases h4 with ⟨h4, _⟩ | ⟨b, o, e2, _, hc⟩
  · rw [h4] at hj; simp at hj
  · cases e2
    refine ⟨hc j l hj i u hu, ownsRow_free h _⟩
theorem RowE.slc {w : World} {g o c : Nat} {xs : List Ed} (h : RowE w g o xs) (hb : g < w.heap.size) (hc : xs.length ≤ c) (hm : c ≤ 9223372036854775807) : EditsAt w (.slice (some ⟨g, o, none⟩) xs.length c) xs :=
  ⟨_, c, rfl, hc, hm, .inr ⟨g, o, rfl, hb, fun j x hx i u hu => (h j x hx i u hu).1⟩⟩
theorem encE_get! (l : Ed) (i : Nat) (hi : i < 5) : (encE l)[i]? = some (encE l)[i]! := by
  have : i = 0 ∨ i = 1 ∨ i = 2 ∨ i = 3 ∨ i = 4 := by omega
  rcases this with rfl | rfl | rfl | rfl | rfl <;> rfl
theorem RowE.holds {w : World} {g o : Nat} {xs : List Ed} (h : RowE w g o xs) : HoldsK encE 5 w g o xs.toArray := by
  intro t ht
  rw [size_flatK] at ht
  have ht' : t < xs.length * 5 := by simpa using ht
  rw [get_flatK _ _ _ _ ht]
  have hq : t / 5 < xs.length := by omega
  have hj : xs[t / 5]? = some xs[t / 5] := List.getElem?_eq_getElem hq
  have e : xs.toArray[t / 5]! = xs[t / 5] := by rw [getElem!_pos _ _ (by simpa using hq)]; simp
  have := h (t / 5) _ hj (t % 5) _ (encE_get! _ _ (Nat.mod_lt _ (by omega)))
  rw [show o + t / 5 * 5 + t % 5 = o + t by omega] at this
  rw [e]
  exact this
theorem RowE.of_holds {w : World} {g o : Nat} {xs : List Ed} (h : HoldsK encE 5 w g o xs.toArray) : RowE w g o xs := by
  intro j l hj i u hu
  have hjl : j < xs.length := (List.getElem?_eq_some_iff.1 hj).1
  have hi : i < 5 := by have := (List.getElem?_eq_some_iff.1 hu).1; rw [encE_len] at this; exact this
  have := h.cell (i := j) (c := i) (by simpa using hjl) hi
  have e : xs.toArray[j]! = l := by
    rw [getElem!_pos _ _ (by simpa using hjl)]
    rw [List.getElem?_eq_getElem hjl] at hj
    simpa using Option.some.inj hj
  rw [e] at this
  rw [encE_get! l i hi] at hu
  rw [← Option.some.inj hu]
  exact this
/-! ### The order of edits -/
def cmpE (x y : Ed) : Int := orI [cmpI x.at_ y.at_, cmpL x.l y.l]
def ltE (x y : Ed) : Prop := x.at_ < y.at_ ∨ (x.at_ = y.at_ ∧ ltP x.l y.l)
instance (x y : Ed) : Decidable (ltE x y) := by unfold ltE; exact inferInstance
theorem ltE_irrefl (x : Ed) : ¬ ltE x x := by
  rintro (h | ⟨_, h⟩)
  · omega
  · exact ltP_irrefl _ h
theorem ltE_trans {x y z : Ed} (h : ltE x y) (k : ltE y z) : ltE x z := by
  rcases h with h | ⟨h, h2⟩ <;> rcases k with k | ⟨k, k2⟩
  · exact .inl (by omega)
  · exact .inl (by omega)
  · exact .inl (by omega)
  · exact .inr ⟨by omega, ltP_trans h2 k2⟩
theorem ltE_total (x y : Ed) : ltE x y ∨ x = y ∨ ltE y x := by
  obtain ⟨a, l⟩ := x
  obtain ⟨b, m⟩ := y
  unfold ltE
  dsimp only
  by_cases h : a < b
  · exact .inl (.inl h)
  · by_cases h2 : b < a
    · exact .inr (.inr (.inl h2))
    · have e : a = b := by omega
      subst e
      rcases ltP_total l m with k | k | k
      · exact .inl (.inr ⟨rfl, k⟩)
      · subst k; exact .inr (.inl rfl)
      · exact .inr (.inr (.inr ⟨rfl, k⟩))
theorem cmpE_lt (x y : Ed) : decide (cmpE x y < 0) = decide (ltE x y) := by
  have h1 := cmpL_lt x.l y.l
  rw [ltL_def, decide_eq_decide] at h1
  rw [decide_eq_decide]
  unfold ltE
  rw [← h1]
  have e : cmpE x y = if cmpI x.at_ y.at_ = 0 then (if cmpL x.l y.l = 0 then 0 else cmpL x.l y.l) else cmpI x.at_ y.at_ := rfl
  rw [e]
  unfold cmpI
  split <;> split <;> (try split) <;> omega
theorem ascE_ext : ∀ (l m : List Ed), l.Pairwise ltE → m.Pairwise ltE → (∀ x, x ∈ l ↔ x ∈ m) → l = m
  | [], [], _, _, _ => rfl
  | [], y :: m, _, _, h => by have := (h y).2 (by simp); simp at this
  | x :: l, [], _, _, h => by have := (h x).1 (by simp); simp at this
  | x :: l, y :: m, hl, hm, h => by
    obtain ⟨l1, l2⟩ := List.pairwise_cons.1 hl
    obtain ⟨m1, m2⟩ := List.pairwise_cons.1 hm
    have hxy : x = y := by
      rcases List.mem_cons.1 ((h x).1 (by simp)) with e | e
      · exact e
      · rcases List.mem_cons.1 ((h y).2 (by simp)) with e' | e'
        · exact e'.symm
        · exact absurd (ltE_trans (m1 x e) (l1 y e')) (ltE_irrefl _)
    subst hxy
    refine congrArg (x :: ·) (ascE_ext l m l2 m2 fun z => ?_)
    constructor
    · intro hz
      rcases List.mem_cons.1 ((h z).1 (by simp [hz])) with e | e
      · subst e; exact absurd (l1 z hz) (ltE_irrefl _)
      · exact e
    · intro hz
      rcases List.mem_cons.1 ((h z).2 (by simp [hz])) with e | e
      · subst e; exact absurd (m1 z hz) (ltE_irrefl _)
      · exact e
/-- A list that rises stays as it is when it is sorted. -/
theorem ascE_sorted {xs ys : List Ed} (hx : xs.Pairwise ltE) (hp : ys.Perm xs) (hw : ys.Pairwise fun x y => ¬ ltE y x) : ys = xs := by
  have hnd : ys.Nodup := hp.nodup_iff.2 (hx.imp fun {a b} h e => by subst e; exact ltE_irrefl _ h)
  refine ascE_ext ys xs ?_ hx fun z => hp.mem_iff
  refine (hw.and hnd).imp fun {a b} h => ?_
  rcases ltE_total a b with k | k | k
  · exact k
  · exact absurd k h.2
  · exact absurd k h.1
end Go.Proofs.YtfbfkkaepgcggaaGreat
