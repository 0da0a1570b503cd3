/-


-/
import Derived.Test.YtmeejlgnhfkeaaaGreatDoorL16
import Derived.Lib.SmallJoins
namespace Go.Proofs.YtmeejlgnhfkeaaaGreatDoor
open Go.RowKit
def sizeR (p : List Ln) (e : Ed) : Int := fieldsN (lineAt p e.at_) e.l
def BestP (p : List Ln) (G : List Ed) (e : Ed) (m : Int) : Prop := (G = [] ∧ e = ⟨0, ⟨0, 0, 0, 0⟩⟩ ∧ m = -1) ∨ ∃ j, G[j]? = some e ∧ FirstMin (G.map (sizeR p)) j m
theorem BestP.start (p : List Ln) : BestP p [] ⟨0, ⟨0, 0, 0, 0⟩⟩ (-1) := .inl ⟨rfl, rfl, rfl⟩
theorem sizeR_nonneg (p : List Ln) (e : Ed) : 0 ≤ sizeR p e := (fieldsN_le _ _).1
theorem BestP.size {p : List Ln} {G : List Ed} {e : Ed} {m : Int} (h : BestP p G e m) : (G = [] ∧ m = -1) ∨ (0 ≤ m ∧ m ≤ 4 ∧ m = sizeR p e) := by
 rcases h with ⟨h, _, hm⟩ | ⟨j, hj, hm, _⟩
 ·exact .inl ⟨h, hm⟩
 ·rw [List.getElem?_map, hj] at hm
  have : m = sizeR p e := (Option.some.inj hm).symm
  exact .inr ⟨by rw [this]; exact sizeR_nonneg _ _, by rw [this]; exact (fieldsN_le _ _).2, this⟩
theorem FirstMin.snoc {S : List Int} {j : Nat} {m s : Int} (h : FirstMin S j m) : (s < m → FirstMin (S ++ [s]) S.length s) ∧ (¬ s < m → FirstMin (S ++ [s]) j m) := by
 have h1 : FirstMin ((S ++ [s]).take S.length) j m := by rw [List.take_left]; exact h
 have h2 := h1.step (s := s) (by simp)
 rw [show (S ++ [s]).take (S.length + 1) = S ++ [s] from List.take_of_length_le (by simp)] at h2
 exact h2
theorem BestP.take {p : List Ln} {G : List Ed} {e x : Ed} {m : Int} (h : BestP p G e m) (hs : m < 0 ∨ sizeR p x < m) : BestP p (G ++ [x]) x (sizeR p x) := by
 refine .inr ⟨G.length, by simp, ?_⟩
 rw [List.map_append, List.map_cons, List.map_nil]
 rcases h with ⟨rfl, _, rfl⟩ | ⟨j, hj, hm⟩
 ·exact FirstMin.one (S := [sizeR p x]) rfl
 ·have hlt : sizeR p x < m := by
   rcases hs with hs | hs
   ·have := hm.1
    rw [List.getElem?_map, hj] at this
    have : m = sizeR p e := (Option.some.inj this).symm
    have := sizeR_nonneg p e
    omega
   ·exact hs
  have := (hm.snoc (s := sizeR p x)).1 hlt
  rw [List.length_map] at this
  exact this
theorem BestP.skip {p : List Ln} {G : List Ed} {e x : Ed} {m : Int} (h : BestP p G e m) (h0 : ¬ m < 0) (hs : ¬ sizeR p x < m) (b : Bool) : BestP p (G ++ if b then [x] else []) e m := by
 cases b with
 | false => simpa using h
 | true =>
  rcases h with ⟨_, _, rfl⟩ | ⟨j, hj, hm⟩
  ·omega
  ·refine .inr ⟨j, ?_, ?_⟩
   ·rw [if_pos rfl, List.getElem?_append_left (List.getElem?_eq_some_iff.1 hj).1]; exact hj
   ·rw [if_pos rfl, List.map_append]
    exact (hm.snoc (s := sizeR p x)).2 hs
def set5 (w : World) (g : Nat) (e : Ed) : World := ((((w.setCell ⟨g, 0, none⟩ (.int .i64 e.at_)).setCell ⟨g, 1, none⟩ (.int .i64 e.l.op)).setCell ⟨g, 2, none⟩ (.int .i64 e.l.d)).setCell ⟨g, 3, none⟩ (.int .i64 e.l.a)).setCell ⟨g, 4, none⟩ (.int .i64 e.l.b)
def EBlk (w : World) (g : Nat) (e : Ed) : Prop := w.heap[g]? = some (.cells #[.int .i64 e.at_, .int .i64 e.l.op, .int .i64 e.l.d, .int .i64 e.l.a, .int .i64 e.l.b] 60 (0, 0))
theorem EBlk.set {w : World} {g : Nat} {e : Ed} (h : EBlk w g e) (f : Ed) : EBlk (set5 w g f) g f := by
 have h0 := Go.Joins.block_setCell (i := 0) h (.int .i64 f.at_)
 have h1 := Go.Joins.block_setCell (i := 1) h0 (.int .i64 f.l.op)
 have h2 := Go.Joins.block_setCell (i := 2) h1 (.int .i64 f.l.d)
 have h3 := Go.Joins.block_setCell (i := 3) h2 (.int .i64 f.l.a)
 have h4 := Go.Joins.block_setCell (i := 4) h3 (.int .i64 f.l.b)
 unfold EBlk set5
 rw [h4]
 rfl
end Go.Proofs.YtmeejlgnhfkeaaaGreatDoor

namespace Go.Proofs.YtmeejlgnhfkeaaaGreatDoor
open Go.RowKit
def dblB (p : List Ln) (ts : List Tst) (x y : Ed) : Bool := decide (x.at_ < y.at_) && (decide (chkX p [x, y] ts = 0) && goodM p [x, y] ts)
def pairX (p : List Ln) (ts : List Tst) (x : Ed) (ys : List Ed) : List (List Ed) := (ys.filter (dblB p ts x)).map fun y => [x, y]
def pairsL (p : List Ln) (ts : List Tst) : List Ed → List (List Ed)
 | [] => []
 | x :: r => pairX p ts x r ++ pairsL p ts r
theorem pairX_cons (p : List Ln) (ts : List Tst) (x y : Ed) (ys : List Ed) : pairX p ts x (y :: ys) = (if dblB p ts x y then [[x, y]] else []) ++ pairX p ts x ys := by
 unfold pairX; rw [List.filter_cons]; cases dblB p ts x y <;> rfl
theorem pairX_len (p : List Ln) (ts : List Tst) (x : Ed) (ys : List Ed) : (pairX p ts x ys).length ≤ ys.length := by unfold pairX; rw [List.length_map]; exact List.length_filter_le _ _
theorem pairsL_len (p : List Ln) (ts : List Tst) : ∀ (M : List Ed) (n : Nat), M.length ≤ n → (pairsL p ts M).length ≤ M.length * n
 | [], _, _ => by simp [pairsL]
 | x :: r, n, h => by
  rw [List.length_cons] at h
  have h1 := pairX_len p ts x r
  have h2 := pairsL_len p ts r n (by omega)
  rw [pairsL, List.length_append, List.length_cons, Nat.succ_mul]; omega
theorem pairsL_drop {p : List Ln} {ts : List Tst} {M : List Ed} {k : Nat} {x : Ed} (h : M[k]? = some x) : pairsL p ts (M.drop k) = pairX p ts x (M.drop (k + 1)) ++ pairsL p ts (M.drop (k + 1)) := by
 rw [show M.drop k = x :: M.drop (k + 1) by obtain ⟨h1, rfl⟩ := List.getElem?_eq_some_iff.1 h; exact List.drop_eq_getElem_cons h1]; rfl
theorem pairX_drop {p : List Ln} {ts : List Tst} {ys : List Ed} {j : Nat} {x y : Ed} (h : ys[j]? = some y) : pairX p ts x (ys.drop j) = (if dblB p ts x y then [[x, y]] else []) ++ pairX p ts x (ys.drop (j + 1)) := by
 rw [show ys.drop j = y :: ys.drop (j + 1) by obtain ⟨h1, rfl⟩ := List.getElem?_eq_some_iff.1 h; exact List.drop_eq_getElem_cons h1]; exact pairX_cons _ _ _ _ _
def BestG {α : Type} (sz : α → Int) (z : α) (G : List α) (e : α) (m : Int) : Prop := (G = [] ∧ e = z ∧ m = -1) ∨ ∃ j, G[j]? = some e ∧ FirstMin (G.map sz) j m
theorem BestG.start {α : Type} (sz : α → Int) (z : α) : BestG sz z [] z (-1) := .inl ⟨rfl, rfl, rfl⟩
theorem BestG.size {α : Type} {sz : α → Int} {z e : α} {G : List α} {m : Int} (h : BestG sz z G e m) : (G = [] ∧ m = -1) ∨ (e ∈ G ∧ m = sz e) := by
 rcases h with ⟨h, _, hm⟩ | ⟨j, hj, hm, _⟩
 ·exact .inl ⟨h, hm⟩
 ·rw [List.getElem?_map, hj] at hm
  exact .inr ⟨List.mem_of_getElem? hj, (Option.some.inj hm).symm⟩
theorem BestG.take {α : Type} {sz : α → Int} {z e x : α} {G : List α} {m : Int} (h : BestG sz z G e m) (hs : m < 0 ∨ sz x < m) (h0 : ∀ e, 0 ≤ sz e) : BestG sz z (G ++ [x]) x (sz x) := by
 refine .inr ⟨G.length, by simp, ?_⟩
 rw [List.map_append, List.map_cons, List.map_nil]
 rcases h with ⟨rfl, _, rfl⟩ | ⟨j, hj, hm⟩
 ·exact FirstMin.one (S := [sz x]) rfl
 ·have hlt : sz x < m := by
   rcases hs with hs | hs
   ·have := hm.1
    rw [List.getElem?_map, hj] at this
    have : m = sz e := (Option.some.inj this).symm
    have := h0 e
    omega
   ·exact hs
  have := (hm.snoc (s := sz x)).1 hlt
  rw [List.length_map] at this
  exact this
theorem BestG.skip {α : Type} {sz : α → Int} {z e x : α} {G : List α} {m : Int} (h : BestG sz z G e m) (h0 : ¬ m < 0) (hs : ¬ sz x < m) (b : Bool) : BestG sz z (G ++ if b then [x] else []) e m := by
 cases b with
 | false => simpa using h
 | true =>
  rcases h with ⟨_, _, rfl⟩ | ⟨j, hj, hm⟩
  ·omega
  ·refine .inr ⟨j, ?_, ?_⟩
   ·rw [if_pos rfl, List.getElem?_append_left (List.getElem?_eq_some_iff.1 hj).1]; exact hj
   ·rw [if_pos rfl, List.map_append]
    exact (hm.snoc (s := sz x)).2 hs
def DblP (p : List Ln) (ts : List Tst) (x : List Ed) (ok : Bool) : Prop :=
 (ok = false ∧ x = [] ∧ (sgtE p ts 0 ≠ 0 ∨ pairsL p ts (mutM p p.length) = [])) ∨
 (ok = true ∧ sgtE p ts 0 = 0 ∧ ∃ j, (pairsL p ts (mutM p p.length))[j]? = some x ∧ FirstMin ((pairsL p ts (mutM p p.length)).map (sizeE p)) j (sizeE p x))
theorem DblP.uniq {p : List Ln} {ts : List Tst} {x x' : List Ed} {ok ok' : Bool} (h : DblP p ts x ok) (h' : DblP p ts x' ok') : x = x' ∧ ok = ok' := by
 rcases h with ⟨rfl, rfl, h1⟩ | ⟨rfl, h1, j, h2, h3⟩ <;> rcases h' with ⟨rfl, rfl, g1⟩ | ⟨rfl, g1, j', g2, g3⟩
 ·exact ⟨rfl, rfl⟩
 ·rcases h1 with h1 | h1
  ·exact absurd g1 h1
  ·rw [h1] at g2; simp at g2
 ·rcases g1 with g1 | g1
  ·exact absurd h1 g1
  ·rw [g1] at h2; simp at h2
 ·obtain ⟨rfl, _⟩ := h3.uniq g3
  rw [h2] at g2
  exact ⟨Option.some.inj g2, rfl⟩
end Go.Proofs.YtmeejlgnhfkeaaaGreatDoor
