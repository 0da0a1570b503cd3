/- The plain functions behind Candidates. No program is named. -/
import Derived.Test.YtbccbokjecdaaaaPlNr
namespace Go.Proofs.Ytbccbokjecdaaaa
open Go.RowKit

/-- The errors of a place and a kind. -/
def askE (n : Nat) (at_ kind : Int) : Int := if inB at_ 0 ((n : Int) - 1) then (if inB kind 0 2 then 0 else 1) else 4
def candE (p : List Ln) (at_ kind : Int) : Int := if valP p = 0 then askE p.length at_ kind else valP p
theorem valP_cases (p : List Ln) : valP p = 0 ∨ valP p = 1 ∨ valP p = 3 := by
  unfold valP
  split
  · exact .inr (.inr rfl)
  · rcases errB_cases (p.all Ln.ok) with h | h
    · exact .inl h
    · exact .inr (.inl h)
theorem askE_ok {n : Nat} {at_ kind : Int} : askE n at_ kind = 0 ↔ 0 ≤ at_ ∧ at_ < n ∧ 0 ≤ kind ∧ kind ≤ 2 := by
  unfold askE
  cases h : inB at_ 0 ((n : Int) - 1) with
  | false => have := inB_false.1 h; simp; omega
  | true =>
    have := inB_true.1 h
    cases k : inB kind 0 2 with
    | false => have := inB_false.1 k; simp; omega
    | true => have := inB_true.1 k; simp; omega
/-- The candidates of a line, by the kind. -/
def candL (p : List Ln) (l : Ln) (kind : Int) : List Ln := if kind = 0 then tmpl l else if kind = 1 then validL p l else validL allR l
def inC (p : List Ln) (l : Ln) (kind : Int) (x : Ln) : Bool := (decide (kind = 2) || (decide (kind = 0) && rnearB l x)) || (decide (kind = 1) && p.contains x)
def candR (p : List Ln) (l : Ln) (kind : Int) : List Ln := allR.filter fun x => inC p l kind x && !decide (x = l)
theorem validL_filter (xs : List Ln) (l : Ln) : validL xs l = allR.filter fun x => xs.contains x && !decide (x = l) := by
  unfold validL
  rw [ord_of_all (fun x hx => by have := (List.mem_filter.1 hx).2; simp at this; exact this.2)]
  refine List.filter_congr fun x hx => ?_
  have hok := mem_allR.1 hx
  rw [Bool.eq_iff_iff, List.contains_iff_mem, List.mem_filter, hok]
  simp
theorem cand_eq {p : List Ln} {l : Ln} {kind : Int} (hl : l.ok = true) (hk : 0 ≤ kind) (hk2 : kind ≤ 2) : candL p l kind = candR p l kind := by
  unfold candL candR inC
  have : kind = 0 ∨ kind = 1 ∨ kind = 2 := by omega
  rcases this with rfl | rfl | rfl
  · rw [if_pos rfl, tmpl_filter hl]
    refine List.filter_congr fun x hx => ?_
    have hok := mem_allR.1 hx
    simp only [show ((0 : Int) = 2) = False by simp, show ((0 : Int) = 1) = False by simp, decide_false, decide_true, Bool.false_or, Bool.true_and, Bool.false_and, Bool.or_false]
    by_cases e : x = l
    · subst e
      have : rnearB x x = false := by unfold rnearB; rw [if_pos rfl]
      rw [this]; rfl
    · rw [decide_eq_false e]; simp
  · rw [if_neg (by omega), if_pos rfl, validL_filter]
    refine List.filter_congr fun x hx => ?_
    simp
  · rw [if_neg (by omega), if_neg (by omega), validL_filter]
    refine List.filter_congr fun x hx => ?_
    rw [List.contains_iff_mem.2 hx]
    simp
/-- Those of any kind are among those of the kind 2, in their order. -/
theorem cand_sub {p : List Ln} {l : Ln} {kind : Int} (hl : l.ok = true) (hk : 0 ≤ kind) (hk2 : kind ≤ 2) : (candL p l kind).Sublist (candL p l 2) := by
  rw [cand_eq hl hk hk2, cand_eq hl (by omega) (by omega)]
  unfold candR
  have : (allR.filter fun x => inC p l kind x && !decide (x = l)) = (allR.filter fun x => inC p l 2 x && !decide (x = l)).filter fun x => inC p l kind x && !decide (x = l) := by
    rw [List.filter_filter]
    refine List.filter_congr fun x _ => ?_
    have : inC p l 2 x = true := by simp [inC]
    rw [this]; simp
  rw [this]
  exact List.filter_sublist
/-- Going along a list, a part of it is met whole. -/
def meet : List Ln → List Ln → List Ln
  | _, [] => []
  | [], r => r
  | x :: xs, y :: ys => if x = y then meet xs ys else meet xs (y :: ys)
theorem meet_nil (xs : List Ln) : meet xs [] = [] := by cases xs <;> rfl
theorem meet_sub : ∀ {xs ys : List Ln}, ys.Sublist xs → meet xs ys = []
  | xs, [], _ => meet_nil xs
  | [], y :: ys, h => by cases h
  | x :: xs, y :: ys, h => by
    unfold meet
    by_cases e : x = y
    · rw [if_pos e]
      subst e
      exact meet_sub (List.cons_sublist_cons.1 h)
    · rw [if_neg e]
      refine meet_sub ?_
      cases h with
      | cons _ h => exact h
      | cons_cons _ h => exact absurd rfl e
theorem filter_take_succ {F : Ln → Bool} {xs : List Ln} {k : Nat} {x : Ln} (h : xs[k]? = some x) : (xs.take (k + 1)).filter F = (xs.take k).filter F ++ if F x then [x] else [] := by
  rw [List.take_add_one, h, List.filter_append]
  cases hf : F x <;> simp [hf]
theorem filter_take_len (F : Ln → Bool) (xs : List Ln) (k : Nat) : ((xs.take k).filter F).length ≤ xs.length := Nat.le_trans (List.length_filter_le _ _) (by simp; omega)
theorem contains_take_succ' {xs : List Ln} {k : Nat} {x : Ln} (h : xs[k]? = some x) (l : Ln) : (xs.take (k + 1)).contains l = ((xs.take k).contains l || decide (x = l)) := by
  rw [List.take_add_one, h, Bool.eq_iff_iff]
  simp only [List.contains_iff_mem, List.mem_append, Bool.or_eq_true, decide_eq_true_eq, Option.toList_some, List.mem_singleton]
  exact ⟨fun h => h.imp id Eq.symm, fun h => h.imp id Eq.symm⟩

end Go.Proofs.Ytbccbokjecdaaaa
