/- Maps from numbers to lines that a call makes: what they hold. No program is named. -/
import Derived.Test.YtfbfkkaepgcggaaGreatQ01
import Derived.Maps.RangeWalk
import Derived.Maps.Ext
namespace Go.Proofs.YtfbfkkaepgcggaaGreat
open Go.RowKit
open Go.Maps (Keyed)

def lineV (l : Ln) : Value := .agg #[.int .i64 l.op, .int .i64 l.d, .int .i64 l.a, .int .i64 l.b]
/-- How a line that lies in a map reads: as itself. -/
def lineR (v : Value) : Option (DataW Ln × List MemPlace) :=
  match v with
  | .agg ⟨[.int .i64 op, .int .i64 d, .int .i64 a, .int .i64 b]⟩ => some (.held ⟨op, d, a, b⟩, [])
  | _ => none
theorem lineR_mk (l : Ln) : lineR (lineV l) = some (.held l, []) := rfl
theorem lineR_inv {v : Value} {y : DataW Ln × List MemPlace} (h : lineR v = some y) : ∃ l, v = lineV l ∧ y = (.held l, []) := by
  unfold lineR at h
  split at h
  · exact ⟨⟨_, _, _, _⟩, rfl, (Option.some.inj h).symm⟩
  · cases h
/-- A map that reads as D holds the edits x. -/
def MapsTo (D : DataW Ln) (x : List Ed) : Prop := ∀ i : Int, (Lit.int .i64 i).wf = true → match x.find? (atB i) with | some e => ∀ z, D.atKey (.int .i64 i) z = .held e.l | none => ∀ z, D.atKey (.int .i64 i) z = z
theorem MapsTo.start : MapsTo (.map []) [] := fun i _ => by
  show ∀ z, (DataW.map []).atKey (.int .i64 i) z = z
  intro z; rfl
theorem MapsTo.step {D : DataW Ln} {x : List Ed} (h : MapsTo D x) (hD : Go.Maps.IsMap D) {e : Ed} (hk : WideAt.IsKeyLit (.int .i64 e.at_)) (hn : x.find? (atB e.at_) = none) : MapsTo (D.put (.int .i64 e.at_) (.held e.l)) (x ++ [e]) := by
  intro i hw
  by_cases hi : e.at_ = i
  · subst hi
    rw [find_snoc_same hn]
    intro z
    exact Go.Maps.atKey_put_same hD hk _ _
  · rw [find_snoc_other hi]
    have := h i hw
    have hne : (Lit.int .i64 i) ≠ .int .i64 e.at_ := fun e => by cases e; exact hi rfl
    cases hf : x.find? (atB i) with
    | none => rw [hf] at this; intro z; rw [Go.Maps.atKey_put_other hne]; exact this z
    | some f => rw [hf] at this; intro z; rw [Go.Maps.atKey_put_other hne]; exact this z
theorem wf_small {i : Int} (h0 : 0 ≤ i) (h8 : i < 8) : (Lit.int .i64 i).wf = true := WalkArith.wf_i64 (by omega)
/-- An entry that has come is an edit's. -/
theorem MapsTo.entry {D : DataW Ln} {x : List Ed} (h : MapsTo D x) {i : Int} (hw : (Lit.int .i64 i).wf = true) {l : Ln} (hat : ∀ z, D.atKey (.int .i64 i) z = .held l) : ∃ e, x.find? (atB i) = some e ∧ e.l = l := by
  have := h i hw
  cases hf : x.find? (atB i) with
  | none =>
    rw [hf] at this
    have h1 := (this .nil).symm.trans (hat .nil)
    cases h1
  | some e =>
    rw [hf] at this
    have h1 := (this .nil).symm.trans (hat .nil)
    cases h1
    exact ⟨e, rfl, rfl⟩
theorem MapsTo.has {D : DataW Ln} {x : List Ed} (h : MapsTo D x) {i : Int} (hw : (Lit.int .i64 i).wf = true) : Go.Maps.has D (.int .i64 i) = (x.find? (atB i)).isSome := by
  have := h i hw
  cases hf : x.find? (atB i) with
  | none => rw [hf] at this; exact Go.Maps.has_false_of_atKey this
  | some e => rw [hf] at this; exact Go.Maps.has_true_of_atKey this

/-- The program while the edits are put in, in whatever order: those that are still to come are not yet there. -/
def Doing (p q : List Ln) (x : List Ed) (left : Lit → Bool) : Prop := q.length = p.length ∧ ∀ j : Nat, q[j]? = (p[j]?).map fun l => match x.find? (atB j) with | some e => if left (.int .i64 j) then l else e.l | none => l
theorem Doing.start {p : List Ln} {x : List Ed} {D : DataW Ln} (h : MapsTo D x) (hp : p.length ≤ 8) : Doing p p x (Go.Maps.has D) := by
  refine ⟨rfl, fun j => ?_⟩
  cases hj : p[j]? with
  | none => rfl
  | some l =>
    have hl : j < p.length := (List.getElem?_eq_some_iff.1 hj).1
    have hh := h.has (wf_small (i := (j : Int)) (by omega) (by omega))
    simp only [Option.map_some, Option.some.injEq]
    cases hf : x.find? (atB j) with
    | none => rfl
    | some e => rw [hf] at hh; dsimp only; rw [hh]; rfl
theorem Doing.step {p q : List Ln} {x : List Ed} {left : Lit → Bool} (h : Doing p q x left) {n : Nat} {e : Ed} (hf : x.find? (atB n) = some e) (hn : n < p.length) : Doing p (q.set n e.l) x (fun z => left z && !z.sameKey (.int .i64 n)) := by
  refine ⟨by rw [List.length_set]; exact h.1, fun j => ?_⟩
  by_cases hj : j = n
  · subst hj
    rw [List.getElem?_set_self (by rw [h.1]; exact hn), List.getElem?_eq_getElem hn]
    simp only [Option.map_some, Option.some.injEq]
    rw [hf]
    dsimp only
    have hs : (Lit.int .i64 (j : Int)).sameKey (.int .i64 j) = true := by simp [Lit.sameKey]
    simp [hs]
  · rw [List.getElem?_set_ne (fun e => hj e.symm), h.2 j]
    have hs : (Lit.int .i64 (j : Int)).sameKey (.int .i64 n) = false := Go.Maps.sameKey_ne (fun e => by cases e; exact hj rfl)
    cases p[j]? with
    | none => rfl
    | some l =>
      simp only [Option.map_some, Option.some.injEq]
      simp [hs]
theorem Doing.done {p q : List Ln} {x : List Ed} {left : Lit → Bool} (h : Doing p q x left) (hl : ∀ kl, left kl = false) : q = doM p x := by
  refine List.ext_getElem? fun j => ?_
  rw [h.2 j, doM_get]
  cases p[j]? with
  | none => rfl
  | some l =>
    simp only [Option.map_some, Option.some.injEq]
    cases x.find? (atB j) with
    | none => rfl
    | some e => dsimp only; rw [hl]; rfl
end Go.Proofs.YtfbfkkaepgcggaaGreat
