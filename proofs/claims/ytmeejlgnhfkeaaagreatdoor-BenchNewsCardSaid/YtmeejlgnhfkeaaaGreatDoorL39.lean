
import Derived.Test.YtmeejlgnhfkeaaaGreatDoorL35
import Derived.Lib.IndexMore
namespace Go.Proofs.YtmeejlgnhfkeaaaGreatDoor
open Go.RowKit
theorem index_cutL (c : UInt8) : ∀ l : List UInt8, (Bk.cutL c l = none → Lib.index l [c] = -1) ∧ (∀ a b, Bk.cutL c l = some (a, b) → Lib.index l [c] = (a.length : Int))
 | [] => ⟨fun _ => by simp [Lib.index], fun a b h => by simp [Bk.cutL] at h⟩
 | x :: r => by
  obtain ⟨h1, h2⟩ := index_cutL c r
  unfold Bk.cutL Lib.index
  by_cases hx : x = c
  ·subst hx
   simp [List.isPrefixOf]
  ·have hp : List.isPrefixOf [c] (x :: r) = false := by
    simp [List.isPrefixOf]; exact fun e => hx e.symm
   rw [if_neg hx, hp]
   simp only [Bool.false_eq_true, if_false]
   cases hr : Bk.cutL c r with
   | none =>
    refine ⟨fun _ => ?_, fun a b h => (by cases h)⟩
    rw [h1 hr]; rfl
   | some p =>
    obtain ⟨a', b'⟩ := p
    refine ⟨fun h => (by cases h), fun a b h => ?_⟩
    simp only [Option.map_some, Option.some.injEq, Prod.mk.injEq] at h
    obtain ⟨rfl, rfl⟩ := h
    have h3 := h2 a' b' hr
    rw [h3]
    have : ((a'.length : Int) == -1) = false := by rw [beq_eq_false_iff_ne]; omega
    rw [this]
    simp
theorem cut_none {c : UInt8} {l : List UInt8} (h : Bk.cutL c l = none) : Lib.cut l [c] = (l, [], false) := by
 unfold Lib.cut
 rw [(index_cutL c l).1 h, if_neg (by decide)]
theorem cut_some {c : UInt8} {l a b : List UInt8} (h : Bk.cutL c l = some (a, b)) : Lib.cut l [c] = (a, b, true) := by
 obtain ⟨rfl, _⟩ := Bk.cutL_some.1 h
 unfold Lib.cut
 rw [(index_cutL c _).2 a b h, if_pos (by omega)]
 simp
end Go.Proofs.YtmeejlgnhfkeaaaGreatDoor
