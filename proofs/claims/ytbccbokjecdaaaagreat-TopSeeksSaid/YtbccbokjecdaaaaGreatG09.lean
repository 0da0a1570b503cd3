/- Walks that the statements of chapter 05 share: same(), and which lists are too long for a statement. -/
import Derived.Test.YtbccbokjecdaaaaGreatG07
import Derived.Test.YtbccbokjecdaaaaGreatG00
import Derived.Test.YtbccbokjecdaaaaGreatG08
namespace Go.Proofs.YtbccbokjecdaaaaGreat
open Go.RowKit

theorem sm_is : nearB ⟨1, 0, 3, 0⟩ ⟨1, 2, 3, 0⟩ = true ∧ nearE ⟨1, 0, 3, 0⟩ ⟨1, 2, 3, 0⟩ = 0 := by decide +kernel
theorem sm_not : nearB ⟨1, 0, 3, 0⟩ ⟨1, 0, 5, 0⟩ = false ∧ nearE ⟨1, 0, 3, 0⟩ ⟨1, 0, 5, 0⟩ = 0 := by decide +kernel
set_option maxRecDepth 100000 in
set_option maxHeartbeats 4000000 in
theorem ssame_any (w : World) (R : Ending → World → Prop) (hR : ∀ w', Grow w w' → R (.returned (.bool true)) w') :
    Calls Tryz.prog 15 #[] w R := by
  have HR := Lib.hid hR
  clear hR
  go_enter Tryz.func15, Tryz.ntmps15
  go_wp2_with fail
  refine near_any 1 0 3 0 1 2 3 0 _ _ ?_
  intro w1 hg1
  rw [sm_is.1, sm_is.2]
  have HG1 := Lib.hid hg1
  clear hg1
  go_wp2_with fail
  refine near_any 1 0 3 0 1 0 5 0 _ _ ?_
  intro w2 hg2
  rw [sm_not.1, sm_not.2]
  have HF := Lib.hid (HR.out w2 (HG1.out.trans hg2))
  clear hg2
  go_wp2_with fail
  exact HF.out

theorem long4_any (p : List Ln) (v : Value) (w : World) (hp : LinesAt w v p) (R : Ending → World → Prop) (hR : R (.returned (.bool (decide (100 < p.length)))) w) :
    Calls Tryz.prog 13 #[v, .slice none 0 0] w R := by
  obtain ⟨a, c, rfl, h1, h2, _⟩ := hp
  by_cases h : 100 < p.length
  · rw [decide_eq_true h] at hR
    have t1 : (p.length : Int) > 100 := by omega
    go_enter Tryz.func13, Tryz.ntmps13
    go_wp2
    simpa using hR
  · rw [decide_eq_false h] at hR
    have t1 : ¬ (p.length : Int) > 100 := by omega
    go_enter Tryz.func13, Tryz.ntmps13
    go_wp2
    simpa using hR

def shortB (t : Tst) : Bool := !decide (50 < t.xs.length)
/-- The tests are too long for a statement. -/
def manyB (ts : List Tst) : Bool := !ts.all shortB || decide (50 < ts.length)

set_option maxHeartbeats 4000000 in
theorem many_any (ts : List Tst) (v : Value) (w : World) (hx : TestsAt w v ts) (R : Ending → World → Prop) (hR : ∀ w', Grow w w' → R (.returned (.bool (manyB ts))) w') :
    Calls Tryz.prog 14 #[v] w R := by
  have HX := Lib.hid hx
  have hm : manyB ts = (!ts.all shortB || decide (50 < ts.length)) := rfl
  rw [hm] at hR
  have HR := Lib.hid hR
  obtain ⟨⟨a, c, rfl, h1, h2, _⟩, _⟩ := hx
  clear hR hm
  go_enter Tryz.func14, Tryz.ntmps14
  go_wp2_with fail
  go_loopw [3] (fun i wr => ∃ k : Nat, k ≤ ts.length ∧ i = .int .i64 k ∧ Grow w wr ∧ ∀ y ∈ ts.take k, shortB y = true) (fun i _ => ts.length - (intOf i).toNat)
  case atStart => exact ⟨0, Nat.zero_le _, rfl, Grow.refl _, by simp⟩
  case round =>
    obtain ⟨k, hk, rfl, hg, hall⟩ := hrel
    have HALL := Lib.hid hall
    have HG := Lib.hid hg
    clear hall hg
    by_cases hlt : k < ts.length
    · obtain ⟨⟨v, xs, o', wt⟩, ht⟩ : ∃ x, ts[k]? = some x := ⟨_, List.getElem?_eq_getElem hlt⟩
      obtain ⟨b, o, rfl, hb, e0, _, _⟩ := tests_at (HX.out.at_.grow HG.out) ht
      obtain ⟨sa, sc, hv, _⟩ := HX.out.ins _ (List.mem_of_getElem? ht)
      dsimp only at hv e0
      subst hv
      have HT := Lib.hid ht
      have hlt2 : (k : Int) < (ts.length : Int) := by omega
      clear ht
      by_cases hs : 50 < xs.length
      · have HF0 := HR.out _ HG.out
        rw [rall_false_at (f := shortB) HT.out (by unfold shortB; dsimp only; rw [decide_eq_true hs]; rfl)] at HF0
        have HF := Lib.hid HF0
        have t1 : (xs.length : Int) > 50 := by omega
        clear HF0
        go_wp2_with fail
        exact HF.out
      · have HV := Lib.hid (show shortB ⟨.slice sa xs.length sc, xs, o', wt⟩ = true by unfold shortB; dsimp only; rw [decide_eq_false hs]; rfl)
        have t1 : ¬ (xs.length : Int) > 50 := by omega
        go_wp2_with fail
        go_roundw
        case rel => exact ⟨k + 1, by omega, by go_num, HG.out, rall_take_succ HALL.out HT.out HV.out⟩
        case measure => simp [intOf]; omega
    · have HF0 := HR.out _ HG.out
      rw [rall_of_take HALL.out (by omega), Bool.not_true, Bool.false_or] at HF0
      have HF := Lib.hid HF0
      clear HF0
      have hn : k = ts.length := by omega
      by_cases hs : 50 < ts.length
      · have t1 : (ts.length : Int) > 50 := by omega
        rw [decide_eq_true hs] at HF
        go_wp2_with fail
        exact HF.out
      · have t1 : ¬ (ts.length : Int) > 50 := by omega
        rw [decide_eq_false hs] at HF
        go_wp2_with fail
        exact HF.out

end Go.Proofs.YtbccbokjecdaaaaGreat
