/- An order to fix, behind any orders: plain laws. No program is named. -/
import Derived.Test.YtgjppekjkofdiaaGreatDoorG43
import Derived.Test.YtgjppekjkofdiaaGreatDoorG20
namespace Go.Proofs.YtgjppekjkofdiaaGreatDoor
open Go.RowKit

def fixT : ByteArray := ⟨#[102, 105, 120]⟩
def checkT : ByteArray := ⟨#[99, 104, 101, 99, 107]⟩
theorem parse_fix : parseB fixT = some (5, []) := by
  unfold parseB
  rw [show wordsB fixT = [wFix] from by decide +kernel]
  simp only [show formB wFix = some (5, 0) from by decide +kernel]
  rw [if_neg (by decide +kernel)]
  simp [numsW]
theorem parse_check : parseB checkT = some (6, []) := by
  unfold parseB
  rw [show wordsB checkT = [wCheck] from by decide +kernel]
  simp only [show formB wCheck = some (6, 0) from by decide +kernel]
  rw [if_neg (by decide +kernel)]
  simp [numsW]
theorem failB_all {s : Bn} (ok : OkB s) : (failB s.prog s.tests).length = 0 ↔ allPass s.prog s.tests = true := by
  rw [failB_ok ok.chk]; exact whereL_nil
theorem sgt_bench {s : Bn} (ok : OkB s) : sgtE s.prog s.tests 0 = if allPass s.prog s.tests then 8 else 0 := by
  unfold sgtE
  rw [if_pos ok.chk]
  rfl
theorem do_fix {s : Bn} (ho : s.orders.length < 80) : doB s fixT = if (fixBn s).1 ≠ 0 then ((fixBn s).1, s) else (0, { (fixBn s).2 with orders := (fixBn s).2.orders ++ [fixT] }) := by
  unfold doB
  rw [parse_fix]
  dsimp only
  rw [if_neg (by omega)]
  rfl
theorem do_check {s : Bn} (ho : s.orders.length < 80) : doB s checkT = if (verifyB s).1 ≠ 0 then ((verifyB s).1, s) else (0, { (verifyB s).2 with orders := (verifyB s).2.orders ++ [checkT] }) := by
  unfold doB
  rw [parse_check]
  dsimp only
  rw [if_neg (by omega)]
  rfl
theorem fix_state {s : Bn} (ok : OkB s) (ho : s.orders.length < 80) (h : allPass s.prog s.tests = true) : (doB s fixT).1 = 8 := by
  have hf : fixBn s = (8, s) := by unfold fixBn; rw [if_pos ((failB_all ok).2 h)]
  rw [do_fix ho, hf]; rfl
theorem fix_large {s : Bn} (ok : OkB s) (ho : s.orders.length < 80) (h : allPass s.prog s.tests = false) (h8 : s.hist.length = 8) : (doB s fixT).1 = 3 := by
  have hf : fixBn s = (3, s) := by
    unfold fixBn
    rw [if_neg (fun e => by rw [(failB_all ok).1 e] at h; cases h), if_pos h8]
  rw [do_fix ho, hf]; rfl
theorem fix_none {s : Bn} (ok : OkB s) (ho : s.orders.length < 80) (h : allPass s.prog s.tests = false) (h8 : s.hist.length ≠ 8) {x : List Ed} {n : Int} (hr : RepP s.prog s.tests x n false) : (doB s fixT).1 = 4 := by
  have hf : fixBn s = (4, s) := by
    unfold fixBn
    rw [if_neg (fun e => by rw [(failB_all ok).1 e] at h; cases h), if_neg h8, fixX_eq hr]
    rfl
  rw [do_fix ho, hf]; rfl
theorem fix_some {s : Bn} (ok : OkB s) (ho : s.orders.length < 79) (h : allPass s.prog s.tests = false) (h8 : s.hist.length ≠ 8) {x : List Ed} {n : Int} (hr : RepP s.prog s.tests x n true) :
    (doB s fixT).1 = 0 ∧ (doB s fixT).2.hist = s.hist ++ [x] ∧ failB (doB s fixT).2.prog (doB s fixT).2.tests = [] ∧ (doB s fixT).2.fixes = s.fixes + 1 ∧ (doB (doB s fixT).2 checkT).1 = 0 := by
  obtain ⟨g1, g2, _⟩ := rep_good hr
  have hc := chkX_ok.1 g1
  have hde : doE s.prog x = 0 := chkX_ok.2 ⟨hc.1, hc.2.1, rfl, hc.2.2.2⟩
  have hvp : valP (doM s.prog x) = 0 := doM_ok hc.1 fun e he => by
    obtain ⟨i, hi⟩ := List.getElem?_of_mem he
    have h1 := hc.2.1
    unfold valX at h1
    by_cases h4 : 4 < x.length
    · rw [if_pos h4] at h1; cases h1
    · rw [if_neg h4] at h1
      have h2 : edsOK x = true := by
        cases hq : edsOK x with
        | true => rfl
        | false => rw [hq] at h1; cases h1
      exact (edsOK_at h2 hi).2.2
  have hfail : failB (doM s.prog x) s.tests = [] := by
    rw [failB_ok (chkT_ok.2 ⟨hvp, ok.tst⟩), ← List.length_eq_zero_iff]
    exact whereL_nil.2 g2
  have hbrk : brkB (doM s.prog x) s.tests s.lk = false := by unfold brkB; rw [hfail]; rfl
  have hrep : repairB s x = (0, { s with progs := s.progs ++ [doM s.prog x], hist := s.hist ++ [x] }) := by
    unfold repairB
    rw [if_neg h8, if_neg (by rw [hde]; simp), if_neg (by rw [hbrk]; simp)]
  have hf : fixBn s = (0, { progs := s.progs ++ [doM s.prog x], hist := s.hist ++ [x], tests := s.tests, lk := s.lk, fixes := s.fixes + 1, checks := s.checks, orders := s.orders }) := by
    unfold fixBn
    rw [if_neg (fun e => by rw [(failB_all ok).1 e] at h; cases h), if_neg h8, fixX_eq hr]
    dsimp only [if_true]
    simp [hrep]
  have hd : doB s fixT = (0, { progs := s.progs ++ [doM s.prog x], hist := s.hist ++ [x], tests := s.tests, lk := s.lk, fixes := s.fixes + 1, checks := s.checks, orders := s.orders ++ [fixT] }) := by
    rw [do_fix (by omega), hf]; rfl
  have hpr : ({ progs := s.progs ++ [doM s.prog x], hist := s.hist ++ [x], tests := s.tests, lk := s.lk, fixes := s.fixes + 1, checks := s.checks, orders := s.orders ++ [fixT] } : Bn).prog = doM s.prog x := by unfold Bn.prog; simp
  have hts : s.tests.length ≠ 0 := by
    intro e
    rw [List.length_eq_zero_iff.1 e] at h
    cases h
  rw [hd]
  refine ⟨rfl, rfl, by rw [hpr]; exact hfail, rfl, ?_⟩
  rw [do_check (by simp; omega)]
  have hv : verifyB ({ progs := s.progs ++ [doM s.prog x], hist := s.hist ++ [x], tests := s.tests, lk := s.lk, fixes := s.fixes + 1, checks := s.checks, orders := s.orders ++ [fixT] } : Bn) = (0, { progs := s.progs ++ [doM s.prog x], hist := s.hist ++ [x], tests := s.tests, lk := s.lk, fixes := s.fixes + 1, checks := s.checks + 1, orders := s.orders ++ [fixT] }) := by
    unfold verifyB
    rw [if_neg hts, hpr, hfail, if_neg (by simp)]
  rw [hv]; rfl
end Go.Proofs.YtgjppekjkofdiaaGreatDoor
