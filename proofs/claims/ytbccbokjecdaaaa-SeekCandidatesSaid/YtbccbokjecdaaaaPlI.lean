/- The plain functions behind layer 1: independent lines. No program is named. -/
import Derived.Test.YtbccbokjecdaaaaPlR
namespace Go.Proofs.Ytbccbokjecdaaaa
open Go.RowKit

def tch (l m : Ln) : Bool := wrB l.op && ((wrB m.op && m.d == l.d) || (rdL m.op m.a m.b).contains l.d)
def ind (l m : Ln) : Bool := !(l.op == 7) && !(m.op == 7) && !tch l m && !tch m l
/-- What Independent answers. -/
def indE (l m : Ln) : Int := if l.ok then errB m.ok else 1
def indB (l m : Ln) : Bool := l.ok && m.ok && ind l m
def rtch (l : Ln) (r : Int) : Bool := (rdM l.op l.a l.b).get r || (wrB l.op && l.d == r)
theorem get_rdM {l : Ln} (h : l.ok = true) (r : Int) (h0 : 0 ≤ r) (h3 : r ≤ 3) : (rdM l.op l.a l.b).get r = (rdL l.op l.a l.b).contains r := by
  obtain ⟨op, d, a, b⟩ := l
  obtain ⟨g2, g3⟩ := ok_args (op := op) (d := d) (a := a) (b := b) h
  dsimp only
  have hr : r = 0 ∨ r = 1 ∨ r = 2 ∨ r = 3 := by omega
  by_cases h : 3 ≤ op
  · obtain ⟨a0, a3⟩ := g2 (by omega)
    obtain ⟨b0, b3⟩ := g3 h
    have e1 : rdL op a b = two a b := by unfold rdL; rw [if_neg (by omega), if_pos (by omega)]
    have e2 : rdM op a b = (Ms.set ⟨false, false, false, false⟩ a true).set b true := by unfold rdM; rw [if_pos h, if_pos (by omega)]
    rw [e1, e2]
    have ha : a = 0 ∨ a = 1 ∨ a = 2 ∨ a = 3 := by omega
    have hb : b = 0 ∨ b = 1 ∨ b = 2 ∨ b = 3 := by omega
    rcases ha with rfl | rfl | rfl | rfl <;> rcases hb with rfl | rfl | rfl | rfl <;> rcases hr with rfl | rfl | rfl | rfl <;> decide
  · by_cases g : 2 ≤ op
    · obtain ⟨a0, a3⟩ := g2 g
      have e1 : rdL op a b = [a] := by unfold rdL; rw [if_pos (by omega)]
      have e2 : rdM op a b = Ms.set ⟨false, false, false, false⟩ a true := by unfold rdM; rw [if_neg h, if_pos g]
      rw [e1, e2]
      have ha : a = 0 ∨ a = 1 ∨ a = 2 ∨ a = 3 := by omega
      rcases ha with rfl | rfl | rfl | rfl <;> rcases hr with rfl | rfl | rfl | rfl <;> decide
    · have e1 : rdL op a b = [] := by unfold rdL; rw [if_neg (by omega), if_neg h]
      have e2 : rdM op a b = ⟨false, false, false, false⟩ := by unfold rdM; rw [if_neg h, if_neg g]
      rw [e1, e2]
      rcases hr with rfl | rfl | rfl | rfl <;> decide
theorem wr_reg {l : Ln} (h : l.ok = true) (hw : wrB l.op = true) : 0 ≤ l.d ∧ l.d ≤ 3 := (ok_rd (op := l.op) (d := l.d) (a := l.a) (b := l.b) h).2.2.1 hw
/-- The document's way to say it. -/
theorem tch_eq {l m : Ln} (hl : l.ok = true) (hm : m.ok = true) : (wrB l.op && rtch m l.d) = tch l m := by
  cases hw : wrB l.op with
  | false => simp [tch, hw]
  | true =>
    obtain ⟨h0, h3⟩ := wr_reg hl hw
    unfold tch rtch
    rw [hw, get_rdM hm _ h0 h3, Bool.or_comm]
theorem ind_comm (l m : Ln) : ind l m = ind m l := by
  unfold ind
  cases (l.op == 7) <;> cases (m.op == 7) <;> cases tch l m <;> cases tch m l <;> rfl
theorem indB_comm (l m : Ln) : indB l m = indB m l := by unfold indB; rw [ind_comm l m, Bool.and_comm l.ok m.ok]
theorem indE_comm (l m : Ln) : indE l m = indE m l := by
  unfold indE
  cases l.ok <;> cases m.ok <;> rfl
end Go.Proofs.Ytbccbokjecdaaaa
