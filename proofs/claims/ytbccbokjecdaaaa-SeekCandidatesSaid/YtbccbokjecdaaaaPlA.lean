/- The plain functions behind layer 1: what the program's functions compute, on lists of integers. No program is named. -/
import Derived.Test.YtbccbokjecdaaaaBase
namespace Go.Proofs.Ytbccbokjecdaaaa

def inB (n lo hi : Int) : Bool := decide (lo ≤ n) && decide (n ≤ hi)
theorem inB_def (n lo hi : Int) : inB n lo hi = (decide (lo ≤ n) && decide (n ≤ hi)) := rfl
theorem inB_true {n lo hi : Int} : inB n lo hi = true ↔ lo ≤ n ∧ n ≤ hi := by simp [inB_def]
theorem inB_false {n lo hi : Int} : inB n lo hi = false ↔ n < lo ∨ hi < n := by simp [inB_def]; omega

/-- A valid line. -/
def vL (op d a b : Int) : Bool :=
  if op = 0 then decide (d = 0) && decide (a = 0) && decide (b = 0)
  else if op = 1 then inB d 0 3 && inB a (-9) 9 && decide (b = 0)
  else if op = 2 then inB d 0 3 && inB a 0 3 && decide (b = 0)
  else if op = 3 ∨ op = 4 ∨ op = 5 ∨ op = 6 then inB d 0 3 && inB a 0 3 && inB b 0 3
  else if op = 7 then inB d 1 8 && inB a 0 3 && inB b 0 3
  else false
def Ln.ok (l : Ln) : Bool := vL l.op l.d l.a l.b
/-- OK or ErrArg. -/
def errB (b : Bool) : Int := if b then 0 else 1
theorem errB_true : errB true = 0 := rfl
theorem errB_false : errB false = 1 := rfl
def valP (p : List Ln) : Int := if 8 < p.length then 3 else errB (p.all Ln.ok)
def valS (s : List Int) : Int := if s.length = 4 then errB (s.all fun n => inB n (-999) 999) else 1
/-- The errors of a program and a state. -/
def chk (p : List Ln) (s : List Int) : Int := if valP p = 0 then valS s else valP p

theorem errB_cases (b : Bool) : errB b = 0 ∨ errB b = 1 := by cases b <;> simp [errB]
theorem valP_ok {p : List Ln} : valP p = 0 ↔ p.length ≤ 8 ∧ ∀ l ∈ p, l.ok = true := by
  unfold valP errB
  by_cases h : 8 < p.length
  · simp only [h, if_true]
    exact ⟨fun h => (by cases h), fun h2 => (by omega)⟩
  · simp only [h, if_false]
    cases hp : p.all Ln.ok
    · simp only [Bool.false_eq_true, if_false]
      constructor
      · intro h; cases h
      · rintro ⟨_, h2⟩; rw [List.all_eq_true.2 h2] at hp; cases hp
    · simp only [if_true, true_iff]
      exact ⟨by omega, List.all_eq_true.1 hp⟩
theorem valS_ok {s : List Int} : valS s = 0 ↔ s.length = 4 ∧ ∀ n ∈ s, -999 ≤ n ∧ n ≤ 999 := by
  unfold valS errB
  by_cases h : s.length = 4
  · simp only [h, if_true, true_and]
    cases hp : s.all fun n => inB n (-999) 999
    · simp only [Bool.false_eq_true, if_false]
      constructor
      · intro h; cases h
      · intro h2; rw [List.all_eq_true.2 (fun n hn => inB_true.2 (h2 n hn))] at hp; cases hp
    · simp only [if_true, true_iff]
      exact fun n hn => inB_true.1 (List.all_eq_true.1 hp n hn)
  · simp [h]
theorem chk_ok {p : List Ln} {s : List Int} : chk p s = 0 ↔ valP p = 0 ∧ valS s = 0 := by
  unfold chk; by_cases h : valP p = 0 <;> simp [h]

/-- A line writes a register. -/
def wrB (op : Int) : Bool := inB op 1 6
end Go.Proofs.Ytbccbokjecdaaaa
