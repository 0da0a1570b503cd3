/- The plain functions behind SeekAlls: all lines. No program is named. -/
import Derived.Test.YtbccbokjecdaaaaPlKn
import Derived.Test.YtbccbokjecdaaaaPlCm
namespace Go.Proofs.Ytbccbokjecdaaaa
open Go.RowKit

def okOf (l : Ln) : List Ln := if l.ok then [l] else []
def allB (op d a : Int) (n : Nat) : List Ln := (List.range n).flatMap fun b : Nat => okOf ⟨op, d, a, (b : Int)⟩
def allA (op d : Int) (n : Nat) : List Ln := (List.range n).flatMap fun a : Nat => allB op d ((a : Int) - 9) 4
def allD (op : Int) (n : Nat) : List Ln := (List.range n).flatMap fun d : Nat => allA op (d : Int) 19
def allO (n : Nat) : List Ln := (List.range n).flatMap fun o : Nat => allD (o : Int) 9
theorem range_flat {α : Type} (f : Nat → List α) (n : Nat) : (List.range (n + 1)).flatMap f = (List.range n).flatMap f ++ f n := by rw [List.range_succ, List.flatMap_append]; simp
theorem allB_succ (op d a : Int) (n : Nat) : allB op d a (n + 1) = allB op d a n ++ okOf ⟨op, d, a, (n : Int)⟩ := range_flat _ _
theorem allA_succ (op d : Int) (n : Nat) : allA op d (n + 1) = allA op d n ++ allB op d ((n : Int) - 9) 4 := range_flat _ _
theorem allD_succ (op : Int) (n : Nat) : allD op (n + 1) = allD op n ++ allA op (n : Int) 19 := range_flat _ _
theorem allO_succ (n : Nat) : allO (n + 1) = allO n ++ allD (n : Int) 9 := range_flat _ _
theorem mem_okOf {x l : Ln} : x ∈ okOf l ↔ x = l ∧ l.ok = true := by
  unfold okOf
  split
  · next h => simp [h]
  · next h => simp [h]
theorem mem_allO {x : Ln} : x ∈ allO 8 ↔ x.ok = true := by
  constructor
  · intro h
    obtain ⟨o, _, h⟩ := List.mem_flatMap.1 h
    obtain ⟨d, _, h⟩ := List.mem_flatMap.1 h
    obtain ⟨a, _, h⟩ := List.mem_flatMap.1 h
    obtain ⟨b, _, h⟩ := List.mem_flatMap.1 h
    have h2 := mem_okOf.1 h
    rw [h2.1]
    exact h2.2
  · intro h
    have c := ok_cases h
    have key : ∀ (o d a b : Nat), o < 8 → d < 9 → a < 19 → b < 4 → x.op = o → x.d = d → x.a = (a : Int) - 9 → x.b = b → x ∈ allO 8 := by
      intro o d a b ho hd ha hb e0 e1 e2 e3
      refine List.mem_flatMap.2 ⟨o, List.mem_range.2 ho, List.mem_flatMap.2 ⟨d, List.mem_range.2 hd, List.mem_flatMap.2 ⟨a, List.mem_range.2 ha, List.mem_flatMap.2 ⟨b, List.mem_range.2 hb, mem_okOf.2 ⟨?_, ?_⟩⟩⟩⟩⟩
      · exact ln_eq e0 e1 e2 e3
      · rw [← show x = (⟨(o : Int), (d : Int), (a : Int) - 9, (b : Int)⟩ : Ln) from ln_eq e0 e1 e2 e3]; exact h
    exact key x.op.toNat x.d.toNat (x.a + 9).toNat x.b.toNat (by omega) (by omega) (by omega) (by omega) (by omega) (by omega) (by omega) (by omega)

/-! ### The document's way: field by field -/
def setA (t : Int) (n : Nat) : List Ln := (List.range n).map fun a : Nat => ⟨1, t, (a : Int) - 9, 0⟩
def setT (n : Nat) : List Ln := (List.range n).flatMap fun t : Nat => setA (t : Int) 19
def cpA (t : Int) (n : Nat) : List Ln := (List.range n).map fun a : Nat => ⟨2, t, (a : Int), 0⟩
def cpT (n : Nat) : List Ln := (List.range n).flatMap fun t : Nat => cpA (t : Int) 4
def opB (o t a : Int) (n : Nat) : List Ln := (List.range n).map fun b : Nat => ⟨o, t, a, (b : Int)⟩
def opA (o t : Int) (n : Nat) : List Ln := (List.range n).flatMap fun a : Nat => opB o t (a : Int) 4
def opT (o : Int) (lo n : Nat) : List Ln := (List.range n).flatMap fun t : Nat => opA o ((lo + t : Nat) : Int) 4
def opO (n : Nat) : List Ln := (List.range n).flatMap fun k : Nat => if k = 4 then opT 7 1 8 else opT ((3 + k : Nat) : Int) 0 4
def allR : List Ln := [⟨0, 0, 0, 0⟩] ++ setT 4 ++ cpT 4 ++ opO 5
theorem setT_succ (n : Nat) : setT (n + 1) = setT n ++ setA (n : Int) 19 := range_flat _ _
theorem cpT_succ (n : Nat) : cpT (n + 1) = cpT n ++ cpA (n : Int) 4 := range_flat _ _
theorem opA_succ (o t : Int) (n : Nat) : opA o t (n + 1) = opA o t n ++ opB o t (n : Int) 4 := range_flat _ _
theorem opT_succ (o : Int) (lo n : Nat) : opT o lo (n + 1) = opT o lo n ++ opA o ((lo + n : Nat) : Int) 4 := range_flat _ _
theorem opO_succ (n : Nat) : opO (n + 1) = opO n ++ (if n = 4 then opT 7 1 8 else opT ((3 + n : Nat) : Int) 0 4) := range_flat _ _
set_option maxRecDepth 100000 in
theorem allR_eq : allR = allO 8 := by decide +kernel
set_option maxRecDepth 100000 in
theorem allR_asc : allR.Pairwise ltP := by decide +kernel
theorem mem_allR {x : Ln} : x ∈ allR ↔ x.ok = true := by rw [allR_eq]; exact mem_allO
theorem ordL_all : ordL (allO 8) = allR := by
  symm
  exact IsOrd.eq ⟨allR_asc, fun x => by rw [allR_eq]⟩
/-- Any list of lines, each once in ascending order, is what of all lines is in it. -/
theorem ord_of_all {xs : List Ln} (h : ∀ x ∈ xs, x.ok = true) : ordL xs = allR.filter fun x => xs.contains x := by
  symm
  refine IsOrd.eq ⟨allR_asc.filter _, fun x => ?_⟩
  rw [List.mem_filter, mem_allR, List.contains_iff_mem]
  exact ⟨fun h => h.2, fun hx => ⟨h x hx, hx⟩⟩
end Go.Proofs.Ytbccbokjecdaaaa
