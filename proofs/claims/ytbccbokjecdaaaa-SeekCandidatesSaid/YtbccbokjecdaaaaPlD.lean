/- The plain functions behind layer 1: the slice of a register. No program is named. -/
import Derived.Test.YtbccbokjecdaaaaPlC
namespace Go.Proofs.Ytbccbokjecdaaaa
open Go.RowKit

/-- Which registers matter. -/
structure Ms where
  b0 : Bool
  b1 : Bool
  b2 : Bool
  b3 : Bool
deriving DecidableEq
def Ms.get (s : Ms) (r : Int) : Bool := if r = 0 then s.b0 else if r = 1 then s.b1 else if r = 2 then s.b2 else s.b3
def Ms.set (s : Ms) (r : Int) (n : Bool) : Ms := if r = 0 then { s with b0 := n } else if r = 1 then { s with b1 := n } else if r = 2 then { s with b2 := n } else { s with b3 := n }
def arrM (s : Ms) : Array Value := #[.bool s.b0, .bool s.b1, .bool s.b2, .bool s.b3]
theorem arrM_cell {w : World} {b : Nat} {s : Ms} {e : TypeId} (h : w.heap[b]? = some (.cells (arrM s) e (0, 0))) (r : Int) (h0 : 0 ≤ r) (h3 : r ≤ 3) : w.cell? ⟨b, r.toNat, none⟩ = some (.bool (s.get r)) := by
  have : r = 0 ∨ r = 1 ∨ r = 2 ∨ r = 3 := by omega
  rcases this with rfl | rfl | rfl | rfl <;> simp [World.cell?, h, arrM, Ms.get]
theorem arrM_free {w : World} {b : Nat} {s : Ms} {e : TypeId} (h : w.heap[b]? = some (.cells (arrM s) e (0, 0))) (o : Nat) : w.frozen? ⟨b, o, none⟩ = false := by
  simp [World.frozen?, h]
theorem arrM_set {w : World} {b : Nat} {s : Ms} {e : TypeId} (h : w.heap[b]? = some (.cells (arrM s) e (0, 0))) (r : Int) (n : Bool) (h0 : 0 ≤ r) (h3 : r ≤ 3) :
    (w.setCell ⟨b, r.toNat, none⟩ (.bool n)).heap[b]? = some (.cells (arrM (s.set r n)) e (0, 0)) := by
  rw [heap_setCell_same w b _ _ e _ h]
  have : r = 0 ∨ r = 1 ∨ r = 2 ∨ r = 3 := by omega
  rcases this with rfl | rfl | rfl | rfl <;> rfl

def wrT' (op d : Int) : Int := if wrB op then d else 0
/-- A line that is met on the way back: which registers matter now, and what is in the slice so far. -/
def sliceStep (p : List Ln) (acc : Ms × List Int) (v : Nat × St) : Ms × List Int :=
  match p[v.1]? with
  | none => acc
  | some l => if l.op ≠ 7 ∧ (wrB l.op = false ∨ acc.1.get l.d = false) then acc
    else ((rdL l.op l.a l.b).foldl (fun m r => m.set r true) (if wrB l.op then acc.1.set l.d false else acc.1), acc.2 ++ [(v.1 : Int)])
def sliceM (p : List Ln) (s : List Int) (r : Int) : List Int := ((visits p s).reverse.foldl (sliceStep p) (Ms.set ⟨false, false, false, false⟩ r true, [])).2.reverse
def sliceE (p : List Ln) (s : List Int) (r : Int) : Int := if chk p s = 0 then (if inB r 0 3 then 0 else 1) else chk p s

theorem ok_rd {op d a b : Int} (h : Ln.ok ⟨op, d, a, b⟩ = true) : 0 ≤ op ∧ op ≤ 7 ∧ (wrB op = true → 0 ≤ d ∧ d ≤ 3) ∧ ∀ r ∈ rdL op a b, 0 ≤ r ∧ r ≤ 3 := by
  unfold Ln.ok vL at h
  simp only [inB_def] at h
  have two_mem : ∀ r ∈ two a b, r = a ∨ r = b := by
    intro r hr
    unfold two at hr
    split at hr
    · simp at hr; exact .inl hr
    · split at hr <;> simp at hr <;> omega
  split at h
  · subst_vars; simp [wrB, inB_def, rdL]
  · split at h
    · subst_vars
      simp at h
      refine ⟨by omega, by omega, fun _ => by omega, ?_⟩
      simp [rdL]
    · split at h
      · subst_vars
        simp at h
        refine ⟨by omega, by omega, fun _ => by omega, ?_⟩
        simp [rdL]; omega
      · split at h
        · simp at h
          refine ⟨by omega, by omega, fun _ => by omega, ?_⟩
          intro r hr
          rw [show rdL op a b = two a b by unfold rdL; rw [if_neg (by omega), if_pos (by omega)]] at hr
          rcases two_mem r hr with rfl | rfl <;> omega
        · split at h
          · subst_vars
            simp at h
            refine ⟨by omega, by omega, fun hw => by simp [wrB, inB_def] at hw, ?_⟩
            intro r hr
            rw [show rdL 7 a b = two a b by simp [rdL]] at hr
            rcases two_mem r hr with rfl | rfl <;> omega
          · cases h

theorem trcN_lt (p : List Ln) (f : Nat → Option Int) : ∀ (n i : Nat) (s : St) (v : Nat × St), v ∈ (trcN p f n i s).1 → v.1 < p.length
  | 0, _, _, v, h => by simp [trcN] at h
  | n + 1, i, s, v, h => by
    cases hl : p[i]? with
    | none => simp [trcN, hl] at h
    | some l =>
      simp only [trcN, hl, List.mem_cons] at h
      rcases h with rfl | h
      · exact (List.getElem?_eq_some_iff.1 hl).1
      · exact trcN_lt p f n _ _ v h
theorem visits_lt (p : List Ln) (s : List Int) (v : Nat × St) (h : v ∈ visits p s) : v.1 < p.length := trcN_lt p noF _ _ _ v h

/-- What comes in a round of the walk back. -/
def vAt (vs : List (Nat × St)) (j : Fin vs.length) : Nat × St := vs[vs.length - 1 - j.1]'(by have := j.2; omega)
/-- How a walk back stands behind some rounds. -/
def backAcc (p : List Ln) (vs : List (Nat × St)) (m : Ms) (js : List (Fin vs.length)) : Ms × List Int := js.foldl (fun acc j => sliceStep p acc (vAt vs j)) (m, [])
theorem backAcc_snoc (p : List Ln) (vs : List (Nat × St)) (m : Ms) (js : List (Fin vs.length)) (j : Fin vs.length) : backAcc p vs m (js ++ [j]) = sliceStep p (backAcc p vs m js) (vAt vs j) := by
  simp [backAcc]
theorem sliceStep_le (p : List Ln) (acc : Ms × List Int) (v : Nat × St) : (sliceStep p acc v).2.length ≤ acc.2.length + 1 := by
  unfold sliceStep
  split
  · omega
  · split
    · omega
    · simp
theorem backAcc_le (p : List Ln) (vs : List (Nat × St)) : ∀ (js : List (Fin vs.length)) (acc : Ms × List Int), (js.foldl (fun acc j => sliceStep p acc (vAt vs j)) acc).2.length ≤ acc.2.length + js.length
  | [], acc => by simp
  | j :: js, acc => by
    have h1 := backAcc_le p vs js (sliceStep p acc (vAt vs j))
    have h2 := sliceStep_le p acc (vAt vs j)
    simp only [List.foldl_cons, List.length_cons]
    omega
theorem backAcc_len (p : List Ln) (vs : List (Nat × St)) (m : Ms) (js : List (Fin vs.length)) : (backAcc p vs m js).2.length ≤ js.length := by
  have := backAcc_le p vs js (m, [])
  simpa [backAcc] using this
theorem back_all (vs : List (Nat × St)) : (List.finRange vs.length).map (vAt vs) = vs.reverse := by
  apply List.ext_getElem
  · simp
  · intro i h1 h2
    simp [vAt]
theorem backAcc_all (p : List Ln) (vs : List (Nat × St)) (m : Ms) : backAcc p vs m (List.finRange vs.length) = vs.reverse.foldl (sliceStep p) (m, []) := by
  rw [← back_all, List.foldl_map]; rfl
theorem fin_take (n k : Nat) (h : k < n) : (List.finRange n).take (k + 1) = (List.finRange n).take k ++ [⟨k, h⟩] := by
  rw [List.take_add_one]
  simp [h]
/-- The two values of a round. -/
def encB (vs : List (Nat × St)) (j : Fin vs.length) : Array Value := #[.int .i64 ((vs.length - 1 - j : Nat) : Int), .agg (encV (vAt vs j)).toArray]
theorem encB_at (vs : List (Nat × St)) (m k : Nat) (h : vs.length = m + 1 + k) (hk : k < vs.length) (x : Nat × St) (hx : vs[m]? = some x) : encB vs ⟨k, hk⟩ = #[.int .i64 (m : Int), .agg #[.int .i64 x.1, .int .i64 x.2.r0, .int .i64 x.2.r1, .int .i64 x.2.r2, .int .i64 x.2.r3]] := by
  have e : vs.length - 1 - k = m := by omega
  obtain ⟨hm, hx'⟩ := List.getElem?_eq_some_iff.1 hx
  subst hx'
  simp [encB, vAt, e, encV]
/-- Two blocks lie as they lay. -/
def KeepAt (b b' : Nat) (A B : World) : Prop := B.heap[b]? = A.heap[b]? ∧ B.heap[b']? = A.heap[b']?
theorem KeepAt.refl (b b' : Nat) (A : World) : KeepAt b b' A A := ⟨rfl, rfl⟩
theorem KeepAt.trans {b b' : Nat} {A B C : World} (h : KeepAt b b' A B) (k : KeepAt b b' B C) : KeepAt b b' A C := ⟨k.1.trans h.1, k.2.trans h.2⟩
theorem KeepAt.of_grow {b b' : Nat} {A B : World} (h : Grow A B) (hb : b < A.heap.size) (hb' : b' < A.heap.size) : KeepAt b b' A B := ⟨h.heap hb, h.heap hb'⟩
theorem cell_of_heap {A B : World} {b : Nat} (h : B.heap[b]? = A.heap[b]?) {o : Nat} {v : Value} (hc : A.cell? ⟨b, o, none⟩ = some v) : B.cell? ⟨b, o, none⟩ = some v := by
  simp only [World.cell?, h] at hc ⊢; exact hc
end Go.Proofs.Ytbccbokjecdaaaa
