/- The plain law of CodeRenames: a renamed program makes the moved state. No program is named. -/
import Derived.Test.YtmaphlbmmemgcaaPlX
namespace Go.Proofs.Ytmaphlbmmemgcaa
open Go.RowKit

def toF (to : List Int) (r : Int) : Int := to.getD r.toNat 0
/-- A list has each register once. -/
def isOrd (to : List Int) : Bool := decide (to.length = 4) && ([0, 1, 2, 3] : List Int).all fun r => to.contains r
def perms4 : List (List Int) := [[0,1,2,3],[0,1,3,2],[0,2,1,3],[0,2,3,1],[0,3,1,2],[0,3,2,1],[1,0,2,3],[1,0,3,2],[1,2,0,3],[1,2,3,0],[1,3,0,2],[1,3,2,0],[2,0,1,3],[2,0,3,1],[2,1,0,3],[2,1,3,0],[2,3,0,1],[2,3,1,0],[3,0,1,2],[3,0,2,1],[3,1,0,2],[3,1,2,0],[3,2,0,1],[3,2,1,0]]
theorem isOrd_perms {to : List Int} (h : isOrd to = true) : to ∈ perms4 := by
  unfold isOrd at h
  simp only [Bool.and_eq_true, decide_eq_true_eq] at h
  obtain ⟨hl, h⟩ := h
  match to, hl with
  | [a, b, c, d], _ =>
    simp at h
    obtain ⟨h0, h1, h2, h3⟩ := h
    rcases h0 with rfl | rfl | rfl | rfl <;> rcases h1 with h1 | h1 | h1 | h1 <;> (first | cases h1 | subst h1) <;> rcases h2 with h2 | h2 | h2 | h2 <;> (first | cases h2 | subst h2) <;> rcases h3 with h3 | h3 | h3 | h3 <;> (first | cases h3 | subst h3) <;> decide
theorem perms_isOrd : ∀ to ∈ perms4, isOrd to = true := by decide
theorem toF_reg {to : List Int} (h : isOrd to = true) {r : Int} (h0 : 0 ≤ r) (h3 : r ≤ 3) : 0 ≤ toF to r ∧ toF to r ≤ 3 := by
  have key : ∀ to ∈ perms4, (0 ≤ toF to 0 ∧ toF to 0 ≤ 3) ∧ (0 ≤ toF to 1 ∧ toF to 1 ≤ 3) ∧ (0 ≤ toF to 2 ∧ toF to 2 ≤ 3) ∧ (0 ≤ toF to 3 ∧ toF to 3 ≤ 3) := by decide
  obtain ⟨k0, k1, k2, k3⟩ := key to (isOrd_perms h)
  have hr : r = 0 ∨ r = 1 ∨ r = 2 ∨ r = 3 := by omega
  rcases hr with rfl | rfl | rfl | rfl
  · exact k0
  · exact k1
  · exact k2
  · exact k3
theorem toF_inj {to : List Int} (h : isOrd to = true) {r q : Int} (h0 : 0 ≤ r) (h3 : r ≤ 3) (q0 : 0 ≤ q) (q3 : q ≤ 3) (e : toF to r = toF to q) : r = q := by
  have key : ∀ to ∈ perms4, toF to 0 ≠ toF to 1 ∧ toF to 0 ≠ toF to 2 ∧ toF to 0 ≠ toF to 3 ∧ toF to 1 ≠ toF to 2 ∧ toF to 1 ≠ toF to 3 ∧ toF to 2 ≠ toF to 3 := by decide
  obtain ⟨k0, k1, k2, k3, k4, k5⟩ := key to (isOrd_perms h)
  have hr : r = 0 ∨ r = 1 ∨ r = 2 ∨ r = 3 := by omega
  have hq : q = 0 ∨ q = 1 ∨ q = 2 ∨ q = 3 := by omega
  rcases hr with rfl | rfl | rfl | rfl <;> rcases hq with rfl | rfl | rfl | rfl <;> first | rfl | (exfalso; first | exact k0 e | exact k1 e | exact k2 e | exact k3 e | exact k4 e | exact k5 e | exact k0 e.symm | exact k1 e.symm | exact k2 e.symm | exact k3 e.symm | exact k4 e.symm | exact k5 e.symm)

/-- A line with other registers. -/
def renL (to : List Int) (l : Ln) : Ln := ⟨l.op, if wrB l.op then toF to l.d else l.d, if 2 ≤ l.op then toF to l.a else l.a, if 3 ≤ l.op then toF to l.b else l.b⟩
def renP (p : List Ln) (to : List Int) : List Ln := p.map (renL to)
/-- A state with other registers. -/
def movN (s to : List Int) (k : Nat) : List Int := (List.range k).foldl (fun (o : List Int) (r : Nat) => o.set (toF to (r : Int)).toNat (s.getD r 0)) (List.replicate s.length 0)
def movL (s to : List Int) : List Int := movN s to s.length
theorem movN_succ (s to : List Int) (k : Nat) : movN s to (k + 1) = (movN s to k).set (toF to k).toNat (s.getD k 0) := by
  unfold movN; rw [List.range_succ, List.foldl_append]; rfl
theorem movN_zero (s to : List Int) : movN s to 0 = List.replicate s.length 0 := rfl
theorem movN_length (s to : List Int) : ∀ k, (movN s to k).length = s.length
  | 0 => by simp [movN_zero]
  | k + 1 => by rw [movN_succ, List.length_set, movN_length s to k]

/-- Two states, the second with other registers. -/
def RelS (to : List Int) (s t : St) : Prop := t.get (toF to 0) = s.r0 ∧ t.get (toF to 1) = s.r1 ∧ t.get (toF to 2) = s.r2 ∧ t.get (toF to 3) = s.r3
theorem RelS.get {to : List Int} {s t : St} (h : RelS to s t) {r : Int} (h0 : 0 ≤ r) (h3 : r ≤ 3) : t.get (toF to r) = s.get r := by
  obtain ⟨k0, k1, k2, k3⟩ := h
  have hr : r = 0 ∨ r = 1 ∨ r = 2 ∨ r = 3 := by omega
  rcases hr with rfl | rfl | rfl | rfl
  · exact k0
  · exact k1
  · exact k2
  · exact k3
theorem RelS.of_get {to : List Int} {s t : St} (h : ∀ r, 0 ≤ r → r ≤ 3 → t.get (toF to r) = s.get r) : RelS to s t := ⟨h 0 (by omega) (by omega), h 1 (by omega) (by omega), h 2 (by omega) (by omega), h 3 (by omega) (by omega)⟩
theorem RelS.set {to : List Int} (ho : isOrd to = true) {s t : St} (h : RelS to s t) {d : Int} (h0 : 0 ≤ d) (h3 : d ≤ 3) (n : Int) : RelS to (s.set d n) (t.set (toF to d) n) := by
  refine .of_get fun r r0 r3 => ?_
  obtain ⟨d0, d3⟩ := toF_reg ho h0 h3
  by_cases e : r = d
  · subst e; rw [St.get_set_eq _ _ _ d0 d3, St.get_set_eq _ _ _ r0 r3]
  · obtain ⟨q0, q3⟩ := toF_reg ho r0 r3
    rw [St.get_set_ne _ _ _ _ (fun e2 => e (toF_inj ho h0 h3 r0 r3 e2).symm) d0 d3 q0 q3, St.get_set_ne _ _ _ _ (fun e2 => e e2.symm) h0 h3 r0 r3]
    exact h.get r0 r3
theorem RelS.mov {to : List Int} (ho : isOrd to = true) {s t : St} (h : RelS to s t) : movL s.toL to = t.toL := by
  have hp := isOrd_perms ho
  obtain ⟨k0, k1, k2, k3⟩ := h
  obtain ⟨s0, s1, s2, s3⟩ := s
  obtain ⟨t0, t1, t2, t3⟩ := t
  simp only [perms4, List.mem_cons, List.not_mem_nil, or_false] at hp
  rcases hp with rfl | rfl | rfl | rfl | rfl | rfl | rfl | rfl | rfl | rfl | rfl | rfl | rfl | rfl | rfl | rfl | rfl | rfl | rfl | rfl | rfl | rfl | rfl | rfl <;> (simp [toF, St.get] at k0 k1 k2 k3; subst k0 k1 k2 k3; rfl)
/-- The other state is there. -/
theorem RelS.exists {to : List Int} (ho : isOrd to = true) (s : St) : ∃ t, RelS to s t ∧ movL s.toL to = t.toL ∧ (s.fine → t.fine) := by
  have hp := isOrd_perms ho
  refine ⟨St.ofL (movL s.toL to), ?_, ?_, ?_⟩
  all_goals
    obtain ⟨s0, s1, s2, s3⟩ := s
    simp only [perms4, List.mem_cons, List.not_mem_nil, or_false] at hp
    rcases hp with rfl | rfl | rfl | rfl | rfl | rfl | rfl | rfl | rfl | rfl | rfl | rfl | rfl | rfl | rfl | rfl | rfl | rfl | rfl | rfl | rfl | rfl | rfl | rfl
  all_goals first | rfl | exact ⟨rfl, rfl, rfl, rfl⟩ | (intro hf; simp [St.fine, St.ofL, St.toL, movL, movN, toF, List.range_succ] at hf ⊢; omega)

theorem ren_step {to : List Int} (ho : isOrd to = true) {l : Ln} (hl : l.ok = true) (i : Nat) {s t : St} (h : RelS to s t) : RelS to (stepS noF l i s) (stepS noF (renL to l) i t) ∧ nextI (renL to l) i t = nextI l i s := by
  have hrg := rd_reg hl
  obtain ⟨o0, o7, _, _⟩ := ok_rd (op := l.op) (d := l.d) (a := l.a) (b := l.b) hl
  obtain ⟨oa, ob⟩ := ok_args (op := l.op) (d := l.d) (a := l.a) (b := l.b) hl
  constructor
  · cases hw : wrB l.op with
    | false => rw [stepS_of_not hw, stepS_of_not (show wrB (renL to l).op = false from hw)]; exact h
    | true =>
      obtain ⟨d0, d3⟩ := wr_reg hl hw
      have hw2 : wrB (renL to l).op = true := hw
      rw [stepS_of_wr hw, stepS_of_wr hw2]
      have e1 : (renL to l).d = toF to l.d := by simp [renL, hw]
      have e2 : opV (renL to l).op (renL to l).a (t.get (renL to l).a) (t.get (renL to l).b) = opV l.op l.a (s.get l.a) (s.get l.b) := by
        obtain ⟨w1, w6⟩ := inB_true.1 (show inB l.op 1 6 = true from hw)
        by_cases h1 : l.op = 1
        · simp [renL, h1, opV]
        · have a0 := oa (by omega)
          have ea : (renL to l).a = toF to l.a := by simp [renL]; omega
          have ga := h.get a0.1 a0.2
          by_cases h2 : l.op = 2
          · rw [ea, ga]; simp [renL, h2, opV]
          · have b0 := ob (by omega)
            have eb : (renL to l).b = toF to l.b := by simp [renL]; omega
            rw [ea, eb, ga, h.get b0.1 b0.2]
            unfold opV
            rw [show (renL to l).op = l.op from rfl, if_neg h1, if_neg h1]
      rw [e1, e2]
      exact h.set ho d0 d3 _
  · by_cases h7 : l.op = 7
    · have a0 := oa (by omega)
      have b0 := ob (by omega)
      have hw : wrB l.op = false := by rw [h7]; rfl
      have e1 : (renL to l).d = l.d := by simp [renL, hw]
      have ea : (renL to l).a = toF to l.a := by simp [renL, h7]
      have eb : (renL to l).b = toF to l.b := by simp [renL, h7]
      unfold nextI
      rw [e1, ea, eb, h.get a0.1 a0.2, h.get b0.1 b0.2]
      rfl
    · unfold nextI
      rw [if_neg (fun e => h7 e.1), if_neg (fun e => h7 e.1)]
theorem endS_ren {to : List Int} (ho : isOrd to = true) {p : List Ln} (hok : ∀ l ∈ p, l.ok = true) : ∀ (n i : Nat) (s t : St), p.length ≤ i + n → RelS to s t → RelS to (endS p i s) (endS (renP p to) i t)
  | 0, i, s, t, h, hr => by rw [endS_end (by omega), endS_end (by simp [renP]; omega)]; exact hr
  | n + 1, i, s, t, h, hr => by
    cases hl : p[i]? with
    | none =>
      have := List.getElem?_eq_none_iff.1 hl
      rw [endS_end this, endS_end (by simp [renP]; omega)]; exact hr
    | some l =>
      have hl2 : (renP p to)[i]? = some (renL to l) := by simp [renP, hl]
      have := nextI_gt l i s
      obtain ⟨k1, k2⟩ := ren_step ho (hok l (List.mem_of_getElem? hl)) i hr
      rw [endS_step hl, endS_step hl2, k2]
      exact endS_ren ho hok n _ _ _ (by omega) k1
theorem valP_ren {to : List Int} (ho : isOrd to = true) {p : List Ln} (h : valP p = 0) : valP (renP p to) = 0 := by
  obtain ⟨h1, h2⟩ := valP_ok.1 h
  refine valP_ok.2 ⟨by simpa [renP] using h1, fun x hx => ?_⟩
  obtain ⟨l, hl, rfl⟩ := List.mem_map.1 hx
  have hok := h2 l hl
  obtain ⟨o0, o7, od, _⟩ := ok_rd (op := l.op) (d := l.d) (a := l.a) (b := l.b) hok
  obtain ⟨oa, ob⟩ := ok_args (op := l.op) (d := l.d) (a := l.a) (b := l.b) hok
  obtain ⟨op, d, a, b⟩ := l
  have fa : 2 ≤ op → 0 ≤ toF to a ∧ toF to a ≤ 3 := fun g => toF_reg ho (oa g).1 (oa g).2
  have fb : 3 ≤ op → 0 ≤ toF to b ∧ toF to b ≤ 3 := fun g => toF_reg ho (ob g).1 (ob g).2
  have fd : wrB op = true → 0 ≤ toF to d ∧ toF to d ≤ 3 := fun g => toF_reg ho (od g).1 (od g).2
  dsimp only at *
  have ho' : op = 0 ∨ op = 1 ∨ op = 2 ∨ op = 3 ∨ op = 4 ∨ op = 5 ∨ op = 6 ∨ op = 7 := by omega
  unfold Ln.ok vL at hok ⊢
  rcases ho' with rfl | rfl | rfl | rfl | rfl | rfl | rfl | rfl <;> simp [renL, wrB, inB_def] at * <;> omega
theorem runM_ren {to : List Int} (ho : isOrd to = true) {p : List Ln} (h : valP p = 0) {s : List Int} (hs : valS s = 0) : runM (renP p to) (movL s to) = movL (runM p s) to := by
  obtain ⟨q, rfl, hq⟩ := St.of_valS hs
  obtain ⟨t, ht, e, _⟩ := RelS.exists ho q
  rw [runM_eq, runM_eq, e, St.ofL_toL, St.ofL_toL]
  exact ((endS_ren ho (valP_ok.1 h).2 _ 0 q t (Nat.le_add_left _ _) ht).mov ho).symm
theorem valS_mov {to : List Int} (ho : isOrd to = true) {s : List Int} (hs : valS s = 0) : valS (movL s to) = 0 := by
  obtain ⟨q, rfl, hq⟩ := St.of_valS hs
  obtain ⟨t, ht, e, hf⟩ := RelS.exists ho q
  rw [e]
  exact valS_of_fine (hf hq)
end Go.Proofs.Ytmaphlbmmemgcaa
