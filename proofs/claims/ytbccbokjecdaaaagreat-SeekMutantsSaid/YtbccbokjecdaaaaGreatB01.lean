/-
The plain functions of the document's answer to layer 1. No program is named.
The plain law of CodeJoins: two programs one after the other run one after the other. No program is named.
The plain functions behind layer 1: independent lines. No program is named.
The plain law of CodeExchanges: a program with two lines exchanged that are independent runs the same. No program is named.
The plain law of CodeSteps: what a run does from one line that is done to the next one. No program is named.
The plain functions behind layer 5: the order of lines, and templates. No program is named.
-/
import Derived.Test.YtbccbokjecdaaaaGreatB00
namespace Go.Proofs.YtbccbokjecdaaaaGreat
open Go.RowKit

def encT (b : Bool) : List Value := [.bool b]
theorem encT_len (b : Bool) : (encT b).length = 1 := rfl
abbrev BoolsAt (w : World) (v : Value) (bs : List Bool) : Prop := SlcAt 1 encT w v bs
theorem bools_cell {w : World} {b o : Nat} {xs : List Bool} (hc : ∀ j x, xs[j]? = some x → ∀ i u, (encT x)[i]? = some u → w.cell? ⟨b, o + j * 1 + i, none⟩ = some u) (j : Nat) (x : Bool) (h : xs[j]? = some x) : w.cell? ⟨b, o + j, none⟩ = some (.bool x) := by
  simpa using hc j x h 0 _ rfl

/-- The numbers of what is true, up to k. -/
def setN (bs : List Bool) (k : Nat) : List Int := ((List.range k).filter fun i => bs.getD i false).map Int.ofNat
def setL (bs : List Bool) : List Int := setN bs bs.length
theorem setN_zero (bs : List Bool) : setN bs 0 = [] := rfl
theorem setN_true {bs : List Bool} {k : Nat} (h : bs[k]? = some true) : setN bs (k + 1) = setN bs k ++ [(k : Int)] := by
  simp [setN, List.range_succ, List.filter_append, List.getD_eq_getElem?_getD, h]
theorem setN_false {bs : List Bool} {k : Nat} (h : bs[k]? = some false) : setN bs (k + 1) = setN bs k := by
  simp [setN, List.range_succ, List.filter_append, List.getD_eq_getElem?_getD, h]
theorem setN_len (bs : List Bool) (k : Nat) : (setN bs k).length ≤ k := by
  unfold setN
  rw [List.length_map]
  exact Nat.le_trans (List.length_filter_le _ _) (by simp)

/-- Which registers a line reads. -/
def rdM (op a b : Int) : Ms := (if 3 ≤ op then (if 2 ≤ op then (Ms.set ⟨false, false, false, false⟩ a true) else ⟨false, false, false, false⟩).set b true else if 2 ≤ op then Ms.set ⟨false, false, false, false⟩ a true else ⟨false, false, false, false⟩)
def Ms.toL (m : Ms) : List Bool := [m.b0, m.b1, m.b2, m.b3]
theorem set_rdM (op a b : Int) (h2 : 2 ≤ op → 0 ≤ a ∧ a ≤ 3) (h3 : 3 ≤ op → 0 ≤ b ∧ b ≤ 3) : setL (rdM op a b).toL = rdL op a b := by
  by_cases h : 3 ≤ op
  · obtain ⟨a0, a3⟩ := h2 (by omega)
    obtain ⟨b0, b3⟩ := h3 h
    have e1 : rdL op a b = two a b := by unfold rdL; rw [if_neg (by omega), if_pos (by omega)]
    have e2 : rdM op a b = (Ms.set ⟨false, false, false, false⟩ a true).set b true := by unfold rdM; rw [if_pos h, if_pos (by omega)]
    rw [e1, e2]
    have : a = 0 ∨ a = 1 ∨ a = 2 ∨ a = 3 := by omega
    have : b = 0 ∨ b = 1 ∨ b = 2 ∨ b = 3 := by omega
    rcases ‹a = 0 ∨ _› with rfl | rfl | rfl | rfl <;> rcases ‹b = 0 ∨ _› with rfl | rfl | rfl | rfl <;> decide
  · by_cases g : 2 ≤ op
    · obtain ⟨a0, a3⟩ := h2 g
      have e1 : rdL op a b = [a] := by unfold rdL; rw [if_pos (by omega)]
      have e2 : rdM op a b = Ms.set ⟨false, false, false, false⟩ a true := by unfold rdM; rw [if_neg h, if_pos g]
      rw [e1, e2]
      have : a = 0 ∨ a = 1 ∨ a = 2 ∨ a = 3 := by omega
      rcases this with rfl | rfl | rfl | rfl <;> decide
    · have e1 : rdL op a b = [] := by unfold rdL; rw [if_neg (by omega), if_neg h]
      have e2 : rdM op a b = ⟨false, false, false, false⟩ := by unfold rdM; rw [if_neg h, if_neg g]
      rw [e1, e2]; decide
theorem ok_args {op d a b : Int} (h : vL op d a b = true) : (2 ≤ op → 0 ≤ a ∧ a ≤ 3) ∧ (3 ≤ op → 0 ≤ b ∧ b ≤ 3) := by
  unfold vL at h
  simp only [inB_def] at h
  split at h
  · exact ⟨fun _ => by omega, fun _ => by omega⟩
  · split at h
    · exact ⟨fun _ => by omega, fun _ => by omega⟩
    · split at h
      · simp at h; exact ⟨fun _ => by omega, fun _ => by omega⟩
      · split at h
        · simp at h; exact ⟨fun _ => by omega, fun _ => by omega⟩
        · split at h
          · simp at h; exact ⟨fun _ => by omega, fun _ => by omega⟩
          · cases h
theorem wrB_of_ok {op d a b : Int} (h : vL op d a b = true) : (!(op == 0) && !(op == 7)) = wrB op := by
  obtain ⟨h0, h7, _⟩ := ok_rd (show Ln.ok ⟨op, d, a, b⟩ = true from h)
  by_cases e0 : op = 0
  · subst e0; rfl
  · by_cases e7 : op = 7
    · subst e7; rfl
    · have : wrB op = true := by unfold wrB; rw [inB_true]; omega
      rw [this]; simp [e0, e7]
end Go.Proofs.YtbccbokjecdaaaaGreat

namespace Go.Proofs.YtbccbokjecdaaaaGreat
open Go.RowKit

/-- The state at the end of a run from a line on. -/
def endS (p : List Ln) (i : Nat) (s : St) : St := (trc p noF i s).2
theorem endS_end {p : List Ln} {i : Nat} {s : St} (h : p.length ≤ i) : endS p i s = s := by unfold endS; rw [trc_end h]
theorem endS_step {p : List Ln} {i : Nat} {s : St} {l : Ln} (h : p[i]? = some l) : endS p i s = endS p (nextI l i s) (stepS noF l i s) := by unfold endS; rw [trc_step h]
theorem stepS_noF (l : Ln) (i j : Nat) (s : St) : stepS noF l i s = stepS noF l j s := rfl
theorem runM_eq (p : List Ln) (s : List Int) : runM p s = (endS p 0 (St.ofL s)).toL := rfl
theorem endS_fineN (p : List Ln) : ∀ (n i : Nat) (s : St), p.length ≤ i + n → s.fine → (endS p i s).fine
  | 0, i, s, h, hs => by rw [endS_end (by omega)]; exact hs
  | n + 1, i, s, h, hs => by
    cases hl : p[i]? with
    | none => rw [endS_end (List.getElem?_eq_none_iff.1 hl)]; exact hs
    | some l =>
      rw [endS_step hl]
      have := nextI_gt l i s
      exact endS_fineN p n _ _ (by omega) (stepS_fine _ _ _ hs)
theorem endS_fine (p : List Ln) (s : St) (hs : s.fine) : (endS p 0 s).fine := endS_fineN p _ 0 s (Nat.le_add_left _ _) hs
theorem valS_of_fine {s : St} (h : s.fine) : valS s.toL = 0 := by
  obtain ⟨h0, h1, h2, h3⟩ := h
  refine valS_ok.2 ⟨rfl, fun n hn => ?_⟩
  simp [St.toL] at hn
  rcases hn with rfl | rfl | rfl | rfl
  · exact h0
  · exact h1
  · exact h2
  · exact h3
theorem valS_runM (p : List Ln) (s : List Int) (h : valS s = 0) : valS (runM p s) = 0 := by
  obtain ⟨q, rfl, hq⟩ := St.of_valS h
  rw [runM_eq, St.ofL_toL]
  exact valS_of_fine (endS_fine p q hq)

theorem endS_shift (p q : List Ln) : ∀ (n j : Nat) (s : St), q.length ≤ j + n → endS (p ++ q) (p.length + j) s = endS q j s
  | 0, j, s, h => by rw [endS_end (by simp; omega), endS_end (by omega)]
  | n + 1, j, s, h => by
    cases hl : q[j]? with
    | none =>
      have : q.length ≤ j := List.getElem?_eq_none_iff.1 hl
      rw [endS_end (by simp; omega), endS_end this]
    | some l =>
      have hl2 : (p ++ q)[p.length + j]? = some l := by rw [List.getElem?_append_right (by omega)]; simpa using hl
      rw [endS_step hl, endS_step hl2, stepS_noF l (p.length + j) j]
      have e : nextI l (p.length + j) s = p.length + nextI l j s := by unfold nextI; split <;> omega
      have := nextI_gt l j s
      rw [e]
      exact endS_shift p q n _ _ (by omega)

theorem endS_join (p q : List Ln) (hs : ∀ i l, p[i]? = some l → l.op = 7 → i + 1 + l.d.toNat ≤ p.length) : ∀ (n i : Nat) (s : St), p.length ≤ i + n → i ≤ p.length → endS (p ++ q) i s = endS q 0 (endS p i s)
  | 0, i, s, h, h2 => by
    obtain rfl : i = p.length := by omega
    rw [endS_end (p := p) (Nat.le_refl _)]
    exact endS_shift p q _ 0 s (Nat.le_add_left _ _)
  | n + 1, i, s, h, h2 => by
    cases hl : p[i]? with
    | none =>
      have : p.length ≤ i := List.getElem?_eq_none_iff.1 hl
      obtain rfl : i = p.length := by omega
      rw [endS_end (p := p) (Nat.le_refl _)]
      exact endS_shift p q _ 0 s (Nat.le_add_left _ _)
    | some l =>
      have hlt : i < p.length := (List.getElem?_eq_some_iff.1 hl).1
      have hl2 : (p ++ q)[i]? = some l := by rw [List.getElem?_append_left hlt]; exact hl
      rw [endS_step hl, endS_step hl2]
      have := nextI_gt l i s
      refine endS_join p q hs n _ _ (by omega) ?_
      unfold nextI
      split
      · next h7 => exact hs i l hl h7.1
      · omega
theorem runM_join (p q : List Ln) (s : List Int) (hs : ∀ i l, p[i]? = some l → l.op = 7 → i + 1 + l.d.toNat ≤ p.length) : runM (p ++ q) s = runM q (runM p s) := by
  rw [runM_eq, runM_eq, runM_eq, endS_join p q hs _ 0 _ (Nat.le_add_left _ _) (Nat.zero_le _), St.ofL_toL]
theorem valP_join {p q : List Ln} (h1 : valP p = 0) (h2 : valP q = 0) (h3 : p.length + q.length ≤ 8) : valP (p ++ q) = 0 := by
  refine valP_ok.2 ⟨by simpa using h3, fun l hl => ?_⟩
  rcases List.mem_append.1 hl with h | h
  · exact (valP_ok.1 h1).2 l h
  · exact (valP_ok.1 h2).2 l h
end Go.Proofs.YtbccbokjecdaaaaGreat

namespace Go.Proofs.YtbccbokjecdaaaaGreat
open Go.RowKit

def tch (l m : Ln) : Bool := wrB l.op && ((wrB m.op && m.d == l.d) || (rdL m.op m.a m.b).contains l.d)
def ind (l m : Ln) : Bool := !(l.op == 7) && !(m.op == 7) && !tch l m && !tch m l
/-- What Independent answers. -/
def indE (l m : Ln) : Int := if l.ok then errB m.ok else 1
def indB (l m : Ln) : Bool := l.ok && m.ok && ind l m
def rtch (l : Ln) (r : Int) : Bool := (rdM l.op l.a l.b).get r || (wrB l.op && l.d == r)
theorem get_rdM {l : Ln} (h : l.ok = true) (r : Int) (h0 : 0 ≤ r) (h3 : r ≤ 3) : (rdM l.op l.a l.b).get r = (rdL l.op l.a l.b).contains r := by
  obtain ⟨op, d, a, b⟩ := l
  obtain ⟨g2, g3⟩ := ok_args (op := op) (d := d) (a := a) (b := b) h
  dsimp only
  have hr : r = 0 ∨ r = 1 ∨ r = 2 ∨ r = 3 := by omega
  by_cases h : 3 ≤ op
  · obtain ⟨a0, a3⟩ := g2 (by omega)
    obtain ⟨b0, b3⟩ := g3 h
    have e1 : rdL op a b = two a b := by unfold rdL; rw [if_neg (by omega), if_pos (by omega)]
    have e2 : rdM op a b = (Ms.set ⟨false, false, false, false⟩ a true).set b true := by unfold rdM; rw [if_pos h, if_pos (by omega)]
    rw [e1, e2]
    have ha : a = 0 ∨ a = 1 ∨ a = 2 ∨ a = 3 := by omega
    have hb : b = 0 ∨ b = 1 ∨ b = 2 ∨ b = 3 := by omega
    rcases ha with rfl | rfl | rfl | rfl <;> rcases hb with rfl | rfl | rfl | rfl <;> rcases hr with rfl | rfl | rfl | rfl <;> decide
  · by_cases g : 2 ≤ op
    · obtain ⟨a0, a3⟩ := g2 g
      have e1 : rdL op a b = [a] := by unfold rdL; rw [if_pos (by omega)]
      have e2 : rdM op a b = Ms.set ⟨false, false, false, false⟩ a true := by unfold rdM; rw [if_neg h, if_pos g]
      rw [e1, e2]
      have ha : a = 0 ∨ a = 1 ∨ a = 2 ∨ a = 3 := by omega
      rcases ha with rfl | rfl | rfl | rfl <;> rcases hr with rfl | rfl | rfl | rfl <;> decide
    · have e1 : rdL op a b = [] := by unfold rdL; rw [if_neg (by omega), if_neg h]
      have e2 : rdM op a b = ⟨false, false, false, false⟩ := by unfold rdM; rw [if_neg h, if_neg g]
      rw [e1, e2]
      rcases hr with rfl | rfl | rfl | rfl <;> decide
theorem wr_reg {l : Ln} (h : l.ok = true) (hw : wrB l.op = true) : 0 ≤ l.d ∧ l.d ≤ 3 := (ok_rd (op := l.op) (d := l.d) (a := l.a) (b := l.b) h).2.2.1 hw
/-- The document's way to say it. -/
theorem tch_eq {l m : Ln} (hl : l.ok = true) (hm : m.ok = true) : (wrB l.op && rtch m l.d) = tch l m := by
  cases hw : wrB l.op with
  | false => simp [tch, hw]
  | true =>
    obtain ⟨h0, h3⟩ := wr_reg hl hw
    unfold tch rtch
    rw [hw, get_rdM hm _ h0 h3, Bool.or_comm]
theorem ind_comm (l m : Ln) : ind l m = ind m l := by
  unfold ind
  cases (l.op == 7) <;> cases (m.op == 7) <;> cases tch l m <;> cases tch m l <;> rfl
theorem indB_comm (l m : Ln) : indB l m = indB m l := by unfold indB; rw [ind_comm l m, Bool.and_comm l.ok m.ok]
theorem indE_comm (l m : Ln) : indE l m = indE m l := by
  unfold indE
  cases l.ok <;> cases m.ok <;> rfl
end Go.Proofs.YtbccbokjecdaaaaGreat

namespace Go.Proofs.YtbccbokjecdaaaaGreat
open Go.RowKit

theorem St.get_set_ne (s : St) (d r n : Int) (h : d ≠ r) (d0 : 0 ≤ d) (d3 : d ≤ 3) (r0 : 0 ≤ r) (r3 : r ≤ 3) : (s.set d n).get r = s.get r := by
  have hd : d = 0 ∨ d = 1 ∨ d = 2 ∨ d = 3 := by omega
  have hr : r = 0 ∨ r = 1 ∨ r = 2 ∨ r = 3 := by omega
  rcases hd with rfl | rfl | rfl | rfl <;> rcases hr with rfl | rfl | rfl | rfl <;> first | rfl | exact absurd rfl h
theorem St.get_set_eq (s : St) (d n : Int) (d0 : 0 ≤ d) (d3 : d ≤ 3) : (s.set d n).get d = n := by
  have hd : d = 0 ∨ d = 1 ∨ d = 2 ∨ d = 3 := by omega
  rcases hd with rfl | rfl | rfl | rfl <;> rfl
theorem St.set_comm (s : St) (d r n m : Int) (h : d ≠ r) (d0 : 0 ≤ d) (d3 : d ≤ 3) (r0 : 0 ≤ r) (r3 : r ≤ 3) : (s.set d n).set r m = (s.set r m).set d n := by
  have hd : d = 0 ∨ d = 1 ∨ d = 2 ∨ d = 3 := by omega
  have hr : r = 0 ∨ r = 1 ∨ r = 2 ∨ r = 3 := by omega
  rcases hd with rfl | rfl | rfl | rfl <;> rcases hr with rfl | rfl | rfl | rfl <;> first | rfl | exact absurd rfl h
theorem mem_two_a (a b : Int) : a ∈ two a b := by unfold two; split <;> (try split) <;> simp
theorem mem_two_b (a b : Int) : b ∈ two a b := by
  unfold two; split
  · next h => simp [h]
  · split <;> simp
/-- What a line makes depends on what it reads. -/
theorem opV_congr {op a b : Int} {s t : St} (hw : wrB op = true) (h : ∀ r ∈ rdL op a b, s.get r = t.get r) : opV op a (s.get a) (s.get b) = opV op a (t.get a) (t.get b) := by
  obtain ⟨w1, w6⟩ := inB_true.1 (show inB op 1 6 = true from hw)
  by_cases h1 : op = 1
  · subst h1; rfl
  · by_cases h2 : op = 2
    · subst h2
      have := h a (by simp [rdL])
      simpa [opV] using this
    · have e : rdL op a b = two a b := by unfold rdL; rw [if_neg h2, if_pos (by omega)]
      rw [e] at h
      rw [h a (mem_two_a a b), h b (mem_two_b a b)]
theorem stepS_of_wr {l : Ln} {i : Nat} {s : St} (h : wrB l.op = true) : stepS noF l i s = s.set l.d (cut (opV l.op l.a (s.get l.a) (s.get l.b))) := by
  unfold stepS; rw [if_pos h]; rfl
theorem stepS_of_not {l : Ln} {i : Nat} {s : St} (h : wrB l.op = false) : stepS noF l i s = s := by
  unfold stepS; rw [if_neg (by rw [h]; simp)]
theorem tch_false {l m : Ln} (h : tch l m = false) (hw : wrB l.op = true) : (wrB m.op = true → m.d ≠ l.d) ∧ l.d ∉ rdL m.op m.a m.b := by
  unfold tch at h
  rw [hw] at h
  simp at h
  exact ⟨h.1, h.2⟩
theorem rd_reg {l : Ln} (h : l.ok = true) : ∀ r ∈ rdL l.op l.a l.b, 0 ≤ r ∧ r ≤ 3 := (ok_rd (op := l.op) (d := l.d) (a := l.a) (b := l.b) h).2.2.2
theorem stepS_comm {l m : Ln} (hl : l.ok = true) (hm : m.ok = true) (hi : ind l m = true) (i j : Nat) (s : St) : stepS noF m j (stepS noF l i s) = stepS noF l i (stepS noF m j s) := by
  unfold ind at hi
  simp at hi
  obtain ⟨⟨_, t1⟩, t2⟩ := hi
  cases hwl : wrB l.op with
  | false => rw [stepS_of_not hwl, stepS_of_not hwl]
  | true =>
    cases hwm : wrB m.op with
    | false => rw [stepS_of_not hwm, stepS_of_not hwm]
    | true =>
      obtain ⟨u1, u2⟩ := tch_false t1 hwl
      obtain ⟨v1, v2⟩ := tch_false t2 hwm
      obtain ⟨l0, l3⟩ := wr_reg hl hwl
      obtain ⟨m0, m3⟩ := wr_reg hm hwm
      rw [stepS_of_wr hwl, stepS_of_wr hwm, stepS_of_wr hwm, stepS_of_wr hwl]
      have hne : l.d ≠ m.d := fun e => u1 hwm e.symm
      rw [St.set_comm s l.d m.d _ _ hne l0 l3 m0 m3]
      congr 2
      · congr 1
        refine opV_congr hwm fun r hr => ?_
        obtain ⟨r0, r3⟩ := rd_reg hm r hr
        exact St.get_set_ne _ _ _ _ (fun e => u2 (e ▸ hr)) l0 l3 r0 r3
      · refine (opV_congr hwl fun r hr => ?_).symm
        obtain ⟨r0, r3⟩ := rd_reg hl r hr
        exact St.get_set_ne _ _ _ _ (fun e => v2 (e ▸ hr)) m0 m3 r0 r3

/-- A program with two lines exchanged. -/
def exch (p : List Ln) (k : Nat) : List Ln := (p.set k (p.getD (k + 1) default)).set (k + 1) (p.getD k default)
theorem exch_length (p : List Ln) (k : Nat) : (exch p k).length = p.length := by simp [exch]
theorem exch_at {p : List Ln} {k : Nat} {m : Ln} (hm : p[k + 1]? = some m) : (exch p k)[k]? = some m := by
  have h1 : k + 1 < p.length := (List.getElem?_eq_some_iff.1 hm).1
  unfold exch
  rw [List.getElem?_set_ne (by omega), List.getElem?_set_self (by omega), List.getD_eq_getElem?_getD, hm]; rfl
theorem exch_at1 {p : List Ln} {k : Nat} {l m : Ln} (hl : p[k]? = some l) (hm : p[k + 1]? = some m) : (exch p k)[k + 1]? = some l := by
  have h1 : k + 1 < p.length := (List.getElem?_eq_some_iff.1 hm).1
  unfold exch
  rw [List.getElem?_set_self (by simpa using h1), List.getD_eq_getElem?_getD, hl]; rfl
theorem exch_ne {p : List Ln} {k i : Nat} (h : i ≠ k) (h1 : i ≠ k + 1) : (exch p k)[i]? = p[i]? := by
  unfold exch
  rw [List.getElem?_set_ne (by omega), List.getElem?_set_ne (by omega)]
theorem endS_exch {p : List Ln} {k : Nat} {l m : Ln} (hl : p[k]? = some l) (hm : p[k + 1]? = some m) (okl : l.ok = true) (okm : m.ok = true) (hi : ind l m = true)
    (hj : ∀ i x, p[i]? = some x → i < k → x.op = 7 → i + 1 + x.d.toNat ≠ k + 1) : ∀ (n i : Nat) (s : St), p.length ≤ i + n → i ≠ k + 1 → endS (exch p k) i s = endS p i s
  | 0, i, s, h, _ => by rw [endS_end (by rw [exch_length]; omega), endS_end (by omega)]
  | n + 1, i, s, h, hne => by
    by_cases hik : i = k
    · subst hik
      have n7 : l.op ≠ 7 ∧ m.op ≠ 7 := by unfold ind at hi; simp at hi; exact hi.1.1
      have q : ∀ (x : Ln) (j : Nat) (t : St), x.op ≠ 7 → nextI x j t = j + 1 := fun x j t h7 => by unfold nextI; rw [if_neg (fun e => h7 e.1)]
      rw [endS_step hl, q _ _ _ n7.1, endS_step hm, q _ _ _ n7.2, endS_step (exch_at hm), q _ _ _ n7.2, endS_step (exch_at1 hl hm), q _ _ _ n7.1, stepS_noF l (i + 1) i, ← stepS_comm okl okm hi i i]
      rw [stepS_noF m (i + 1) i]
      exact endS_exch hl hm okl okm hi hj n _ _ (by omega) (by omega)
    · cases hx : p[i]? with
      | none =>
        have := List.getElem?_eq_none_iff.1 hx
        rw [endS_end (by rw [exch_length]; omega), endS_end this]
      | some x =>
        have hx2 : (exch p k)[i]? = some x := by rw [exch_ne hik hne]; exact hx
        have := nextI_gt x i s
        rw [endS_step hx, endS_step hx2]
        refine endS_exch hl hm okl okm hi hj n _ _ (by omega) ?_
        by_cases hlt : i < k
        · unfold nextI
          split
          · next h7 => exact hj i x hx hlt h7.1
          · omega
        · omega
theorem runM_exch {p : List Ln} {k : Nat} {l m : Ln} (hl : p[k]? = some l) (hm : p[k + 1]? = some m) (okl : l.ok = true) (okm : m.ok = true) (hi : ind l m = true)
    (hj : ∀ i x, p[i]? = some x → i < k → x.op = 7 → i + 1 + x.d.toNat ≠ k + 1) (s : List Int) : runM (exch p k) s = runM p s := by
  rw [runM_eq, runM_eq, endS_exch hl hm okl okm hi hj _ 0 _ (Nat.le_add_left _ _) (by omega)]
theorem mem_exch {p : List Ln} {k : Nat} {l m : Ln} (hl : p[k]? = some l) (hm : p[k + 1]? = some m) {x : Ln} (h : x ∈ exch p k) : x ∈ p := by
  obtain ⟨i, hi⟩ := List.mem_iff_getElem?.1 h
  by_cases h1 : i = k
  · subst h1; rw [exch_at hm] at hi; cases hi; exact List.mem_of_getElem? hm
  · by_cases h2 : i = k + 1
    · subst h2; rw [exch_at1 hl hm] at hi; cases hi; exact List.mem_of_getElem? hl
    · rw [exch_ne h1 h2] at hi; exact List.mem_of_getElem? hi
theorem valP_exch {p : List Ln} {k : Nat} {l m : Ln} (hl : p[k]? = some l) (hm : p[k + 1]? = some m) (h : valP p = 0) : valP (exch p k) = 0 := by
  obtain ⟨h1, h2⟩ := valP_ok.1 h
  exact valP_ok.2 ⟨by rw [exch_length]; exact h1, fun x hx => h2 x (mem_exch hl hm hx)⟩
end Go.Proofs.YtbccbokjecdaaaaGreat

namespace Go.Proofs.YtbccbokjecdaaaaGreat
open Go.RowKit

/-- Strictly ascending. -/
def ascB (l : List Int) : Bool := (List.range (l.length - 1)).all fun k => decide (l.getD k 0 < l.getD (k + 1) 0)
theorem ascB_true {l : List Int} : ascB l = true ↔ ∀ k, k + 1 < l.length → l.getD k 0 < l.getD (k + 1) 0 := by
  unfold ascB
  simp only [List.all_eq_true, List.mem_range, decide_eq_true_eq]
  exact ⟨fun h k hk => h k (by omega), fun h k hk => h k (by omega)⟩
theorem ascB_false_at {l : List Int} {k : Nat} (hk : k + 1 < l.length) (h : l.getD (k + 1) 0 ≤ l.getD k 0) : ascB l = false := by
  cases e : ascB l with
  | false => rfl
  | true => have := ascB_true.1 e k hk; omega
theorem asc_lt {l : List Int} (h : ascB l = true) : ∀ (n j : Nat), j + n + 1 < l.length → l.getD j 0 < l.getD (j + n + 1) 0
  | 0, j, hj => ascB_true.1 h j hj
  | n + 1, j, hj => by
    have h1 := asc_lt h n j (by omega)
    have h2 := ascB_true.1 h (j + n + 1) (by omega)
    have e : j + (n + 1) + 1 = j + n + 1 + 1 := by omega
    rw [e]; omega
theorem asc_lt' {l : List Int} (h : ascB l = true) {j k : Nat} (hjk : j < k) (hk : k < l.length) : l.getD j 0 < l.getD k 0 := by
  have := asc_lt h (k - j - 1) j (by omega)
  rwa [show j + (k - j - 1) + 1 = k by omega] at this

/-- The visits of a run from a line on. -/
def visN (p : List Ln) (f : Nat → Option Int) (i : Nat) (s : St) : List (Nat × St) := (trc p f i s).1
theorem visN_end {p : List Ln} {f : Nat → Option Int} {i : Nat} {s : St} (h : p.length ≤ i) : visN p f i s = [] := by unfold visN; rw [trc_end h]
theorem visN_step {p : List Ln} {f : Nat → Option Int} {i : Nat} {s : St} {l : Ln} (h : p[i]? = some l) : visN p f i s = (i, s) :: visN p f (nextI l i s) (stepS f l i s) := by unfold visN; rw [trc_step h]
theorem end_end {p : List Ln} {f : Nat → Option Int} {i : Nat} {s : St} (h : p.length ≤ i) : (trc p f i s).2 = s := by rw [trc_end h]
theorem end_step {p : List Ln} {f : Nat → Option Int} {i : Nat} {s : St} {l : Ln} (h : p[i]? = some l) : (trc p f i s).2 = (trc p f (nextI l i s) (stepS f l i s)).2 := by rw [trc_step h]

theorem vis_ge (p : List Ln) (f : Nat → Option Int) : ∀ (n i : Nat) (s : St), p.length ≤ i + n → ∀ v ∈ visN p f i s, i ≤ v.1
  | 0, i, s, h, v, hv => by rw [visN_end (by omega)] at hv; cases hv
  | n + 1, i, s, h, v, hv => by
    cases hl : p[i]? with
    | none => rw [visN_end (List.getElem?_eq_none_iff.1 hl)] at hv; cases hv
    | some l =>
      have := nextI_gt l i s
      rw [visN_step hl] at hv
      rcases List.mem_cons.1 hv with rfl | hv
      · exact Nat.le_refl _
      · have := vis_ge p f n _ _ (by omega) v hv; omega
theorem vis_sorted (p : List Ln) (f : Nat → Option Int) : ∀ (n i : Nat) (s : St), p.length ≤ i + n → (visN p f i s).Pairwise fun a b => a.1 < b.1
  | 0, i, s, h => by rw [visN_end (by omega)]; exact List.Pairwise.nil
  | n + 1, i, s, h => by
    cases hl : p[i]? with
    | none => rw [visN_end (List.getElem?_eq_none_iff.1 hl)]; exact List.Pairwise.nil
    | some l =>
      have hgt := nextI_gt l i s
      rw [visN_step hl]
      refine List.Pairwise.cons ?_ (vis_sorted p f n _ _ (by omega))
      intro v hv
      have := vis_ge p f _ (nextI l i s) (stepS f l i s) (Nat.le_add_left _ _) v hv
      dsimp only; omega
/-- What stands behind a visit. -/
theorem vis_next (p : List Ln) (f : Nat → Option Int) : ∀ (n i : Nat) (s : St), p.length ≤ i + n →
    (visN p f i s = [] → (trc p f i s).2 = s) ∧ (∀ v, (visN p f i s)[0]? = some v → v = (i, s)) ∧
    ∀ j v l, (visN p f i s)[j]? = some v → p[v.1]? = some l → (∀ v', (visN p f i s)[j + 1]? = some v' → v' = (nextI l v.1 v.2, stepS f l v.1 v.2)) ∧ ((visN p f i s)[j + 1]? = none → (trc p f i s).2 = stepS f l v.1 v.2)
  | 0, i, s, h => by rw [visN_end (by omega)]; exact ⟨fun _ => end_end (by omega), fun v hv => by simp at hv, fun j v l hv => by simp at hv⟩
  | n + 1, i, s, h => by
    cases hl : p[i]? with
    | none =>
      have := List.getElem?_eq_none_iff.1 hl
      rw [visN_end this]; exact ⟨fun _ => end_end this, fun v hv => by simp at hv, fun j v l hv => by simp at hv⟩
    | some l =>
      have hgt := nextI_gt l i s
      obtain ⟨k1, k2, k3⟩ := vis_next p f n (nextI l i s) (stepS f l i s) (by omega)
      rw [visN_step hl, end_step hl]
      refine ⟨fun e => by simp at e, fun v hv => by simpa using hv.symm, fun j v l' hv hl' => ?_⟩
      cases j with
      | zero =>
        simp at hv
        subst hv
        dsimp only at hl' ⊢
        rw [hl] at hl'; cases hl'
        simp only [List.getElem?_cons_succ]
        exact ⟨fun v' hv' => k2 v' hv', fun hn => k1 (by simpa using hn)⟩
      | succ j =>
        simp only [List.getElem?_cons_succ] at hv ⊢
        exact k3 j v l' hv hl'

theorem visits_eq (p : List Ln) (s : List Int) : visits p s = visN p noF 0 (St.ofL s) := rfl
theorem visits_sorted (p : List Ln) (s : List Int) : (visits p s).Pairwise fun a b => a.1 < b.1 := vis_sorted p noF _ 0 _ (Nat.le_add_left _ _)
theorem visits_asc (p : List Ln) (s : List Int) {j k : Nat} {v u : Nat × St} (hv : (visits p s)[j]? = some v) (hu : (visits p s)[k]? = some u) (h : j < k) : v.1 < u.1 := by
  have key := List.pairwise_iff_getElem.1 (visits_sorted p s)
  obtain ⟨h1, rfl⟩ := List.getElem?_eq_some_iff.1 hv
  obtain ⟨h2, rfl⟩ := List.getElem?_eq_some_iff.1 hu
  exact key j k h1 h2 h
theorem doneM_length (p : List Ln) (s : List Int) : (doneM p s).length = (visits p s).length := by simp [doneM]
theorem doneM_at (p : List Ln) (s : List Int) {j : Nat} {v : Nat × St} (hv : (visits p s)[j]? = some v) : (doneM p s)[j]? = some (v.1 : Int) := by simp [doneM, hv]
theorem doneM_asc (p : List Ln) (s : List Int) : ascB (doneM p s) = true := by
  refine ascB_true.2 fun k hk => ?_
  rw [doneM_length] at hk
  have h1 := doneM_at p s (j := k) (List.getElem?_eq_getElem (show k < (visits p s).length by omega))
  have h2 := doneM_at p s (j := k + 1) (List.getElem?_eq_getElem hk)
  rw [List.getD_eq_getElem?_getD, List.getD_eq_getElem?_getD, h1, h2]
  have := visits_asc p s (List.getElem?_eq_getElem (show k < (visits p s).length by omega)) (List.getElem?_eq_getElem hk) (by omega)
  simp only [Option.getD_some]; omega
theorem find_first {q : Nat × St → Bool} : ∀ {vs : List (Nat × St)} {k : Nat} {x : Nat × St}, (∀ j v, j < k → vs[j]? = some v → q v = false) → vs[k]? = some x → q x = true → vs.find? q = some x
  | [], k, x, _, hx, _ => by simp at hx
  | v :: vs, 0, x, _, hx, hq => by simp at hx; subst hx; simp [hq]
  | v :: vs, k + 1, x, h, hx, hq => by
    have h0 := h 0 v (by omega) rfl
    rw [List.find?_cons_of_neg (by rw [h0]; simp)]
    exact find_first (k := k) (fun j u hj hu => h (j + 1) u (Nat.succ_lt_succ hj) (by simpa using hu)) (by simpa using hx) hq
/-- The state before a line that is done. -/
theorem bef_done {p : List Ln} {s : List Int} (h : chk p s = 0) {j : Nat} {v : Nat × St} (hv : (visits p s)[j]? = some v) : befE p s v.1 = 0 ∧ befO p s v.1 = some v.2 := by
  have hlt := visits_lt p s v (List.mem_of_getElem? hv)
  have e : befE p s v.1 = 0 := by unfold befE; rw [if_pos h, if_pos (inB_true.2 ⟨by omega, by omega⟩)]
  refine ⟨e, ?_⟩
  unfold befO
  rw [if_pos e]
  have : (visits p s).find? (fun u => (u.1 : Int) == v.1) = some v := by
    refine find_first (k := j) (fun i u hi hu => ?_) hv (by simp)
    have := visits_asc p s hu hv hi
    simp; omega
  rw [this]; rfl
/-- The state in which a run stands ahead of its j-th visit; behind the last one, at its end. -/
def stAt (p : List Ln) (s : List Int) (j : Nat) : St := match (visits p s)[j]? with | some v => v.2 | none => (trc p noF 0 (St.ofL s)).2
theorem stAt_some {p : List Ln} {s : List Int} {j : Nat} {v : Nat × St} (h : (visits p s)[j]? = some v) : stAt p s j = v.2 := by unfold stAt; rw [h]
theorem stAt_end {p : List Ln} {s : List Int} {j : Nat} (h : (visits p s).length ≤ j) : (stAt p s j).toL = runM p s := by
  unfold stAt; rw [List.getElem?_eq_none h]; rfl
theorem stAt_zero (p : List Ln) (s : List Int) : stAt p s 0 = St.ofL s := by
  obtain ⟨h1, h2, _⟩ := vis_next p noF _ 0 (St.ofL s) (Nat.le_add_left _ _)
  cases h : (visits p s)[0]? with
  | none =>
    have : visN p noF 0 (St.ofL s) = [] := by rw [← visits_eq]; simpa using h
    unfold stAt; rw [h]; exact h1 this
  | some v => rw [stAt_some h, h2 v h]
theorem stAt_succ {p : List Ln} {s : List Int} {j : Nat} {v : Nat × St} {l : Ln} (hv : (visits p s)[j]? = some v) (hl : p[v.1]? = some l) : stAt p s (j + 1) = stepS noF l v.1 (stAt p s j) := by
  obtain ⟨_, _, h3⟩ := vis_next p noF _ 0 (St.ofL s) (Nat.le_add_left _ _)
  obtain ⟨k1, k2⟩ := h3 j v l hv hl
  rw [stAt_some hv]
  cases h : (visits p s)[j + 1]? with
  | none => unfold stAt; rw [h]; exact k2 h
  | some u => rw [stAt_some h, k1 u h]
/-- A step changes no register but the one that it writes. -/
theorem step_only {l : Ln} (hl : l.ok = true) (i : Nat) (s : St) {r : Int} (r0 : 0 ≤ r) (r3 : r ≤ 3) (h : (stepS noF l i s).get r ≠ s.get r) : wrB l.op = true ∧ l.d = r := by
  cases hw : wrB l.op with
  | false => rw [stepS_of_not hw] at h; exact absurd rfl h
  | true =>
    refine ⟨rfl, ?_⟩
    rw [stepS_of_wr hw] at h
    obtain ⟨d0, d3⟩ := wr_reg hl hw
    by_cases e : l.d = r
    · exact e
    · exact absurd (St.get_set_ne _ _ _ _ e d0 d3 r0 r3) h
end Go.Proofs.YtbccbokjecdaaaaGreat

namespace Go.Proofs.YtbccbokjecdaaaaGreat
open Go.RowKit

/-! ### The order of lines -/
/-- A line comes before another one. -/
def ltP (x y : Ln) : Prop := x.op < y.op ∨ (x.op = y.op ∧ (x.d < y.d ∨ (x.d = y.d ∧ (x.a < y.a ∨ (x.a = y.a ∧ x.b < y.b)))))
instance (x y : Ln) : Decidable (ltP x y) := by unfold ltP; exact inferInstance
def ltL (x y : Ln) : Bool := decide (ltP x y)
theorem ltL_def (x y : Ln) : ltL x y = decide (ltP x y) := rfl
theorem ltP_irrefl (x : Ln) : ¬ ltP x x := by unfold ltP; omega
theorem ltP_trans {x y z : Ln} (h : ltP x y) (k : ltP y z) : ltP x z := by unfold ltP at *; omega
theorem ltP_total (x y : Ln) : ltP x y ∨ x = y ∨ ltP y x := by
  obtain ⟨o, d, a, b⟩ := x
  obtain ⟨o', d', a', b'⟩ := y
  simp only [ltP, Ln.mk.injEq]
  omega
def cmpI (a b : Int) : Int := if a < b then -1 else if b < a then 1 else 0
def orI (xs : List Int) : Int := match xs with | [] => 0 | x :: r => if x = 0 then orI r else x
def cmpL (x y : Ln) : Int := orI [cmpI x.op y.op, cmpI x.d y.d, cmpI x.a y.a, cmpI x.b y.b]
theorem cmpL_lt (x y : Ln) : decide (cmpL x y < 0) = ltL x y := by
  unfold ltL
  rw [decide_eq_decide]
  obtain ⟨o, d, a, b⟩ := x
  obtain ⟨o', d', a', b'⟩ := y
  simp only [cmpL, orI, cmpI, ltP]
  split <;> split <;> omega

/-- The ascending list of what is in a list, each once. -/
def IsOrd (xs ys : List Ln) : Prop := ys.Pairwise ltP ∧ ∀ x, x ∈ ys ↔ x ∈ xs
theorem ord_ext : ∀ (l m : List Ln), l.Pairwise ltP → m.Pairwise ltP → (∀ x, x ∈ l ↔ x ∈ m) → l = m
  | [], [], _, _, _ => rfl
  | [], b :: m, _, _, h => by have := (h b).2 (by simp); simp at this
  | a :: l, [], _, _, h => by have := (h a).1 (by simp); simp at this
  | a :: l, b :: m, hl, hm, h => by
    obtain ⟨l1, l2⟩ := List.pairwise_cons.1 hl
    obtain ⟨m1, m2⟩ := List.pairwise_cons.1 hm
    have hab : a = b := by
      rcases List.mem_cons.1 ((h a).1 (by simp)) with e | e
      · exact e
      · rcases List.mem_cons.1 ((h b).2 (by simp)) with e' | e'
        · exact e'.symm
        · exact absurd (ltP_trans (m1 a e) (l1 b e')) (ltP_irrefl _)
    subst hab
    congr 1
    refine ord_ext l m l2 m2 fun x => ⟨fun hx => ?_, fun hx => ?_⟩
    · rcases List.mem_cons.1 ((h x).1 (List.mem_cons_of_mem _ hx)) with e | e
      · subst e; exact absurd (l1 x hx) (ltP_irrefl _)
      · exact e
    · rcases List.mem_cons.1 ((h x).2 (List.mem_cons_of_mem _ hx)) with e | e
      · subst e; exact absurd (m1 x hx) (ltP_irrefl _)
      · exact e
def insL (x : Ln) : List Ln → List Ln
  | [] => [x]
  | y :: r => if ltP x y then x :: y :: r else if x = y then y :: r else y :: insL x r
def ordL (xs : List Ln) : List Ln := xs.foldr insL []
theorem mem_insL (x z : Ln) : ∀ l, z ∈ insL x l ↔ z = x ∨ z ∈ l
  | [] => by simp [insL]
  | y :: r => by
    unfold insL
    split
    · simp
    · split
      · next h => subst h; simp
      · simp only [List.mem_cons, mem_insL x z r]
        constructor
        · rintro (h | h | h)
          · exact .inr (.inl h)
          · exact .inl h
          · exact .inr (.inr h)
        · rintro (h | h | h)
          · exact .inr (.inl h)
          · exact .inl h
          · exact .inr (.inr h)
theorem insL_asc (x : Ln) : ∀ l : List Ln, l.Pairwise ltP → (insL x l).Pairwise ltP
  | [], _ => by simp [insL]
  | y :: r, h => by
    obtain ⟨h1, h2⟩ := List.pairwise_cons.1 h
    unfold insL
    split
    · next hx => exact List.pairwise_cons.2 ⟨fun z hz => by rcases List.mem_cons.1 hz with rfl | hz; exact hx; exact ltP_trans hx (h1 z hz), h⟩
    · split
      · exact h
      · next hx hne =>
        refine List.pairwise_cons.2 ⟨fun z hz => ?_, insL_asc x r h2⟩
        rcases (mem_insL x z r).1 hz with rfl | hz
        · rcases ltP_total y z with h | h | h
          · exact h
          · exact absurd h.symm hne
          · exact absurd h hx
        · exact h1 z hz
theorem ordL_is (xs : List Ln) : IsOrd xs (ordL xs) := by
  unfold ordL
  induction xs with
  | nil => exact ⟨List.Pairwise.nil, fun x => by simp⟩
  | cons x r ih => exact ⟨insL_asc x _ ih.1, fun z => by rw [List.foldr_cons, mem_insL, ih.2, List.mem_cons]⟩
theorem IsOrd.eq {xs ys : List Ln} (h : IsOrd xs ys) : ys = ordL xs := ord_ext _ _ h.1 (ordL_is xs).1 fun x => (h.2 x).trans ((ordL_is xs).2 x).symm
theorem mem_ordL {xs : List Ln} {x : Ln} : x ∈ ordL xs ↔ x ∈ xs := (ordL_is xs).2 x

/-! ### Templates -/
def validL (xs : List Ln) (but : Ln) : List Ln := ordL (xs.filter fun x => !(decide (x = but) || !x.ok))
theorem mem_validL {xs : List Ln} {but x : Ln} : x ∈ validL xs but ↔ x ∈ xs ∧ x ≠ but ∧ x.ok = true := by
  unfold validL
  rw [mem_ordL, List.mem_filter]
  simp
def setF (l : Ln) (k : Nat) (n : Int) : Ln := match k with | 0 => { l with d := n } | 1 => { l with a := n } | _ => { l with b := n }
/-- The fields that a line has, by number: 0 the target, 1 and 2 the operands. -/
def fldL (op : Int) : List Nat := if op = 1 then [0] else if op = 2 then [0, 1] else if op = 7 then [1, 2] else if op = 0 then [] else [0, 1, 2]
def byL (l : Ln) (n : Int) : Ln := if l.op = 1 then { l with a := l.a + n } else if l.op = 7 then { l with d := l.d + n } else l
def rawT (l : Ln) : List Ln :=
  [⟨0, 0, 0, 0⟩, byL l (-1), byL l 1] ++ (fldL l.op).flatMap (fun k => [setF l k 0, setF l k 1, setF l k 2, setF l k 3]) ++
    (if 3 ≤ l.op then [⟨l.op, l.d, l.b, l.a⟩] else []) ++ (if 3 ≤ l.op ∧ l.op ≤ 6 then [⟨3, l.d, l.a, l.b⟩, ⟨4, l.d, l.a, l.b⟩, ⟨5, l.d, l.a, l.b⟩, ⟨6, l.d, l.a, l.b⟩] else [])
def tmpl (l : Ln) : List Ln := if l.op = 0 then [] else validL (rawT l) l
/-- What Near answers. -/
def nearE (l m : Ln) : Int := if l.ok && m.ok then 0 else 1
def nearB (l m : Ln) : Bool := l.ok && m.ok && (tmpl l).contains m
theorem mem_tmpl {l m : Ln} : m ∈ tmpl l ↔ l.op ≠ 0 ∧ m ∈ rawT l ∧ m ≠ l ∧ m.ok = true := by
  unfold tmpl
  by_cases h : l.op = 0
  · rw [if_pos h]; simp [h]
  · rw [if_neg h, mem_validL]; simp [h]

/-- A template by the fields. -/
def tmpP (l m : Ln) : Prop :=
  m = ⟨0, 0, 0, 0⟩ ∨ (m.op = l.op ∧ (
    (l.op = 1 ∧ ((m.d = l.d ∧ (m.a = l.a - 1 ∨ m.a = l.a + 1)) ∨ (m.a = l.a)) ∧ m.b = l.b) ∨
    (l.op = 2 ∧ ((m.a = l.a) ∨ (m.d = l.d)) ∧ m.b = l.b) ∨
    (l.op = 7 ∧ ((m.a = l.a ∧ m.b = l.b ∧ (m.d = l.d - 1 ∨ m.d = l.d + 1)) ∨ (m.d = l.d ∧ (m.b = l.b ∨ m.a = l.a ∨ (m.a = l.b ∧ m.b = l.a))))) ∨
    (3 ≤ l.op ∧ l.op ≤ 6 ∧ ((m.a = l.a ∧ m.b = l.b) ∨ (m.d = l.d ∧ m.b = l.b) ∨ (m.d = l.d ∧ m.a = l.a) ∨ (m.d = l.d ∧ m.a = l.b ∧ m.b = l.a))))) ∨
  (3 ≤ l.op ∧ l.op ≤ 6 ∧ 3 ≤ m.op ∧ m.op ≤ 6 ∧ m.d = l.d ∧ m.a = l.a ∧ m.b = l.b)
instance (l m : Ln) : Decidable (tmpP l m) := by unfold tmpP; exact inferInstance
end Go.Proofs.YtbccbokjecdaaaaGreat
