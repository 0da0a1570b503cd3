/- The plain functions behind layer 1: states, what a line does, and the run of a program as a list of visits. No program is named. -/
import Derived.Test.YtbccbokjecdaaaaPlA
namespace Go.Proofs.Ytbccbokjecdaaaa

/-- A state: the numbers of the four registers. -/
structure St where
  r0 : Int
  r1 : Int
  r2 : Int
  r3 : Int
deriving DecidableEq, Inhabited
def St.toL (s : St) : List Int := [s.r0, s.r1, s.r2, s.r3]
def encS (s : St) : List Value := [.int .i64 s.r0, .int .i64 s.r1, .int .i64 s.r2, .int .i64 s.r3]
def St.get (s : St) (r : Int) : Int := if r = 0 then s.r0 else if r = 1 then s.r1 else if r = 2 then s.r2 else s.r3
def St.set (s : St) (r n : Int) : St := if r = 0 then { s with r0 := n } else if r = 1 then { s with r1 := n } else if r = 2 then { s with r2 := n } else { s with r3 := n }
/-- All registers are within the bounds. -/
def St.fine (s : St) : Prop := (-999 ≤ s.r0 ∧ s.r0 ≤ 999) ∧ (-999 ≤ s.r1 ∧ s.r1 ≤ 999) ∧ (-999 ≤ s.r2 ∧ s.r2 ≤ 999) ∧ (-999 ≤ s.r3 ∧ s.r3 ≤ 999)
theorem St.get_fine {s : St} (h : s.fine) (r : Int) : -999 ≤ s.get r ∧ s.get r ≤ 999 := by
  obtain ⟨h0, h1, h2, h3⟩ := h
  unfold St.get
  split
  · exact h0
  · split
    · exact h1
    · split
      · exact h2
      · exact h3
theorem St.set_fine {s : St} (h : s.fine) (r : Int) {n : Int} (hn : -999 ≤ n ∧ n ≤ 999) : (s.set r n).fine := by
  obtain ⟨h0, h1, h2, h3⟩ := h
  unfold St.set
  split
  · exact ⟨hn, h1, h2, h3⟩
  · split
    · exact ⟨h0, hn, h2, h3⟩
    · split
      · exact ⟨h0, h1, hn, h3⟩
      · exact ⟨h0, h1, h2, hn⟩
theorem St.of_valS {s : List Int} (h : valS s = 0) : ∃ q : St, q.toL = s ∧ q.fine := by
  obtain ⟨h1, h2⟩ := valS_ok.1 h
  match s, h1 with
  | [a, b, c, d], _ => exact ⟨⟨a, b, c, d⟩, rfl, h2 a (by simp), h2 b (by simp), h2 c (by simp), h2 d (by simp)⟩

def cut (n : Int) : Int := max (-999) (min 999 n)
theorem cut_fine (n : Int) : -999 ≤ cut n ∧ cut n ≤ 999 := by unfold cut; omega
/-- What a line that writes makes of two registers and its number A. -/
def opV (op a x y : Int) : Int := if op = 1 then a else if op = 2 then x else if op = 3 then x + y else if op = 4 then x - y else if op = 5 then min x y else max x y
def stepS (f : Nat → Option Int) (l : Ln) (i : Nat) (s : St) : St :=
  if wrB l.op then s.set l.d (cut ((f i).getD (opV l.op l.a (s.get l.a) (s.get l.b)))) else s
def nextI (l : Ln) (i : Nat) (s : St) : Nat := if l.op = 7 ∧ s.get l.a < s.get l.b then i + 1 + l.d.toNat else i + 1
theorem nextI_gt (l : Ln) (i : Nat) (s : St) : i < nextI l i s := by unfold nextI; split <;> omega
theorem stepS_fine (f : Nat → Option Int) (l : Ln) (i : Nat) {s : St} (h : s.fine) : (stepS f l i s).fine := by
  unfold stepS; split
  · exact St.set_fine h _ (cut_fine _)
  · exact h

/-- The lines that are done, each with the state before it, and the state at the end. -/
def trcN (p : List Ln) (f : Nat → Option Int) : Nat → Nat → St → List (Nat × St) × St
  | 0, _, s => ([], s)
  | n + 1, i, s => match p[i]? with
    | none => ([], s)
    | some l => ((i, s) :: (trcN p f n (nextI l i s) (stepS f l i s)).1, (trcN p f n (nextI l i s) (stepS f l i s)).2)
def trc (p : List Ln) (f : Nat → Option Int) (i : Nat) (s : St) : List (Nat × St) × St := trcN p f (p.length - i) i s
theorem trcN_fuel (p : List Ln) (f : Nat → Option Int) : ∀ (n m i : Nat) (s : St), p.length ≤ i + n → p.length ≤ i + m → trcN p f n i s = trcN p f m i s
  | 0, 0, _, _, _, _ => rfl
  | 0, m + 1, i, s, h, _ => by
    have : p[i]? = none := List.getElem?_eq_none (by omega)
    simp [trcN, this]
  | n + 1, 0, i, s, _, h => by
    have : p[i]? = none := List.getElem?_eq_none (by omega)
    simp [trcN, this]
  | n + 1, m + 1, i, s, h1, h2 => by
    cases hl : p[i]? with
    | none => simp [trcN, hl]
    | some l =>
      have := nextI_gt l i s
      have ih := trcN_fuel p f n m (nextI l i s) (stepS f l i s) (by omega) (by omega)
      simp [trcN, hl, ih]
theorem trc_end {p : List Ln} {f : Nat → Option Int} {i : Nat} {s : St} (h : p.length ≤ i) : trc p f i s = ([], s) := by
  unfold trc; rw [show p.length - i = 0 by omega]; rfl
theorem trc_step {p : List Ln} {f : Nat → Option Int} {i : Nat} {s : St} {l : Ln} (h : p[i]? = some l) :
    trc p f i s = ((i, s) :: (trc p f (nextI l i s) (stepS f l i s)).1, (trc p f (nextI l i s) (stepS f l i s)).2) := by
  have hlt : i < p.length := (List.getElem?_eq_some_iff.1 h).1
  have := nextI_gt l i s
  unfold trc
  obtain ⟨n, hn⟩ : ∃ n, p.length - i = n + 1 := ⟨p.length - i - 1, by omega⟩
  rw [hn]
  simp only [trcN, h]
  rw [trcN_fuel p f n (p.length - nextI l i s) _ _ (by omega) (by omega)]

/-- How far a run has come: the visits so far, where it stands, and its state. -/
def Upto (p : List Ln) (f : Nat → Option Int) (s0 : St) (vs : List (Nat × St)) (i : Nat) (s : St) : Prop :=
  vs ++ (trc p f i s).1 = (trc p f 0 s0).1 ∧ (trc p f i s).2 = (trc p f 0 s0).2
theorem Upto.start (p : List Ln) (f : Nat → Option Int) (s0 : St) : Upto p f s0 [] 0 s0 := ⟨rfl, rfl⟩
theorem Upto.step {p : List Ln} {f : Nat → Option Int} {s0 : St} {vs : List (Nat × St)} {i : Nat} {s : St} {l : Ln} (h : Upto p f s0 vs i s) (hl : p[i]? = some l) :
    Upto p f s0 (vs ++ [(i, s)]) (nextI l i s) (stepS f l i s) := by
  obtain ⟨h1, h2⟩ := h
  rw [trc_step hl] at h1 h2
  exact ⟨by rw [← h1]; simp, h2⟩
theorem Upto.done {p : List Ln} {f : Nat → Option Int} {s0 : St} {vs : List (Nat × St)} {i : Nat} {s : St} (h : Upto p f s0 vs i s) (hi : p.length ≤ i) :
    vs = (trc p f 0 s0).1 ∧ s = (trc p f 0 s0).2 := by
  obtain ⟨h1, h2⟩ := h
  rw [trc_end hi] at h1 h2
  exact ⟨by rw [← h1]; simp, h2⟩

def encV (v : Nat × St) : List Value := [.int .i64 v.1, .int .i64 v.2.r0, .int .i64 v.2.r1, .int .i64 v.2.r2, .int .i64 v.2.r3]
theorem encV_len (v : Nat × St) : (encV v).length = 5 := rfl

/-! ### What the functions of the package answer -/
def St.ofL (l : List Int) : St := ⟨l.getD 0 0, l.getD 1 0, l.getD 2 0, l.getD 3 0⟩
theorem St.ofL_toL (s : St) : St.ofL s.toL = s := rfl
def noF : Nat → Option Int := fun _ => none
/-- A list, if there is no error. -/
def ifOK {α : Type} (e : Int) (l : List α) : List α := if e = 0 then l else []
theorem ifOK_ok {α : Type} (l : List α) : ifOK 0 l = l := rfl
theorem ifOK_err {α : Type} {e : Int} (h : e ≠ 0) (l : List α) : ifOK e l = [] := by simp [ifOK, h]
def runM (p : List Ln) (s : List Int) : List Int := (trc p noF 0 (St.ofL s)).2.toL
def visits (p : List Ln) (s : List Int) : List (Nat × St) := (trc p noF 0 (St.ofL s)).1
def doneM (p : List Ln) (s : List Int) : List Int := (visits p s).map fun v => (v.1 : Int)

theorem visits_cell {w : World} {b o : Nat} {vs : List (Nat × St)} (hc : ∀ j x, vs[j]? = some x → ∀ i u, (encV x)[i]? = some u → w.cell? ⟨b, o + j * 5 + i, none⟩ = some u) (j : Nat) (x : Nat × St) (h : vs[j]? = some x) :
    w.cell? ⟨b, o + j * 5, none⟩ = some (.int .i64 x.1) ∧ w.cell? ⟨b, o + j * 5 + 1, none⟩ = some (.int .i64 x.2.r0) ∧ w.cell? ⟨b, o + j * 5 + 2, none⟩ = some (.int .i64 x.2.r1) ∧ w.cell? ⟨b, o + j * 5 + 3, none⟩ = some (.int .i64 x.2.r2) ∧ w.cell? ⟨b, o + j * 5 + 4, none⟩ = some (.int .i64 x.2.r3) :=
  ⟨hc j _ h 0 _ rfl, hc j _ h 1 _ rfl, hc j _ h 2 _ rfl, hc j _ h 3 _ rfl, hc j _ h 4 _ rfl⟩
theorem trcN_length (p : List Ln) (f : Nat → Option Int) : ∀ (n i : Nat) (s : St), (trcN p f n i s).1.length ≤ n
  | 0, _, _ => by simp [trcN]
  | n + 1, i, s => by
    simp only [trcN]
    split
    · simp
    · have := trcN_length p f n (nextI (by assumption) i s) (stepS f (by assumption) i s)
      simp only [List.length_cons]; omega
theorem visits_length (p : List Ln) (s : List Int) : (visits p s).length ≤ p.length := by
  unfold visits trc; exact trcN_length _ _ _ _ _
/-- The state before a line, its error. -/
def befE (p : List Ln) (s : List Int) (line : Int) : Int := if chk p s = 0 then (if inB line 0 (p.length - 1) then 0 else 4) else chk p s
def befO (p : List Ln) (s : List Int) (line : Int) : Option St := if befE p s line = 0 then ((visits p s).find? fun v => (v.1 : Int) == line).map (·.2) else none
def optL (o : Option St) : List Int := (o.map St.toL).getD []

/-! ### The block of a state -/
def arrS (s : St) : Array Value := #[.int .i64 s.r0, .int .i64 s.r1, .int .i64 s.r2, .int .i64 s.r3]
theorem arr_cell {w : World} {b : Nat} {s : St} {e : TypeId} (h : w.heap[b]? = some (.cells (arrS s) e (0, 0))) (r : Int) (h0 : 0 ≤ r) (h3 : r ≤ 3) : w.cell? ⟨b, r.toNat, none⟩ = some (.int .i64 (s.get r)) := by
  have : r = 0 ∨ r = 1 ∨ r = 2 ∨ r = 3 := by omega
  rcases this with rfl | rfl | rfl | rfl <;> simp [World.cell?, h, arrS, St.get]
theorem arr_cells {w : World} {b : Nat} {s : St} {e : TypeId} (h : w.heap[b]? = some (.cells (arrS s) e (0, 0))) :
    w.cell? ⟨b, 0, none⟩ = some (.int .i64 s.r0) ∧ w.cell? ⟨b, 1, none⟩ = some (.int .i64 s.r1) ∧ w.cell? ⟨b, 2, none⟩ = some (.int .i64 s.r2) ∧ w.cell? ⟨b, 3, none⟩ = some (.int .i64 s.r3) := by
  simp [World.cell?, h, arrS]
theorem arr_free {w : World} {b : Nat} {s : St} {e : TypeId} (h : w.heap[b]? = some (.cells (arrS s) e (0, 0))) (o : Nat) : w.frozen? ⟨b, o, none⟩ = false := by
  simp [World.frozen?, h]
theorem arr_set {w : World} {b : Nat} {s : St} {e : TypeId} (h : w.heap[b]? = some (.cells (arrS s) e (0, 0))) (r n : Int) (h0 : 0 ≤ r) (h3 : r ≤ 3) :
    (w.setCell ⟨b, r.toNat, none⟩ (.int .i64 n)).heap[b]? = some (.cells (arrS (s.set r n)) e (0, 0)) := by
  rw [heap_setCell_same w b _ _ e _ h]
  have : r = 0 ∨ r = 1 ∨ r = 2 ∨ r = 3 := by omega
  rcases this with rfl | rfl | rfl | rfl <;> rfl
/-- The four stores of a whole state. -/
def fillS (w : World) (b : Nat) (q : St) : World :=
  ((((w.setCell ⟨b, 0, none⟩ (.int .i64 q.r0)).setCell ⟨b, 1, none⟩ (.int .i64 q.r1)).setCell ⟨b, 2, none⟩ (.int .i64 q.r2)).setCell ⟨b, 3, none⟩ (.int .i64 q.r3)).drew
theorem arr_fill {w : World} {b : Nat} {s : St} {e : TypeId} (h : w.heap[b]? = some (.cells (arrS s) e (0, 0))) (q : St) : (fillS w b q).heap[b]? = some (.cells (arrS q) e (0, 0)) := by
  have h1 := arr_set h 0 q.r0 (by omega) (by omega)
  have h2 := arr_set h1 1 q.r1 (by omega) (by omega)
  have h3 := arr_set h2 2 q.r2 (by omega) (by omega)
  have h4 := arr_set h3 3 q.r3 (by omega) (by omega)
  exact h4
/-- Two numbers, sorted, each once. -/
def two (a b : Int) : List Int := if a = b then [a] else if a < b then [a, b] else [b, a]
end Go.Proofs.Ytbccbokjecdaaaa
