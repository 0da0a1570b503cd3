/- The plain functions behind the document's slice: marks, and that they list what the walk back collects. No program is named. -/
import Derived.Test.YtmaphlbmmemgcaaPlS
namespace Go.Proofs.Ytmaphlbmmemgcaa
open Go.RowKit

theorem asc_ext : ∀ (l m : List Int), l.Pairwise (· < ·) → m.Pairwise (· < ·) → (∀ x, x ∈ l ↔ x ∈ m) → l = m
  | [], [], _, _, _ => rfl
  | [], b :: m, _, _, h => by have := (h b).2 (by simp); simp at this
  | a :: l, [], _, _, h => by have := (h a).1 (by simp); simp at this
  | a :: l, b :: m, hl, hm, h => by
    obtain ⟨l1, l2⟩ := List.pairwise_cons.1 hl
    obtain ⟨m1, m2⟩ := List.pairwise_cons.1 hm
    have hab : a = b := by
      rcases List.mem_cons.1 ((h a).1 (by simp)) with e | e
      · exact e
      · rcases List.mem_cons.1 ((h b).2 (by simp)) with e' | e'
        · exact e'.symm
        · have := m1 a e; have := l1 b e'; omega
    subst hab
    congr 1
    refine asc_ext l m l2 m2 fun x => ⟨fun hx => ?_, fun hx => ?_⟩
    · rcases List.mem_cons.1 ((h x).1 (List.mem_cons_of_mem _ hx)) with e | e
      · subst e; have := l1 x hx; omega
      · exact e
    · rcases List.mem_cons.1 ((h x).2 (List.mem_cons_of_mem _ hx)) with e | e
      · subst e; have := m1 x hx; omega
      · exact e

/-- Which numbers below n are in a list. -/
def marks (n : Nat) (l : List Int) : List Bool := (List.range n).map fun (i : Nat) => l.contains (i : Int)
theorem marks_length (n : Nat) (l : List Int) : (marks n l).length = n := by simp [marks]
theorem marks_nil (n : Nat) : marks n [] = List.replicate n false := by
  unfold marks
  apply List.ext_getElem
  · simp
  · intro i h1 h2; simp
theorem marks_snoc (n : Nat) (l : List Int) (v : Nat) : marks n (l ++ [(v : Int)]) = (marks n l).set v true := by
  unfold marks
  apply List.ext_getElem
  · simp
  · intro i h1 h2
    rw [List.getElem_set]
    by_cases h : v = i
    · subst h; simp
    · simp [h]
      intro hh; omega
theorem mem_setL {bs : List Bool} {x : Int} : x ∈ setL bs ↔ ∃ i : Nat, x = i ∧ bs[i]? = some true := by
  unfold setL setN
  simp only [List.mem_map, List.mem_filter, List.mem_range]
  constructor
  · rintro ⟨i, ⟨hi, hb⟩, rfl⟩
    refine ⟨i, rfl, ?_⟩
    rw [List.getD_eq_getElem?_getD, List.getElem?_eq_getElem hi] at hb
    rw [List.getElem?_eq_getElem hi]; simpa using hb
  · rintro ⟨i, rfl, hb⟩
    obtain ⟨hi, he⟩ := List.getElem?_eq_some_iff.1 hb
    refine ⟨i, ⟨hi, ?_⟩, rfl⟩
    rw [List.getD_eq_getElem?_getD, hb]; rfl
theorem setL_asc (bs : List Bool) : (setL bs).Pairwise (· < ·) := by
  unfold setL setN
  rw [List.pairwise_map]
  refine List.Pairwise.imp ?_ ((List.pairwise_lt_range (n := bs.length)).filter _)
  intro a b h
  show Int.ofNat a < Int.ofNat b
  simpa using h
theorem setL_marks {n : Nat} {l : List Int} (ha : l.Pairwise (· < ·)) (hr : ∀ x ∈ l, 0 ≤ x ∧ x < n) : setL (marks n l) = l := by
  refine asc_ext _ _ (setL_asc _) ha fun x => ?_
  rw [mem_setL]
  constructor
  · rintro ⟨i, rfl, h⟩
    obtain ⟨hi, he⟩ := List.getElem?_eq_some_iff.1 h
    simpa [marks] using he
  · intro hx
    obtain ⟨h0, h1⟩ := hr x hx
    refine ⟨x.toNat, by omega, ?_⟩
    have hlt : x.toNat < (marks n l).length := by rw [marks_length]; omega
    rw [List.getElem?_eq_getElem hlt]
    have : ((x.toNat : Nat) : Int) = x := by omega
    simp [marks, this, hx]
theorem marks_reverse (n : Nat) (l : List Int) : marks n l.reverse = marks n l := by simp [marks]

/-- How a walk back stands behind the visits from the k-th one on. -/
def accAt (p : List Ln) (vs : List (Nat × St)) (m : Ms) (k : Nat) : Ms × List Int := (vs.drop k).reverse.foldl (sliceStep p) (m, [])
theorem accAt_end (p : List Ln) (vs : List (Nat × St)) (m : Ms) : accAt p vs m vs.length = (m, []) := by simp [accAt]
theorem accAt_step (p : List Ln) (vs : List (Nat × St)) (m : Ms) {k : Nat} {v : Nat × St} (hv : vs[k]? = some v) : accAt p vs m k = sliceStep p (accAt p vs m (k + 1)) v := by
  obtain ⟨hk, rfl⟩ := List.getElem?_eq_some_iff.1 hv
  unfold accAt
  rw [List.drop_eq_getElem_cons hk, List.reverse_cons, List.foldl_append]
  rfl
theorem accAt_mem (p : List Ln) (vs : List (Nat × St)) (m : Ms) : ∀ n k, k + n = vs.length → ∀ x ∈ (accAt p vs m k).2, ∃ (j : Nat) (v : Nat × St), k ≤ j ∧ vs[j]? = some v ∧ x = v.1
  | 0, k, h, x, hx => by
    obtain rfl : k = vs.length := by omega
    rw [accAt_end] at hx; simp at hx
  | n + 1, k, h, x, hx => by
    have hk : k < vs.length := by omega
    rw [accAt_step p vs m (List.getElem?_eq_getElem hk)] at hx
    have key : x ∈ (accAt p vs m (k + 1)).2 ∨ x = (vs[k].1 : Int) := by
      unfold sliceStep at hx
      split at hx
      · exact .inl hx
      · split at hx
        · exact .inl hx
        · simpa using hx
    rcases key with h1 | h1
    · obtain ⟨j, v, hj, hv, e⟩ := accAt_mem p vs m n (k + 1) (by omega) x h1
      exact ⟨j, v, by omega, hv, e⟩
    · exact ⟨k, vs[k], Nat.le_refl _, List.getElem?_eq_getElem hk, h1⟩
theorem accAt_desc (p : List Ln) (vs : List (Nat × St)) (m : Ms) (hs : vs.Pairwise fun a b => a.1 < b.1) : ∀ n k, k + n = vs.length → (accAt p vs m k).2.Pairwise (· > ·)
  | 0, k, h => by
    obtain rfl : k = vs.length := by omega
    rw [accAt_end]; exact List.Pairwise.nil
  | n + 1, k, h => by
    have hk : k < vs.length := by omega
    rw [accAt_step p vs m (List.getElem?_eq_getElem hk)]
    have ih := accAt_desc p vs m hs n (k + 1) (by omega)
    have : ∀ x ∈ (accAt p vs m (k + 1)).2, x > (vs[k].1 : Int) := by
      intro x hx
      obtain ⟨j, v, hj, hv, rfl⟩ := accAt_mem p vs m n (k + 1) (by omega) x hx
      obtain ⟨hjl, rfl⟩ := List.getElem?_eq_some_iff.1 hv
      have := List.pairwise_iff_getElem.1 hs k j hk hjl (by omega)
      omega
    unfold sliceStep
    split
    · exact ih
    · split
      · exact ih
      · rw [List.pairwise_append]
        exact ⟨ih, by simp, fun a ha b hb => by simp at hb; subst hb; exact this a ha⟩
theorem sliceM_acc (p : List Ln) (s : List Int) (r : Int) : sliceM p s r = (accAt p (visits p s) (Ms.set ⟨false, false, false, false⟩ r true) 0).2.reverse := by
  unfold sliceM accAt; rw [List.drop_zero]
/-- What the marks list in the end. -/
theorem setL_slice (p : List Ln) (s : List Int) (r : Int) : setL (marks p.length (accAt p (visits p s) (Ms.set ⟨false, false, false, false⟩ r true) 0).2) = sliceM p s r := by
  rw [sliceM_acc, ← marks_reverse]
  refine setL_marks ?_ ?_
  · rw [List.pairwise_reverse]
    exact accAt_desc p _ _ (visits_sorted p s) _ 0 (Nat.zero_add _)
  · intro x hx
    obtain ⟨j, v, _, hv, rfl⟩ := accAt_mem p _ _ _ 0 (Nat.zero_add _) x (List.mem_reverse.1 hx)
    have := visits_lt p s v (List.mem_of_getElem? hv)
    omega

/-! ### The registers of a line, added to those that matter -/
def Ms.orN (m r : Ms) (k : Nat) : Ms := ⟨m.b0 || (decide (0 < k) && r.b0), m.b1 || (decide (1 < k) && r.b1), m.b2 || (decide (2 < k) && r.b2), m.b3 || (decide (3 < k) && r.b3)⟩
theorem Ms.orN_zero (m r : Ms) : m.orN r 0 = m := by cases m; simp [Ms.orN]
theorem Ms.orN_succ (m r : Ms) {k : Nat} (hk : k < 4) : m.orN r (k + 1) = (m.orN r k).set k ((m.orN r k).get k || r.get k) := by
  have : k = 0 ∨ k = 1 ∨ k = 2 ∨ k = 3 := by omega
  obtain ⟨m0, m1, m2, m3⟩ := m
  obtain ⟨r0, r1, r2, r3⟩ := r
  rcases this with rfl | rfl | rfl | rfl <;> simp [Ms.orN, Ms.set, Ms.get]
theorem orN_rdM {op a b : Int} (h2 : 2 ≤ op → 0 ≤ a ∧ a ≤ 3) (h3 : 3 ≤ op → 0 ≤ b ∧ b ≤ 3) (m : Ms) : m.orN (rdM op a b) 4 = (rdL op a b).foldl (fun m r => m.set r true) m := by
  obtain ⟨m0, m1, m2, m3⟩ := m
  by_cases g3 : 3 ≤ op
  · obtain ⟨a0, a3⟩ := h2 (by omega)
    obtain ⟨b0, b3⟩ := h3 g3
    have e1 : rdL op a b = two a b := by unfold rdL; rw [if_neg (by omega), if_pos (by omega)]
    have e2 : rdM op a b = (Ms.set ⟨false, false, false, false⟩ a true).set b true := by unfold rdM; rw [if_pos g3, if_pos (by omega)]
    rw [e1, e2]
    have ha : a = 0 ∨ a = 1 ∨ a = 2 ∨ a = 3 := by omega
    have hb : b = 0 ∨ b = 1 ∨ b = 2 ∨ b = 3 := by omega
    rcases ha with rfl | rfl | rfl | rfl <;> rcases hb with rfl | rfl | rfl | rfl <;> simp [Ms.orN, two, Ms.set]
  · by_cases g2 : 2 ≤ op
    · obtain ⟨a0, a3⟩ := h2 g2
      have e1 : rdL op a b = [a] := by unfold rdL; rw [if_pos (by omega)]
      have e2 : rdM op a b = Ms.set ⟨false, false, false, false⟩ a true := by unfold rdM; rw [if_neg g3, if_pos g2]
      rw [e1, e2]
      have ha : a = 0 ∨ a = 1 ∨ a = 2 ∨ a = 3 := by omega
      rcases ha with rfl | rfl | rfl | rfl <;> simp [Ms.orN, Ms.set]
    · have e1 : rdL op a b = [] := by unfold rdL; rw [if_neg (by omega), if_neg g3]
      have e2 : rdM op a b = ⟨false, false, false, false⟩ := by unfold rdM; rw [if_neg g3, if_neg g2]
      rw [e1, e2]
      simp [Ms.orN]

/-! ### The block of the marks -/
def arrB (bs : List Bool) : Array Value := (bs.map Value.bool).toArray
theorem arrB_cell {w : World} {b : Nat} {bs : List Bool} {e : TypeId} (h : w.heap[b]? = some (.cells (arrB bs) e (0, 0))) {k : Nat} {x : Bool} (hx : bs[k]? = some x) : w.cell? ⟨b, k, none⟩ = some (.bool x) := by
  unfold World.cell?; simp only [h]; simp [arrB, hx]
theorem arrB_free {w : World} {b : Nat} {bs : List Bool} {e : TypeId} (h : w.heap[b]? = some (.cells (arrB bs) e (0, 0))) (o : Nat) : w.frozen? ⟨b, o, none⟩ = false := by
  simp [World.frozen?, h]
theorem arrB_set {w : World} {b : Nat} {bs : List Bool} {e : TypeId} (h : w.heap[b]? = some (.cells (arrB bs) e (0, 0))) (k : Nat) (x : Bool) :
    (w.setCell ⟨b, k, none⟩ (.bool x)).heap[b]? = some (.cells (arrB (bs.set k x)) e (0, 0)) := by
  rw [heap_setCell_same w b _ _ e _ h]
  simp [arrB, List.map_set]
theorem arrB_slc {w : World} {b : Nat} {bs : List Bool} {e : TypeId} (h : w.heap[b]? = some (.cells (arrB bs) e (0, 0))) (hl : bs.length ≤ 9223372036854775807) : BoolsAt w (.slice (some ⟨b, 0, none⟩) bs.length bs.length) bs := by
  refine ⟨_, bs.length, rfl, Nat.le_refl _, hl, .inr ⟨b, 0, rfl, lt_of_block h, ?_⟩⟩
  intro j x hj i u hu
  have hi : i = 0 := by
    have := (List.getElem?_eq_some_iff.1 hu).1
    simp [encT] at this; exact this
  subst hi
  simp [encT] at hu
  subst hu
  rw [Nat.zero_add, Nat.mul_one, Nat.add_zero]
  exact arrB_cell h hj
end Go.Proofs.Ytmaphlbmmemgcaa
