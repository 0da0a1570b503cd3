/- A row of lines that the call has made and that is written in place: its cells, and how the shelf's sort says it. No program is named. -/
import Derived.Test.YtbccbokjecdaaaaPlK
import Derived.Test.YtbccbokjecdaaaaPlP
import Derived.Shelf.GgSortFunc.RowK
import Derived.Laws.IdiomCopy
namespace Go.Proofs.Ytbccbokjecdaaaa
open Go.RowKit
open Go.Sort (HoldsK Holds flatK get_flatK size_flatK blk_iff)

/-- The block g holds the lines xs from the place o on, and they can be written. -/
def RowL (w : World) (g o : Nat) (xs : List Ln) : Prop := ∀ (j : Nat) (l : Ln), xs[j]? = some l → ∀ (i : Nat) (u : Value), (encL l)[i]? = some u → w.cell? ⟨g, o + j * 4 + i, none⟩ = some u ∧ w.frozen? ⟨g, o + j * 4 + i, none⟩ = false
theorem RowL.at {w : World} {g o : Nat} {xs : List Ln} (h : RowL w g o xs) {k : Nat} {op d a b : Int} (hk : xs[k]? = some ⟨op, d, a, b⟩) :
    (w.cell? ⟨g, o + k * 4, none⟩ = some (.int .i64 op) ∧ w.cell? ⟨g, o + k * 4 + 1, none⟩ = some (.int .i64 d) ∧ w.cell? ⟨g, o + k * 4 + 2, none⟩ = some (.int .i64 a) ∧ w.cell? ⟨g, o + k * 4 + 3, none⟩ = some (.int .i64 b)) ∧
    (w.frozen? ⟨g, o + k * 4, none⟩ = false ∧ w.frozen? ⟨g, o + k * 4 + 1, none⟩ = false ∧ w.frozen? ⟨g, o + k * 4 + 2, none⟩ = false ∧ w.frozen? ⟨g, o + k * 4 + 3, none⟩ = false) :=
  ⟨⟨(h k _ hk 0 _ rfl).1, (h k _ hk 1 _ rfl).1, (h k _ hk 2 _ rfl).1, (h k _ hk 3 _ rfl).1⟩, (h k _ hk 0 _ rfl).2, (h k _ hk 1 _ rfl).2, (h k _ hk 2 _ rfl).2, (h k _ hk 3 _ rfl).2⟩
theorem RowL.grow {w w' : World} {g o : Nat} {xs : List Ln} (h : RowL w g o xs) (hg : Grow w w') (hb : g < w.heap.size) : RowL w' g o xs := by
  intro j l hj i u hu
  obtain ⟨h1, h2⟩ := h j l hj i u hu
  exact ⟨hg.cell h1, (hg.cellsB.2 g _ hb).trans h2⟩
theorem RowL.take {w : World} {g o : Nat} {xs : List Ln} (h : RowL w g o xs) (n : Nat) : RowL w g o (xs.take n) := by
  intro j l hj i u hu
  rw [List.getElem?_take] at hj
  split at hj
  · exact h j l hj i u hu
  · cases hj
theorem RowL.pre {w : World} {g o : Nat} {xs ys : List Ln} (h : RowL w g o xs) (e : ys = xs.take ys.length) : RowL w g o ys := by rw [e]; exact h.take _
theorem RowL.of_own {w : World} {base e g n cap : Nat} {xs : List Ln} (h : w.ownsRow base e 4 (.slice (some ⟨g, 0, none⟩) n cap) xs.length (xs.flatMap encL)) : RowL w g 0 xs := by
  have hn : n = xs.length := by
    rcases h.2 with ⟨h2, _⟩ | ⟨g', cap', cur, hv, _⟩
    · cases h2
    · cases hv; rfl
  subst hn
  have hs := slc_of_owns encL_len h
  intro j l hj i u hu
  obtain ⟨_, _, e1, _, _, h4⟩ := hs
  cases e1
  rcases h4 with ⟨h4, _⟩ | ⟨b, o, e2, _, hc⟩
  · rw [h4] at hj; simp at hj
  · cases e2
    refine ⟨hc j l hj i u hu, ownsRow_free h _⟩
theorem RowL.slc {w : World} {g o c : Nat} {xs : List Ln} (h : RowL w g o xs) (hb : g < w.heap.size) (hc : xs.length ≤ c) (hm : c ≤ 9223372036854775807) : LinesAt w (.slice (some ⟨g, o, none⟩) xs.length c) xs :=
  ⟨_, c, rfl, hc, hm, .inr ⟨g, o, rfl, hb, fun j x hx i u hu => (h j x hx i u hu).1⟩⟩
theorem encL_get! (l : Ln) (i : Nat) (hi : i < 4) : (encL l)[i]? = some (encL l)[i]! := by
  have : i = 0 ∨ i = 1 ∨ i = 2 ∨ i = 3 := by omega
  rcases this with rfl | rfl | rfl | rfl <;> rfl
theorem RowL.holds {w : World} {g o : Nat} {xs : List Ln} (h : RowL w g o xs) : HoldsK encL 4 w g o xs.toArray := by
  intro t ht
  rw [size_flatK] at ht
  have ht' : t < xs.length * 4 := by simpa using ht
  rw [get_flatK _ _ _ _ ht]
  have hq : t / 4 < xs.length := by omega
  have hj : xs[t / 4]? = some xs[t / 4] := List.getElem?_eq_getElem hq
  have e : xs.toArray[t / 4]! = xs[t / 4] := by rw [getElem!_pos _ _ (by simpa using hq)]; simp
  have := h (t / 4) _ hj (t % 4) _ (encL_get! _ _ (Nat.mod_lt _ (by omega)))
  rw [show o + t / 4 * 4 + t % 4 = o + t by omega] at this
  rw [e]
  exact this
theorem RowL.of_holds {w : World} {g o : Nat} {xs : List Ln} (h : HoldsK encL 4 w g o xs.toArray) : RowL w g o xs := by
  intro j l hj i u hu
  have hjl : j < xs.length := (List.getElem?_eq_some_iff.1 hj).1
  have hi : i < 4 := by have := (List.getElem?_eq_some_iff.1 hu).1; rw [encL_len] at this; exact this
  have := h.cell (i := j) (c := i) (by simpa using hjl) hi
  have e : xs.toArray[j]! = l := by
    rw [getElem!_pos _ _ (by simpa using hjl)]
    rw [List.getElem?_eq_getElem hjl] at hj
    simpa using Option.some.inj hj
  rw [e] at this
  rw [encL_get! l i hi] at hu
  rw [← Option.some.inj hu]
  exact this
theorem cell_storeL_same {w : World} {g p : Nat} (l : Ln) {i : Nat} {u : Value} (hu : (encL l)[i]? = some u) (h : ∀ c, c < 4 → (w.cell? ⟨g, p + c, none⟩).isSome = true) : (storeL w g p l).cell? ⟨g, p + i, none⟩ = some u := by
  have e : storeL w g p l = w.setCells g p (encL l) := rfl
  have hi : i < 4 := by have := (List.getElem?_eq_some_iff.1 hu).1; rw [encL_len] at this; exact this
  rw [e]
  have := World.cell?_setCells_in g (encL l) p w (fun j hj => h j (by simpa [encL_len] using hj)) i (by rw [encL_len]; exact hi)
  rw [this]
  rw [List.getElem?_eq_getElem (by rw [encL_len]; exact hi)] at hu
  exact hu
theorem cell_storeL_other {w : World} {g p q : Nat} (l : Ln) (h : q < p ∨ p + 4 ≤ q) : (storeL w g p l).cell? ⟨g, q, none⟩ = w.cell? ⟨g, q, none⟩ := by
  have e : storeL w g p l = w.setCells g p (encL l) := rfl
  rw [e]
  exact World.cell?_setCells_out g (encL l) p w ⟨g, q, none⟩ (fun _ _ => by rw [encL_len]; exact h)
theorem frozen_storeL {w : World} {g p : Nat} (l : Ln) (a : Addr) : (storeL w g p l).frozen? a = w.frozen? a := by
  have e : storeL w g p l = w.setCells g p (encL l) := rfl
  rw [e]; exact World.frozen?_setCells g (encL l) p w a
theorem RowL.set {w : World} {g o : Nat} {xs : List Ln} (h : RowL w g o xs) {k : Nat} (hk : k < xs.length) (l : Ln) : RowL (storeL w g (o + k * 4) l) g o (xs.set k l) := by
  intro j m hj i u hu
  rw [frozen_storeL]
  have hi : i < 4 := by have := (List.getElem?_eq_some_iff.1 hu).1; rw [encL_len] at this; exact this
  by_cases e : j = k
  · subst e
    rw [List.getElem?_set_self hk] at hj
    cases hj
    have h0 := h j xs[j] (List.getElem?_eq_getElem hk)
    refine ⟨cell_storeL_same l hu fun c hc => ?_, (h0 i _ (encL_get! _ i hi)).2⟩
    rw [(h0 c _ (encL_get! _ c hc)).1]; rfl
  · rw [List.getElem?_set_ne (fun e2 => e e2.symm)] at hj
    have h0 := h j m hj i u hu
    refine ⟨?_, h0.2⟩
    rw [cell_storeL_other l (by omega)]
    exact h0.1
end Go.Proofs.Ytbccbokjecdaaaa
