/- A row of edits that the call has made and that is written in place: its cells, and how the shelf's sort says it. No program is named. -/
import Derived.Test.YtbccbokjecdaaaaGreatB04
import Derived.Test.YtbccbokjecdaaaaGreatB02
import Derived.Shelf.GgSortFunc.RowK
import Derived.Laws.IdiomCopy
namespace Go.Proofs.YtbccbokjecdaaaaGreat
open Go.RowKit
open Go.Sort (HoldsK Holds flatK get_flatK size_flatK blk_iff)

instance : Inhabited Ed := ⟨⟨0, ⟨0, 0, 0, 0⟩⟩⟩
/-- The block g holds the lines xs from the place o on, and they can be written. -/
def RowE (w : World) (g o : Nat) (xs : List Ed) : Prop := ∀ (j : Nat) (l : Ed), xs[j]? = some l → ∀ (i : Nat) (u : Value), (encE l)[i]? = some u → w.cell? ⟨g, o + j * 5 + i, none⟩ = some u ∧ w.frozen? ⟨g, o + j * 5 + i, none⟩ = false
theorem RowE.grow {w w' : World} {g o : Nat} {xs : List Ed} (h : RowE w g o xs) (hg : Grow w w') (hb : g < w.heap.size) : RowE w' g o xs := by
  intro j l hj i u hu
  obtain ⟨h1, h2⟩ := h j l hj i u hu
  exact ⟨hg.cell h1, (hg.cellsB.2 g _ hb).trans h2⟩
theorem RowE.of_own {w : World} {base e g n cap : Nat} {xs : List Ed} (h : w.ownsRow base e 5 (.slice (some ⟨g, 0, none⟩) n cap) xs.length (xs.flatMap encE)) : RowE w g 0 xs := by
  have hn : n = xs.length := by
    rcases h.2 with ⟨h2, _⟩ | ⟨g', cap', cur, hv, _⟩
    · cases h2
    · cases hv; rfl
  subst hn
  have hs := slc_of_owns encE_len h
  intro j l hj i u hu
  obtain ⟨_, _, e1, _, _, h4⟩ := hs
  cases e1
  rcases h4 with ⟨h4, _⟩ | ⟨b, o, e2, _, hc⟩
  · rw [h4] at hj; simp at hj
  · cases e2
    refine ⟨hc j l hj i u hu, ownsRow_free h _⟩
theorem RowE.slc {w : World} {g o c : Nat} {xs : List Ed} (h : RowE w g o xs) (hb : g < w.heap.size) (hc : xs.length ≤ c) (hm : c ≤ 9223372036854775807) : EditsAt w (.slice (some ⟨g, o, none⟩) xs.length c) xs :=
  ⟨_, c, rfl, hc, hm, .inr ⟨g, o, rfl, hb, fun j x hx i u hu => (h j x hx i u hu).1⟩⟩
theorem encE_get! (l : Ed) (i : Nat) (hi : i < 5) : (encE l)[i]? = some (encE l)[i]! := by
  have : i = 0 ∨ i = 1 ∨ i = 2 ∨ i = 3 ∨ i = 4 := by omega
  rcases this with rfl | rfl | rfl | rfl | rfl <;> rfl
theorem RowE.holds {w : World} {g o : Nat} {xs : List Ed} (h : RowE w g o xs) : HoldsK encE 5 w g o xs.toArray := by
  intro t ht
  rw [size_flatK] at ht
  have ht' : t < xs.length * 5 := by simpa using ht
  rw [get_flatK _ _ _ _ ht]
  have hq : t / 5 < xs.length := by omega
  have hj : xs[t / 5]? = some xs[t / 5] := List.getElem?_eq_getElem hq
  have e : xs.toArray[t / 5]! = xs[t / 5] := by rw [getElem!_pos _ _ (by simpa using hq)]; simp
  have := h (t / 5) _ hj (t % 5) _ (encE_get! _ _ (Nat.mod_lt _ (by omega)))
  rw [show o + t / 5 * 5 + t % 5 = o + t by omega] at this
  rw [e]
  exact this
theorem RowE.of_holds {w : World} {g o : Nat} {xs : List Ed} (h : HoldsK encE 5 w g o xs.toArray) : RowE w g o xs := by
  intro j l hj i u hu
  have hjl : j < xs.length := (List.getElem?_eq_some_iff.1 hj).1
  have hi : i < 5 := by have := (List.getElem?_eq_some_iff.1 hu).1; rw [encE_len] at this; exact this
  have := h.cell (i := j) (c := i) (by simpa using hjl) hi
  have e : xs.toArray[j]! = l := by
    rw [getElem!_pos _ _ (by simpa using hjl)]
    rw [List.getElem?_eq_getElem hjl] at hj
    simpa using Option.some.inj hj
  rw [e] at this
  rw [encE_get! l i hi] at hu
  rw [← Option.some.inj hu]
  exact this
/-! ### The order of edits -/
def cmpE (x y : Ed) : Int := orI [cmpI x.at_ y.at_, cmpL x.l y.l]
def ltE (x y : Ed) : Prop := x.at_ < y.at_ ∨ (x.at_ = y.at_ ∧ ltP x.l y.l)
instance (x y : Ed) : Decidable (ltE x y) := by unfold ltE; exact inferInstance
theorem ltE_irrefl (x : Ed) : ¬ ltE x x := by
  rintro (h | ⟨_, h⟩)
  · omega
  · exact ltP_irrefl _ h
theorem ltE_trans {x y z : Ed} (h : ltE x y) (k : ltE y z) : ltE x z := by
  rcases h with h | ⟨h, h2⟩ <;> rcases k with k | ⟨k, k2⟩
  · exact .inl (by omega)
  · exact .inl (by omega)
  · exact .inl (by omega)
  · exact .inr ⟨by omega, ltP_trans h2 k2⟩
theorem ltE_total (x y : Ed) : ltE x y ∨ x = y ∨ ltE y x := by
  obtain ⟨a, l⟩ := x
  obtain ⟨b, m⟩ := y
  unfold ltE
  dsimp only
  by_cases h : a < b
  · exact .inl (.inl h)
  · by_cases h2 : b < a
    · exact .inr (.inr (.inl h2))
    · have e : a = b := by omega
      subst e
      rcases ltP_total l m with k | k | k
      · exact .inl (.inr ⟨rfl, k⟩)
      · subst k; exact .inr (.inl rfl)
      · exact .inr (.inr (.inr ⟨rfl, k⟩))
theorem cmpE_lt (x y : Ed) : decide (cmpE x y < 0) = decide (ltE x y) := by
  have h1 := cmpL_lt x.l y.l
  rw [ltL_def, decide_eq_decide] at h1
  rw [decide_eq_decide]
  unfold ltE
  rw [← h1]
  have e : cmpE x y = if cmpI x.at_ y.at_ = 0 then (if cmpL x.l y.l = 0 then 0 else cmpL x.l y.l) else cmpI x.at_ y.at_ := rfl
  rw [e]
  unfold cmpI
  split <;> split <;> (try split) <;> omega
theorem ascE_ext : ∀ (l m : List Ed), l.Pairwise ltE → m.Pairwise ltE → (∀ x, x ∈ l ↔ x ∈ m) → l = m
  | [], [], _, _, _ => rfl
  | [], y :: m, _, _, h => by have := (h y).2 (by simp); simp at this
  | x :: l, [], _, _, h => by have := (h x).1 (by simp); simp at this
  | x :: l, y :: m, hl, hm, h => by
    obtain ⟨l1, l2⟩ := List.pairwise_cons.1 hl
    obtain ⟨m1, m2⟩ := List.pairwise_cons.1 hm
    have hxy : x = y := by
      rcases List.mem_cons.1 ((h x).1 (by simp)) with e | e
      · exact e
      · rcases List.mem_cons.1 ((h y).2 (by simp)) with e' | e'
        · exact e'.symm
        · exact absurd (ltE_trans (m1 x e) (l1 y e')) (ltE_irrefl _)
    subst hxy
    refine congrArg (x :: ·) (ascE_ext l m l2 m2 fun z => ?_)
    constructor
    · intro hz
      rcases List.mem_cons.1 ((h z).1 (by simp [hz])) with e | e
      · subst e; exact absurd (l1 z hz) (ltE_irrefl _)
      · exact e
    · intro hz
      rcases List.mem_cons.1 ((h z).2 (by simp [hz])) with e | e
      · subst e; exact absurd (m1 z hz) (ltE_irrefl _)
      · exact e
/-- A list that rises stays as it is when it is sorted. -/
theorem ascE_sorted {xs ys : List Ed} (hx : xs.Pairwise ltE) (hp : ys.Perm xs) (hw : ys.Pairwise fun x y => ¬ ltE y x) : ys = xs := by
  have hnd : ys.Nodup := hp.nodup_iff.2 (hx.imp fun {a b} h e => by subst e; exact ltE_irrefl _ h)
  refine ascE_ext ys xs ?_ hx fun z => hp.mem_iff
  refine (hw.and hnd).imp fun {a b} h => ?_
  rcases ltE_total a b with k | k | k
  · exact k
  · exact absurd k h.2
  · exact absurd k h.1
end Go.Proofs.YtbccbokjecdaaaaGreat
