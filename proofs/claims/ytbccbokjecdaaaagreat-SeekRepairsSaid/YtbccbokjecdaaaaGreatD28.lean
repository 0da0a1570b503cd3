/- The parts of a patch, and the order in which the smallest good one is looked for: plain laws. -/
import Derived.Test.YtbccbokjecdaaaaGreatD21
import Derived.Test.YtbccbokjecdaaaaGreatD27
namespace Go.Proofs.YtbccbokjecdaaaaGreat
open Go.RowKit

def plcE (x : List Ed) : List Int := x.map Ed.at_
def codeL : List Int → Int
  | [] => 0
  | x :: r => x * 8 ^ r.length + codeL r
theorem codeL_lt : ∀ l : List Int, (∀ i ∈ l, 0 ≤ i ∧ i < 8) → 0 ≤ codeL l ∧ codeL l < 8 ^ l.length
  | [], _ => by simp [codeL]
  | x :: r, h => by
    obtain ⟨h1, h2⟩ := codeL_lt r fun i hi => h i (by simp [hi])
    obtain ⟨h3, h4⟩ := h x (by simp)
    have hP : (0 : Int) ≤ 8 ^ r.length := Int.le_of_lt (Int.lt_of_le_of_lt h1 h2)
    rw [codeL, List.length_cons, Int.pow_succ]
    have h5 : x * 8 ^ r.length ≤ 7 * 8 ^ r.length := Int.mul_le_mul_of_nonneg_right (by omega) hP
    have h6 : 0 ≤ x * 8 ^ r.length := Int.mul_nonneg h3 hP
    exact ⟨by omega, by omega⟩
theorem cmpI_add (a b c : Int) : cmpI (a + c) (b + c) = cmpI a b := by unfold cmpI; repeat' split <;> (try omega)
theorem cmpI_of_lt {a b : Int} (h : a < b) : cmpI a b = -1 := by unfold cmpI; repeat' split <;> (try omega)
theorem cmpI_of_gt {a b : Int} (h : b < a) : cmpI a b = 1 := by unfold cmpI; repeat' split <;> (try omega)
theorem cmpI_self (a : Int) : cmpI a a = 0 := by unfold cmpI; repeat' split <;> (try omega)
theorem cmpIs_code : ∀ a b : List Int, a.length = b.length → (∀ i ∈ a, 0 ≤ i ∧ i < 8) → (∀ i ∈ b, 0 ≤ i ∧ i < 8) → cmpIs a b = cmpI (codeL a) (codeL b)
  | [], [], _, _, _ => by rfl
  | [], _ :: _, h, _, _ => by simp at h
  | _ :: _, [], h, _, _ => by simp at h
  | x :: a, y :: b, h, ha, hb => by
    have hl : a.length = b.length := by simpa using h
    have ih := cmpIs_code a b hl (fun i hi => ha i (by simp [hi])) fun i hi => hb i (by simp [hi])
    obtain ⟨a1, a2⟩ := codeL_lt a fun i hi => ha i (by simp [hi])
    obtain ⟨b1, b2⟩ := codeL_lt b fun i hi => hb i (by simp [hi])
    have hP : (0 : Int) ≤ 8 ^ b.length := Int.le_of_lt (Int.lt_of_le_of_lt b1 b2)
    rw [show cmpIs (x :: a) (y :: b) = if cmpI x y = 0 then cmpIs a b else cmpI x y from rfl, codeL, codeL, hl]
    rw [hl] at a2
    by_cases hxy : x = y
    · subst hxy
      rw [if_pos (cmpI_self x), ih, Int.add_comm, Int.add_comm _ (codeL b), cmpI_add]
    · have hne : ¬ cmpI x y = 0 := fun e => hxy (cmpI_zero.1 e)
      rw [if_neg hne]
      have hq : ∀ u v : Int, u < v → u * 8 ^ b.length + 8 ^ b.length ≤ v * 8 ^ b.length := by
        intro u v huv
        have := Int.mul_le_mul_of_nonneg_right (show u + 1 ≤ v by omega) hP
        rw [Int.add_mul, Int.one_mul] at this
        exact this
      by_cases hlt : x < y
      · have := hq x y hlt
        rw [cmpI_of_lt hlt, cmpI_of_lt (by omega)]
      · have := hq y x (by omega)
        rw [cmpI_of_gt (show y < x by omega), cmpI_of_gt (by omega)]
/-- By how many edits, and then by the places, as one number. -/
def keyE (x : List Ed) : Int := (x.length : Int) * 4096 + codeL (plcE x)
theorem keyE_cmp {x y : List Ed} (hx : x.length ≤ 4) (hy : y.length ≤ 4) (ax : ∀ e ∈ x, 0 ≤ e.at_ ∧ e.at_ < 8) (ay : ∀ e ∈ y, 0 ≤ e.at_ ∧ e.at_ < 8) : cmpI (keyE x) (keyE y) = if cmpI (x.length : Int) (y.length : Int) = 0 then cmpIs (plcE x) (plcE y) else cmpI (x.length : Int) (y.length : Int) := by
  have px : ∀ i ∈ plcE x, 0 ≤ i ∧ i < 8 := by intro i hi; obtain ⟨e, he, rfl⟩ := List.mem_map.1 hi; exact ax e he
  have py : ∀ i ∈ plcE y, 0 ≤ i ∧ i < 8 := by intro i hi; obtain ⟨e, he, rfl⟩ := List.mem_map.1 hi; exact ay e he
  obtain ⟨a1, a2⟩ := codeL_lt _ px
  obtain ⟨b1, b2⟩ := codeL_lt _ py
  have hp : ∀ n : Nat, n ≤ 4 → (8 : Int) ^ n ≤ 4096 := by
    intro n hn
    have : n = 0 ∨ n = 1 ∨ n = 2 ∨ n = 3 ∨ n = 4 := by omega
    rcases this with rfl | rfl | rfl | rfl | rfl <;> decide
  have lx := hp (plcE x).length (by unfold plcE; rw [List.length_map]; exact hx)
  have ly := hp (plcE y).length (by unfold plcE; rw [List.length_map]; exact hy)
  unfold keyE
  by_cases h : x.length = y.length
  · rw [h, if_pos (cmpI_self _), Int.add_comm, Int.add_comm _ (codeL (plcE y)), cmpI_add, cmpIs_code _ _ (by unfold plcE; rw [List.length_map, List.length_map]; exact h) px py]
  · rw [if_neg (fun e => h (by have := cmpI_zero.1 e; omega))]
    by_cases hlt : x.length < y.length
    · rw [cmpI_of_lt (show (x.length : Int) < y.length by omega), cmpI_of_lt (by omega)]
    · rw [cmpI_of_gt (show (y.length : Int) < x.length by omega), cmpI_of_gt (by omega)]
/-- The parts of a patch, in the order in which they are made. -/
def partsN (x : List Ed) : List (List Ed) := x.foldl (fun out e => out ++ out.map fun t => t ++ [e]) [[]]
theorem partsN_snoc (x : List Ed) (e : Ed) : partsN (x ++ [e]) = partsN x ++ (partsN x).map fun t => t ++ [e] := by unfold partsN; rw [List.foldl_append]; rfl
theorem partsN_take {x : List Ed} {k : Nat} {e : Ed} (h : x[k]? = some e) : partsN (x.take (k + 1)) = partsN (x.take k) ++ (partsN (x.take k)).map fun t => t ++ [e] := by
  rw [List.take_add_one, h]; exact partsN_snoc _ _
theorem partsN_len (x : List Ed) : ∀ k, (partsN (x.take k)).length ≤ 2 ^ k
  | 0 => by simp [partsN]
  | k + 1 => by
    have ih := partsN_len x k
    cases h : x[k]? with
    | none => rw [List.take_add_one, h]; simp; rw [Nat.pow_succ]; omega
    | some e => rw [partsN_take h, List.length_append, List.length_map, Nat.pow_succ]; omega
theorem partsN_sub (x : List Ed) : ∀ (k : Nat) (t : List Ed), t ∈ partsN (x.take k) → t.Sublist (x.take k)
  | 0, t, h => by simp [partsN] at h; subst h; simp
  | k + 1, t, h => by
    cases hk : x[k]? with
    | none => rw [List.take_add_one, hk] at h ⊢; simp at h ⊢; exact partsN_sub x k t h
    | some e =>
      rw [partsN_take hk] at h
      rw [List.take_add_one, hk]
      rcases List.mem_append.1 h with h | h
      · exact (partsN_sub x k t h).trans (List.sublist_append_left _ _)
      · obtain ⟨u, hu, rfl⟩ := List.mem_map.1 h
        exact (partsN_sub x k u hu).append (List.Sublist.refl _)
theorem partsN_mem {x t : List Ed} (h : t ∈ partsN x) : t.length ≤ x.length ∧ ∀ e ∈ t, e ∈ x := by
  have := partsN_sub x x.length t (by rw [List.take_length]; exact h)
  rw [List.take_length] at this
  exact ⟨this.length_le, fun e he => this.subset he⟩
theorem partsN_self (x : List Ed) : x ∈ partsN x := by
  have : ∀ k, x.take k ∈ partsN (x.take k) := by
    intro k
    induction k with
    | zero => simp [partsN]
    | succ k ih =>
      cases hk : x[k]? with
      | none => rw [List.take_add_one, hk]; simpa using ih
      | some e =>
        rw [partsN_take hk]
        refine List.mem_append_right _ (List.mem_map.2 ⟨_, ih, ?_⟩)
        rw [List.take_add_one, hk]; rfl
  have h := this x.length
  rwa [List.take_length] at h
/-- The good parts. -/
def goodsN (p : List Ln) (x : List Ed) (ts : List Tst) : List (List Ed) := (partsN x).filter fun t => goodM p t ts
/-- Whether a patch is minimal, by what a search for the smallest good part has found. -/
def MinP (p : List Ln) (x : List Ed) (ts : List Tst) (b : Bool) : Prop := (goodsN p x ts = [] ∧ b = false) ∨ ∃ (j : Nat) (t : List Ed), (goodsN p x ts)[j]? = some t ∧ FirstMin ((goodsN p x ts).map keyE) j (keyE t) ∧ b = decide (t.length = x.length)
theorem MinP.yes {p : List Ln} {x : List Ed} {ts : List Tst} {b : Bool} (h : MinP p x ts b) (hg : goodM p x ts = true) (hno : ∀ t ∈ partsN x, t.length < x.length → goodM p t ts = false) : b = true := by
  have hm : x ∈ goodsN p x ts := List.mem_filter.2 ⟨partsN_self x, hg⟩
  rcases h with ⟨h, _⟩ | ⟨j, t, h1, _, rfl⟩
  · rw [h] at hm; cases hm
  · obtain ⟨h2, h3⟩ := List.mem_filter.1 (List.mem_of_getElem? h1)
    have h4 := (partsN_mem h2).1
    rw [decide_eq_true_eq]
    by_cases h5 : t.length < x.length
    · rw [hno t h2 h5] at h3; cases h3
    · omega
theorem parts_one (e : Ed) : partsN [e] = [[], [e]] := rfl
theorem parts_two (e f : Ed) : partsN [e, f] = [[], [e], [f], [e, f]] := rfl
end Go.Proofs.YtbccbokjecdaaaaGreat
