/-
Covers, plainly: ascending lists of rows, the first smallest one that a search finds, the greedy order's beginnings. No program is named.
Suites as lists of lists of numbers: which are right, what a row meets; lists of places as numbers. No program is named.
The search for the smallest cover, step by step, plainly. No program is named.
The search for the best order, plainly. No program is named.
A sort by exchanges, plainly. No program is named.
The greedy order grows by a row, plainly. No program is named.
-/
import Derived.Test.YtfbfkkaepgcggaaGreatQ01
namespace Go.Proofs.YtfbfkkaepgcggaaGreat

/-- An ascending list of numbers from f to n - 1. -/
def ascF (n : Nat) : Nat → List Nat → Prop
  | _, [] => True
  | f, x :: r => f ≤ x ∧ x < n ∧ ascF n (x + 1) r
theorem ascF_mono {n : Nat} : ∀ {l : List Nat} {f f' : Nat}, f' ≤ f → ascF n f l → ascF n f' l
  | [], _, _, _, _ => trivial
  | _ :: _, _, _, h, ⟨h1, h2, h3⟩ => ⟨Nat.le_trans h h1, h2, h3⟩
theorem ascF_mem {n : Nat} : ∀ {l : List Nat} {f x : Nat}, ascF n f l → x ∈ l → f ≤ x ∧ x < n
  | y :: r, f, x, ⟨h1, h2, h3⟩, hx => by
    rcases List.mem_cons.1 hx with rfl | hx
    · exact ⟨h1, h2⟩
    · have := ascF_mem h3 hx; omega
theorem ascF_len {n : Nat} : ∀ {l : List Nat} {f : Nat}, ascF n f l → l.length = 0 ∨ f + l.length ≤ n
  | [], _, _ => .inl rfl
  | y :: r, f, ⟨h1, h2, h3⟩ => by
    right
    rw [List.length_cons]
    rcases ascF_len h3 with h | h <;> omega
theorem ascF_range' {n : Nat} : ∀ {k f : Nat}, f + k ≤ n → ascF n f (List.range' f k)
  | 0, _, _ => trivial
  | k + 1, f, h => by
    rw [List.range'_succ]
    exact ⟨Nat.le_refl _, by omega, ascF_range' (by omega)⟩
theorem ascF_range (n : Nat) : ascF n 0 (List.range n) := by rw [List.range_eq_range']; exact ascF_range' (by omega)
theorem ascF_erase {n : Nat} : ∀ {l : List Nat} {f : Nat} (i : Nat), ascF n f l → ascF n f (l.eraseIdx i)
  | [], _, _, _ => trivial
  | y :: r, f, 0, ⟨h1, h2, h3⟩ => ascF_mono (by omega) h3
  | y :: r, f, i + 1, ⟨h1, h2, h3⟩ => ⟨h1, h2, ascF_erase i h3⟩
/-- Ascending lists with the same numbers are the same. -/
theorem asc_ext {n : Nat} : ∀ {a b : List Nat} {f g : Nat}, ascF n f a → ascF n g b → (∀ x, x ∈ a ↔ x ∈ b) → a = b
  | [], [], _, _, _, _, _ => rfl
  | [], y :: b, _, _, _, _, h => by have := (h y).2 (List.mem_cons_self ..); cases this
  | x :: a, [], _, _, _, _, h => by have := (h x).1 (List.mem_cons_self ..); cases this
  | x :: a, y :: b, f, g, ⟨h1, h2, h3⟩, ⟨k1, k2, k3⟩, h => by
    have e : x = y := by
      have hx := (h x).1 (List.mem_cons_self ..)
      have hy := (h y).2 (List.mem_cons_self ..)
      rcases List.mem_cons.1 hx with e | hx
      · exact e
      rcases List.mem_cons.1 hy with e | hy
      · exact e.symm
      have := ascF_mem k3 hx
      have := ascF_mem h3 hy
      omega
    subst e
    congr 1
    refine asc_ext h3 k3 fun z => ?_
    constructor
    · intro hz
      rcases List.mem_cons.1 ((h z).1 (List.mem_cons_of_mem _ hz)) with e | h5
      · have := ascF_mem h3 hz; omega
      · exact h5
    · intro hz
      rcases List.mem_cons.1 ((h z).2 (List.mem_cons_of_mem _ hz)) with e | h5
      · have := ascF_mem k3 hz; omega
      · exact h5

/-- Which of two lists comes first. -/
def lexN : List Nat → List Nat → Bool
  | [], [] => false
  | [], _ :: _ => true
  | _ :: _, [] => false
  | x :: a, y :: b => if x = y then lexN a b else decide (x < y)
theorem lexN_asymm : ∀ {a b : List Nat}, lexN a b = true → lexN b a = true → False
  | [], [], h, _ => by cases h
  | [], _ :: _, _, h => by cases h
  | _ :: _, [], h, _ => by cases h
  | x :: a, y :: b, h1, h2 => by
    unfold lexN at h1 h2
    by_cases e : x = y
    · subst e
      rw [if_pos rfl] at h1 h2
      exact lexN_asymm h1 h2
    · rw [if_neg e] at h1
      rw [if_neg (fun e' => e e'.symm)] at h2
      simp at h1 h2
      omega

/-- The search: the first list with so many rows more that is a cover. -/
def srch (cov : List Nat → Bool) (n : Nat) : Nat → List Nat → Nat → Option (List Nat)
  | 0, set, _ => if cov set then some set else none
  | more + 1, set, frm => (List.range' frm (n - more - frm)).findSome? fun r => srch cov n more (set ++ [r]) (r + 1)
theorem find_range {β : Type} (F : Nat → Option β) : ∀ {k f : Nat} {D : β}, (List.range' f k).findSome? F = some D → ∃ r, f ≤ r ∧ r < f + k ∧ F r = some D ∧ ∀ r', f ≤ r' → r' < r → F r' = none
  | 0, f, D, h => by cases h
  | k + 1, f, D, h => by
    rw [List.range'_succ, List.findSome?_cons] at h
    cases hf : F f with
    | some d =>
      rw [hf] at h
      refine ⟨f, Nat.le_refl _, by omega, by rw [hf]; exact h, fun r' h1 h2 => by omega⟩
    | none =>
      rw [hf] at h
      obtain ⟨r, h1, h2, h3, h4⟩ := find_range F (k := k) (f := f + 1) h
      refine ⟨r, by omega, by omega, h3, fun r' h5 h6 => ?_⟩
      by_cases e : r' = f
      · rw [e]; exact hf
      · exact h4 r' (by omega) h6
theorem find_none {β : Type} (F : Nat → Option β) {k f : Nat} (h : (List.range' f k).findSome? F = none) (r : Nat) (h1 : f ≤ r) (h2 : r < f + k) : F r = none := by
  rw [List.findSome?_eq_none_iff] at h
  exact h r (List.mem_range'_1.2 ⟨h1, h2⟩)
theorem srch_none {cov : List Nat → Bool} {n : Nat} : ∀ {more frm : Nat} {set : List Nat}, srch cov n more set frm = none → ∀ Y, ascF n frm Y → Y.length = more → cov (set ++ Y) = false
  | 0, frm, set, h, Y, _, hl => by
    have e : Y = [] := List.length_eq_zero_iff.1 hl
    subst e
    unfold srch at h
    rw [List.append_nil]
    cases hc : cov set with
    | true => rw [hc] at h; cases h
    | false => rfl
  | more + 1, frm, set, h, Y, ha, hl => by
    cases Y with
    | nil => cases hl
    | cons y Y =>
      obtain ⟨h1, h2, h3⟩ := ha
      rw [List.length_cons, Nat.add_right_cancel_iff] at hl
      have hy : y < frm + (n - more - frm) := by rcases ascF_len h3 with h4 | h4 <;> omega
      unfold srch at h
      have h5 := find_none _ h y h1 hy
      have h6 := srch_none h5 Y h3 hl
      rw [List.append_assoc] at h6
      exact h6
theorem srch_some {cov : List Nat → Bool} {n : Nat} : ∀ {more frm : Nat} {set D : List Nat}, srch cov n more set frm = some D →
    ∃ X, D = set ++ X ∧ X.length = more ∧ ascF n frm X ∧ cov D = true ∧ ∀ Y, ascF n frm Y → Y.length = more → cov (set ++ Y) = true → Y = X ∨ lexN X Y = true
  | 0, frm, set, D, h => by
    unfold srch at h
    cases hc : cov set with
    | false => rw [hc] at h; cases h
    | true =>
      rw [hc] at h
      cases h
      exact ⟨[], by simp, rfl, trivial, hc, fun Y _ hl _ => .inl (List.length_eq_zero_iff.1 hl)⟩
  | more + 1, frm, set, D, h => by
    unfold srch at h
    obtain ⟨r, h1, h2, h3, h4⟩ := find_range _ h
    obtain ⟨X, h5, h6, h7, h8, h9⟩ := srch_some h3
    refine ⟨r :: X, by rw [h5, List.append_assoc]; rfl, by rw [List.length_cons, h6], ⟨h1, by omega, h7⟩, h8, ?_⟩
    intro Y hY hl hc
    cases Y with
    | nil => cases hl
    | cons y Y =>
      obtain ⟨k1, k2, k3⟩ := hY
      rw [List.length_cons, Nat.add_right_cancel_iff] at hl
      by_cases e : y = r
      · subst e
        rcases h9 Y k3 hl (by rw [List.append_assoc]; exact hc) with e | hlex
        · left; rw [e]
        · right; unfold lexN; rw [if_pos rfl]; exact hlex
      · by_cases hlt : y < r
        · have h10 := srch_none (h4 y k1 hlt) Y k3 hl
          rw [List.append_assoc] at h10
          change cov (set ++ y :: Y) = false at h10
          rw [hc] at h10; cases h10
        · right
          unfold lexN
          rw [if_neg (fun e' => e e'.symm)]
          simp
          omega
/-- The smallest cover. -/
def coverN (cov : List Nat → Bool) (n : Nat) : Option (List Nat) := (List.range' 0 (n + 1)).findSome? fun many => srch cov n many [] 0
/-- What the smallest cover is, whatever finds it: no other one is smaller, and of those that are as small it comes first. -/
structure Smallest (cov : List Nat → Bool) (n : Nat) (C : List Nat) : Prop where
  asc : ascF n 0 C
  isC : cov C = true
  best : ∀ Y, ascF n 0 Y → cov Y = true → C.length < Y.length ∨ C.length = Y.length ∧ (Y = C ∨ lexN C Y = true)
theorem Smallest.le {cov : List Nat → Bool} {n : Nat} {C : List Nat} (h : Smallest cov n C) {Y : List Nat} (hY : ascF n 0 Y) (hc : cov Y = true) : C.length ≤ Y.length := by
  rcases h.best Y hY hc with h | h <;> omega
theorem Smallest.eq {cov : List Nat → Bool} {n : Nat} {C D : List Nat} (h : Smallest cov n C) (k : Smallest cov n D) : C = D := by
  rcases h.best D k.asc k.isC with h1 | ⟨h1, h2⟩
  · have := k.le h.asc h.isC; omega
  · rcases h2 with e | h2
    · exact e.symm
    · rcases k.best C h.asc h.isC with h3 | ⟨h3, h4⟩
      · omega
      · rcases h4 with e | h4
        · exact e
        · exact (lexN_asymm h2 h4).elim
theorem Smallest.less {cov : List Nat → Bool} {n : Nat} {C : List Nat} (h : Smallest cov n C) (i : Nat) (hi : i < C.length) : cov (C.eraseIdx i) = false := by
  cases hc : cov (C.eraseIdx i) with
  | false => rfl
  | true =>
    have := h.le (ascF_erase i h.asc) hc
    rw [List.length_eraseIdx, if_pos hi] at this
    omega
theorem coverN_some {cov : List Nat → Bool} {n : Nat} (hall : cov (List.range n) = true) : ∃ C, coverN cov n = some C ∧ Smallest cov n C := by
  unfold coverN
  cases h : (List.range' 0 (n + 1)).findSome? fun many => srch cov n many [] 0 with
  | none =>
    have h1 := find_none _ h n (Nat.zero_le _) (by omega)
    have h2 := srch_none h1 _ (ascF_range n) List.length_range
    rw [List.nil_append, hall] at h2
    cases h2
  | some C =>
    obtain ⟨m, h1, h2, h3, h4⟩ := find_range _ h
    obtain ⟨X, h5, h6, h7, h8, h9⟩ := srch_some h3
    rw [List.nil_append] at h5
    subst h5
    refine ⟨_, rfl, h7, h8, fun Y hY hc => ?_⟩
    have hlen : ¬ Y.length < m := fun hl => by
      have h10 := srch_none (h4 Y.length (Nat.zero_le _) hl) Y hY rfl
      rw [List.nil_append, hc] at h10
      cases h10
    by_cases e : Y.length = m
    · right
      exact ⟨by omega, h9 Y hY e (by rw [List.nil_append]; exact hc)⟩
    · left; omega

/-- Two choices from a list, the one among the other, of the same length, are the same. -/
theorem filter_same {p q : Nat → Bool} : ∀ {l : List Nat}, (∀ g ∈ l, p g = true → q g = true) → (l.filter p).length = (l.filter q).length → l.filter p = l.filter q
  | [], _, _ => rfl
  | g :: l, h, hl => by
    have hsub := fun x hx => h x (List.mem_cons_of_mem _ hx)
    have hle : (l.filter p).length ≤ (l.filter q).length := by
      rw [← List.countP_eq_length_filter, ← List.countP_eq_length_filter]
      exact List.countP_mono_left hsub
    rw [List.filter_cons, List.filter_cons] at hl ⊢
    cases hp : p g with
    | true =>
      rw [hp, h g (List.mem_cons_self ..) hp] at hl
      simp only [if_true, List.length_cons] at hl ⊢
      rw [h g (List.mem_cons_self ..) hp]
      simp only [if_true]
      rw [filter_same hsub (by omega)]
    | false =>
      cases hq : q g with
      | true =>
        rw [hp, hq] at hl
        simp at hl
        omega
      | false =>
        rw [hp, hq] at hl
        simp only [Bool.false_eq_true, if_false] at hl ⊢
        exact filter_same hsub hl
/-- The goals that some row meets; whether rows are a cover. -/
def openH (hit : Nat → Nat → Bool) (G n : Nat) : List Nat := metH hit G (List.range n)
def covH (hit : Nat → Nat → Bool) (G n : Nat) (S : List Nat) : Bool := decide ((metH hit G S).length = (openH hit G n).length)
theorem met_sub {hit : Nat → Nat → Bool} {n : Nat} {S : List Nat} (hS : ∀ r ∈ S, r < n) {g : Nat} (h : (S.any fun r => hit r g) = true) : ((List.range n).any fun r => hit r g) = true := by
  obtain ⟨r, hr, hh⟩ := List.any_eq_true.1 h
  exact List.any_eq_true.2 ⟨r, List.mem_range.2 (hS r hr), hh⟩
theorem cov_met {hit : Nat → Nat → Bool} {G n : Nat} {S : List Nat} (hS : ∀ r ∈ S, r < n) (h : covH hit G n S = true) : metH hit G S = openH hit G n :=
  filter_same (fun _ _ hg => met_sub hS hg) (of_decide_eq_true h)
theorem cov_iff {hit : Nat → Nat → Bool} {G n : Nat} {S : List Nat} (hS : ∀ r ∈ S, r < n) : covH hit G n S = true ↔ ∀ g ∈ openH hit G n, (S.any fun r => hit r g) = true := by
  constructor
  · intro h g hg
    rw [← cov_met hS h] at hg
    exact (List.mem_filter.1 hg).2
  · intro h
    unfold covH
    rw [decide_eq_true_eq]
    congr 1
    unfold openH metH
    refine List.filter_congr fun g hg => ?_
    cases hq : (List.range n).any fun r => hit r g with
    | true => exact h g (List.mem_filter.2 ⟨hg, hq⟩)
    | false =>
      cases hp : S.any fun r => hit r g with
      | false => rfl
      | true => rw [met_sub hS hp] at hq; cases hq
theorem cov_range (hit : Nat → Nat → Bool) (G n : Nat) : covH hit G n (List.range n) = true := by unfold covH openH; simp
/-- No cover is smaller than goals which exclude each other. -/
theorem apart_le_cover {hit : Nat → Nat → Bool} {G n : Nat} {A C : List Nat} (hC : ∀ r ∈ C, r < n) (hc : covH hit G n C = true) (hA : ∀ g ∈ A, g ∈ openH hit G n) (hx : ∀ r, r < n → cntF (hit r) A ≤ 1) : A.length ≤ C.length := by
  have h1 := excl_le (hit := hit) (apart := A) (set := C) fun r hr => hx r (hC r hr)
  have h2 : cntF (fun g => C.any fun r => hit r g) A = A.length := by
    unfold cntF
    rw [List.filter_eq_self.2]
    intro g hg
    exact (cov_iff hC).1 hc g (hA g hg)
  omega

/-- The wait of an order. -/
def waitH (hit : Nat → Nat → Bool) (l o : List Nat) : Nat := (l.map fun g => o.findIdx (fun r => hit r g) + 1).sum
theorem wait_eq {hit : Nat → Nat → Bool} {G n : Nat} {o : List Nat} (ho : o.Perm (List.range n)) : waitH hit (openH hit G n) o = sumN (unmet hit (openH hit G n) o) n := by
  have hl : o.length = n := by rw [ho.length_eq, List.length_range]
  unfold waitH
  rw [wait_sum]
  · rw [hl]
  · intro g hg
    rw [List.findIdx_lt_length]
    obtain ⟨r, hr, hh⟩ := List.any_eq_true.1 (List.mem_filter.1 hg).2
    exact ⟨r, ho.mem_iff.2 hr, hh⟩
/-- The order in which each next row meets the most new goals. -/
def GreedyH (hit : Nat → Nat → Bool) (G n : Nat) (gr : List Nat) : Prop :=
  ∀ i, (h : i < gr.length) → ∀ r, r < n → (metH hit G (gr.take i ++ [r])).length ≤ (metH hit G (gr.take i ++ [gr[i]])).length
theorem met_new (hit : Nat → Nat → Bool) (G : Nat) (A : List Nat) (r : Nat) : (metH hit G (A ++ [r])).length = (metH hit G A).length + cntF (fun g => hit r g && !(A.any fun x => hit x g)) (List.range G) := by
  have := cntF_split (fun g => A.any fun x => hit x g) (hit r) (List.range G)
  unfold metH cntF at *
  rw [← this]
  congr 2
  funext g
  rw [List.any_append]
  simp
theorem cnt_open {hit : Nat → Nat → Bool} {G n : Nat} {A : List Nat} {r : Nat} (hr : r < n) : cntF (fun g => hit r g && !(A.any fun x => hit x g)) (openH hit G n) = cntF (fun g => hit r g && !(A.any fun x => hit x g)) (List.range G) := by
  unfold cntF openH metH
  rw [List.filter_filter]
  congr 1
  refine List.filter_congr fun g _ => ?_
  cases h : hit r g with
  | false => simp
  | true =>
    have : ((List.range n).any fun r => hit r g) = true := List.any_eq_true.2 ⟨r, List.mem_range.2 hr, h⟩
    rw [this]; simp
theorem greedy_le {hit : Nat → Nat → Bool} {G n : Nat} {gr o : List Nat} (hg : GreedyH hit G n gr) (hp : gr.Perm (List.range n)) (ho : o.Perm (List.range n)) :
    waitH hit (openH hit G n) gr ≤ 4 * waitH hit (openH hit G n) o := by
  have hl : gr.length = n := by rw [hp.length_eq, List.length_range]
  have hl2 : o.length = n := by rw [ho.length_eq, List.length_range]
  rw [wait_eq hp, wait_eq ho]
  have h := greedy_wait (hit := hit) (l := openH hit G n) (gr := gr) (o := o) ?_ ?_
  · rw [hl, hl2] at h; exact h
  · intro g hgm
    obtain ⟨r, hr, hh⟩ := List.any_eq_true.1 (List.mem_filter.1 hgm).2
    exact List.any_eq_true.2 ⟨r, ho.mem_iff.2 hr, hh⟩
  · intro i h r hr
    have hrn : r < n := List.mem_range.1 (ho.mem_iff.1 hr)
    have hgn : gr[i] < n := List.mem_range.1 (hp.mem_iff.1 (List.getElem_mem h))
    rw [cnt_open hrn, cnt_open hgn]
    have h1 := hg i h r hrn
    rw [met_new, met_new] at h1
    omega
/-- What an order that goes on from a beginning waits at least. -/
theorem wait_from {hit : Nat → Nat → Bool} {G n : Nat} {o p : List Nat} (ho : o.Perm (List.range n)) (hp : p <+: o) :
    sumN (unmet hit (openH hit G n) p) p.length + unmet hit (openH hit G n) p p.length ≤ waitH hit (openH hit G n) o := by
  have hl : o.length = n := by rw [ho.length_eq, List.length_range]
  obtain ⟨s, rfl⟩ := hp
  rw [wait_eq ho]
  have hpl : p.length ≤ n := by rw [← hl, List.length_append]; omega
  have e : ∀ t, t ≤ p.length → unmet hit (openH hit G n) (p ++ s) t = unmet hit (openH hit G n) p t := by
    intro t ht
    unfold unmet
    rw [List.take_append_of_le_length ht]
  have hs : sumN (unmet hit (openH hit G n) p) p.length = sumN (unmet hit (openH hit G n) (p ++ s)) p.length := by
    have key : ∀ K, K ≤ p.length → sumN (unmet hit (openH hit G n) p) K = sumN (unmet hit (openH hit G n) (p ++ s)) K := by
      intro K
      induction K with
      | zero => intro _; rfl
      | succ K ih =>
        intro hK
        show sumN _ K + _ = sumN _ K + _
        rw [ih (by omega), e K (by omega)]
    exact key _ (Nat.le_refl _)
  rw [hs, ← e p.length (Nat.le_refl _)]
  have mono : ∀ K, p.length < K → sumN (unmet hit (openH hit G n) (p ++ s)) p.length + unmet hit (openH hit G n) (p ++ s) p.length ≤ sumN (unmet hit (openH hit G n) (p ++ s)) K := by
    intro K
    induction K with
    | zero => intro h; omega
    | succ K ih =>
      intro h
      show _ ≤ sumN _ K + _
      by_cases e2 : p.length = K
      · rw [← e2]; omega
      · have := ih (by omega); omega
  by_cases hlt : p.length < n
  · exact mono n hlt
  · have e2 : p.length = n := by omega
    rw [e2]
    have h0 : unmet hit (openH hit G n) (p ++ s) n = 0 := by
      unfold unmet cntF
      rw [List.length_eq_zero_iff, List.filter_eq_nil_iff]
      intro g hg
      rw [← hl, List.take_length]
      obtain ⟨r, hr, hh⟩ := List.any_eq_true.1 (List.mem_filter.1 hg).2
      have : ((p ++ s).any fun r => hit r g) = true := List.any_eq_true.2 ⟨r, ho.mem_iff.2 hr, hh⟩
      rw [this]; simp
    omega
/-- What is left of the goals. -/
theorem left_eq {hit : Nat → Nat → Bool} {G n : Nat} {p : List Nat} (hp : ∀ r ∈ p, r < n) : unmet hit (openH hit G n) p p.length + (metH hit G p).length = (openH hit G n).length := by
  have h1 : (metH hit G p).length = ((openH hit G n).filter fun g => p.any fun r => hit r g).length := by
    unfold openH metH
    rw [List.filter_filter]
    congr 1
    refine List.filter_congr fun g _ => ?_
    cases h : p.any fun r => hit r g with
    | false => rfl
    | true => rw [met_sub hp h]; rfl
  rw [h1]
  unfold unmet cntF
  rw [List.take_length]
  generalize openH hit G n = l
  induction l with
  | nil => rfl
  | cons g l ih =>
    rw [List.filter_cons, List.filter_cons]
    cases p.any fun r => hit r g <;> simp <;> omega
theorem sum_snoc {hit : Nat → Nat → Bool} {l p : List Nat} (r : Nat) : sumN (unmet hit l (p ++ [r])) (p ++ [r]).length = sumN (unmet hit l p) p.length + unmet hit l p p.length := by
  rw [List.length_append, List.length_singleton]
  show sumN _ p.length + _ = _
  have key : ∀ K, K ≤ p.length → sumN (unmet hit l (p ++ [r])) K = sumN (unmet hit l p) K := by
    intro K
    induction K with
    | zero => intro _; rfl
    | succ K ih =>
      intro hK
      show sumN _ K + _ = sumN _ K + _
      rw [ih (by omega)]
      unfold unmet
      rw [List.take_append_of_le_length (by omega)]
  rw [key _ (Nat.le_refl _)]
  unfold unmet
  rw [List.take_append_of_le_length (Nat.le_refl _)]
end Go.Proofs.YtfbfkkaepgcggaaGreat

namespace Go.Proofs.YtfbfkkaepgcggaaGreat

def natL (S : List Nat) : List Int := S.map fun n : Nat => (n : Int)
theorem natL_len (S : List Nat) : (natL S).length = S.length := List.length_map ..
theorem natL_snoc (S : List Nat) (n : Nat) : natL (S ++ [n]) = natL S ++ [(n : Int)] := by unfold natL; rw [List.map_append]; rfl
theorem natL_at {S : List Nat} {k n : Nat} (h : S[k]? = some n) : (natL S)[k]? = some (n : Int) := by unfold natL; rw [List.getElem?_map, h]; rfl
theorem natL_mem {S : List Nat} {x : Int} : x ∈ natL S ↔ ∃ n ∈ S, x = (n : Int) := by
  unfold natL
  rw [List.mem_map]
  exact ⟨fun ⟨n, h, e⟩ => ⟨n, h, e.symm⟩, fun ⟨n, h, e⟩ => ⟨n, h, e.symm⟩⟩
theorem natL_any (S : List Nat) (pr : Int → Bool) (q : Nat → Bool) (h : ∀ n ∈ S, pr (n : Int) = q n) : (natL S).any pr = S.any q := by
  unfold natL
  rw [List.any_map]
  induction S with
  | nil => rfl
  | cons n S ih => rw [List.any_cons, List.any_cons, ih fun m hm => h m (List.mem_cons_of_mem _ hm)]; congr 1; exact h n (List.mem_cons_self ..)
def goalsS (T : List (List Int)) : Nat := (T.headD []).length
def hitS (T : List (List Int)) (r g : Nat) : Bool := decide ((T.getD r []).getD g 0 = 1)
/-- A suite that is right. -/
structure ValS (T : List (List Int)) : Prop where
  rows : T.length ≤ 8
  goals : goalsS T ≤ 10
  len : ∀ r ∈ T, r.length = goalsS T
  one : ∀ r ∈ T, ∀ n ∈ r, 0 ≤ n ∧ n ≤ 1
theorem range_succ_natL (k : Nat) : natL (List.range (k + 1)) = natL (List.range k) ++ [(k : Int)] := by rw [List.range_succ, natL_snoc]
theorem met_succ (hit : Nat → Nat → Bool) (G : Nat) (S : List Nat) : metH hit (G + 1) S = metH hit G S ++ if S.any (fun r => hit r G) then [G] else [] := by
  unfold metH
  rw [List.range_succ, List.filter_append]
  congr 1
  rw [List.filter_cons]
  rfl
theorem met_len (hit : Nat → Nat → Bool) (G : Nat) (S : List Nat) : (metH hit G S).length ≤ G := by
  unfold metH; refine Nat.le_trans (List.length_filter_le _ _) ?_; rw [List.length_range]; exact Nat.le_refl _
theorem met_lt {hit : Nat → Nat → Bool} {G : Nat} {S : List Nat} {g : Nat} (h : g ∈ metH hit G S) : g < G := List.mem_range.1 (List.mem_filter.1 h).1
end Go.Proofs.YtfbfkkaepgcggaaGreat

namespace Go.Proofs.YtfbfkkaepgcggaaGreat

theorem find_hit {β : Type} (F : Nat → Option β) {r : Nat} {D : β} (hr : F r = some D) : ∀ {k f : Nat}, f ≤ r → r < f + k → (∀ r', f ≤ r' → r' < r → F r' = none) → (List.range' f k).findSome? F = some D
  | 0, f, h1, h2, _ => by omega
  | k + 1, f, h1, h2, h3 => by
    rw [List.range'_succ, List.findSome?_cons]
    by_cases e : f = r
    · subst e; rw [hr]
    · rw [h3 f (Nat.le_refl _) (by omega)]
      exact find_hit F hr (by omega) (by omega) fun r' h4 h5 => h3 r' (by omega) h5
theorem find_stop {β : Type} (F : Nat → Option β) : ∀ {k f : Nat}, (∀ r', f ≤ r' → r' < f + k → F r' = none) → (List.range' f k).findSome? F = none
  | 0, f, _ => rfl
  | k + 1, f, h => by
    rw [List.range'_succ, List.findSome?_cons, h f (Nat.le_refl _) (by omega)]
    exact find_stop F fun r' h4 h5 => h r' (by omega) (by omega)
theorem srch_hit {cov : List Nat → Bool} {n more frm r : Nat} {set D : List Nat} (h1 : frm ≤ r) (h2 : r < n - more) (h3 : ∀ r', frm ≤ r' → r' < r → srch cov n more (set ++ [r']) (r' + 1) = none) (h : srch cov n more (set ++ [r]) (r + 1) = some D) : srch cov n (more + 1) set frm = some D := by
  show (List.range' frm (n - more - frm)).findSome? _ = some D
  exact find_hit (fun r => srch cov n more (set ++ [r]) (r + 1)) h h1 (by omega) h3
theorem srch_stop {cov : List Nat → Bool} {n more frm : Nat} {set : List Nat} (h : ∀ r', frm ≤ r' → r' < n - more → srch cov n more (set ++ [r']) (r' + 1) = none) : srch cov n (more + 1) set frm = none := by
  show (List.range' frm (n - more - frm)).findSome? _ = none
  exact find_stop (fun r => srch cov n more (set ++ [r]) (r + 1)) fun r' h1 h2 => h r' h1 (by omega)
theorem cover_hit {cov : List Nat → Bool} {n m : Nat} {D : List Nat} (h1 : m ≤ n) (h2 : ∀ m', m' < m → srch cov n m' [] 0 = none) (h : srch cov n m [] 0 = some D) : coverN cov n = some D :=
  find_hit (fun many => srch cov n many [] 0) h (Nat.zero_le _) (by omega) fun m' _ h3 => h2 m' h3
theorem cover_stop {cov : List Nat → Bool} {n : Nat} (h : ∀ m, m ≤ n → srch cov n m [] 0 = none) : coverN cov n = none :=
  find_stop (fun many => srch cov n many [] 0) fun m _ h3 => h m (by omega)
end Go.Proofs.YtfbfkkaepgcggaaGreat

namespace Go.Proofs.YtfbfkkaepgcggaaGreat

/-- What a beginning has waited so far; what it has still to meet. -/
def partH (hit : Nat → Nat → Bool) (l p : List Nat) : Nat := sumN (unmet hit l p) p.length
def leftH (hit : Nat → Nat → Bool) (l p : List Nat) : Nat := unmet hit l p p.length
theorem partH_snoc (hit : Nat → Nat → Bool) (l p : List Nat) (r : Nat) : partH hit l (p ++ [r]) = partH hit l p + leftH hit l p := sum_snoc r
theorem unmet_le (hit : Nat → Nat → Bool) (l p : List Nat) (t : Nat) : unmet hit l p t ≤ l.length := List.length_filter_le _ _
theorem sumN_bound {f : Nat → Nat} {b : Nat} (h : ∀ t, f t ≤ b) : ∀ K, sumN f K ≤ b * K
  | 0 => Nat.zero_le _
  | K + 1 => by
    have := sumN_bound h K
    have := h K
    show sumN f K + f K ≤ b * (K + 1)
    rw [Nat.mul_succ]; omega
theorem partH_le (hit : Nat → Nat → Bool) (l p : List Nat) : partH hit l p ≤ l.length * p.length := sumN_bound (unmet_le hit l p) _
/-- A beginning that is cut off: no order that goes on from it waits less. -/
theorem best_cut {hit : Nat → Nat → Bool} {G n least : Nat} {p : List Nat} (h : least ≤ partH hit (openH hit G n) p + leftH hit (openH hit G n) p) : ∀ o : List Nat, o.Perm (List.range n) → p <+: o → least ≤ waitH hit (openH hit G n) o :=
  fun _ ho hp => Nat.le_trans h (wait_from ho hp)
theorem best_full {hit : Nat → Nat → Bool} {G n : Nat} {p : List Nat} (hp : p.Perm (List.range n)) : waitH hit (openH hit G n) p = partH hit (openH hit G n) p := by
  rw [wait_eq hp]
  unfold partH
  rw [hp.length_eq, List.length_range]
theorem full_one {n : Nat} {p o : List Nat} (hp : p.length = n) (ho : o.Perm (List.range n)) (h : p <+: o) : o = p := by
  obtain ⟨s, rfl⟩ := h
  have hl := ho.length_eq
  rw [List.length_append, List.length_range] at hl
  have : s = [] := List.length_eq_zero_iff.1 (by omega)
  rw [this, List.append_nil]
theorem pre_snoc {n r : Nat} {p q : List Nat} (h : (p ++ q).Perm (List.range n)) (hr : r < n) (hp : r ∉ p) : ∃ q', ((p ++ [r]) ++ q').Perm (List.range n) := by
  have hq : r ∈ q := by
    rcases List.mem_append.1 (h.mem_iff.2 (List.mem_range.2 hr)) with h1 | h1
    · exact absurd h1 hp
    · exact h1
  refine ⟨q.erase r, ?_⟩
  rw [List.append_assoc]
  exact ((List.perm_cons_erase hq).symm.append_left p).trans h
/-- An order that goes on from a beginning goes on by some row that is not in it. -/
theorem pre_next {n : Nat} {p o : List Nat} (hp : p.length < n) (ho : o.Perm (List.range n)) (h : p <+: o) : ∃ r, r < n ∧ r ∉ p ∧ (p ++ [r]) <+: o := by
  obtain ⟨s, rfl⟩ := h
  have hl := ho.length_eq
  rw [List.length_append, List.length_range] at hl
  cases s with
  | nil => simp at hl; omega
  | cons r s =>
    refine ⟨r, ?_, ?_, ⟨s, by simp⟩⟩
    · exact List.mem_range.1 (ho.mem_iff.1 (by simp))
    · have hnd := ho.nodup_iff.2 List.nodup_range
      rw [List.nodup_append] at hnd
      intro hr
      exact hnd.2.2 r hr r (List.mem_cons_self ..) rfl
end Go.Proofs.YtfbfkkaepgcggaaGreat

namespace Go.Proofs.YtfbfkkaepgcggaaGreat

def Srt (ys : List Nat) (i : Nat) : Prop := ∀ a b, a < b → b < i → ys.getD a 0 ≤ ys.getD b 0
def Srk (ys : List Nat) (i k : Nat) : Prop := ∀ a b, a < b → b ≤ i → b ≠ k → ys.getD a 0 ≤ ys.getD b 0
def swp (ys : List Nat) (m : Nat) : List Nat := (ys.set m (ys.getD (m + 1) 0)).set (m + 1) (ys.getD m 0)
theorem swp_len (ys : List Nat) (m : Nat) : (swp ys m).length = ys.length := by unfold swp; rw [List.length_set, List.length_set]
theorem swp_perm {ys : List Nat} {m : Nat} (h : m + 1 < ys.length) : (swp ys m).Perm ys := by
  have := @List.set_set_perm _ ys m (m + 1) (by omega) h
  unfold swp
  rw [List.getD_eq_getElem?_getD, List.getD_eq_getElem?_getD, List.getElem?_eq_getElem h, List.getElem?_eq_getElem (show m < ys.length by omega)]
  exact this
theorem swp_get {ys : List Nat} {m : Nat} (h : m + 1 < ys.length) (j : Nat) : (swp ys m).getD j 0 = if j = m + 1 then ys.getD m 0 else if j = m then ys.getD (m + 1) 0 else ys.getD j 0 := by
  unfold swp
  rw [List.getD_eq_getElem?_getD, List.getElem?_set]
  by_cases h1 : m + 1 = j
  · rw [if_pos h1, if_pos h1.symm, if_pos (by rw [List.length_set]; omega)]; rfl
  · rw [if_neg h1, if_neg (fun e => h1 e.symm), List.getElem?_set]
    by_cases h2 : m = j
    · rw [if_pos h2, if_pos h2.symm, if_pos (by omega)]; rfl
    · rw [if_neg h2, if_neg (fun e => h2 e.symm), ← List.getD_eq_getElem?_getD]
theorem srk_start {ys : List Nat} {i : Nat} (h : Srt ys i) : Srk ys i i := fun a b h1 h2 h3 => h a b h1 (by omega)
theorem srk_swp {ys : List Nat} {i m : Nat} (h : Srk ys i (m + 1)) (hi : m + 1 ≤ i) (hl : i < ys.length) (hlt : ys.getD (m + 1) 0 < ys.getD m 0) : Srk (swp ys m) i m := by
  intro a b h1 h2 h3
  rw [swp_get (by omega), swp_get (by omega)]
  by_cases e1 : b = m + 1
  · subst e1
    rw [if_pos rfl, if_neg (by omega)]
    by_cases e2 : a = m
    · subst e2; rw [if_pos rfl]; omega
    · rw [if_neg e2]
      exact h a m (by omega) (by omega) (by omega)
  · rw [if_neg e1, if_neg h3]
    by_cases e2 : a = m + 1
    · subst e2; rw [if_pos rfl]; exact h m b (by omega) h2 e1
    · rw [if_neg e2]
      by_cases e3 : a = m
      · subst e3
        rw [if_pos rfl]
        exact h (a + 1) b (by omega) h2 e1
      · rw [if_neg e3]; exact h a b h1 h2 e1
theorem srt_done0 {ys : List Nat} {i : Nat} (h : Srk ys i 0) : Srt ys (i + 1) := fun a b h1 h2 => h a b h1 (by omega) (by omega)
theorem srt_done {ys : List Nat} {i m : Nat} (h : Srk ys i (m + 1)) (hi : m + 1 ≤ i) (hle : ys.getD m 0 ≤ ys.getD (m + 1) 0) : Srt ys (i + 1) := fun a b h1 h2 => by
  by_cases e : b = m + 1
  · subst e
    by_cases e2 : a = m
    · subst e2; exact hle
    · exact Nat.le_trans (h a m (by omega) (by omega) (by omega)) hle
  · exact h a b h1 (by omega) e
theorem srt_pw {ys : List Nat} {i : Nat} (h : Srt ys i) (hi : ys.length ≤ i) : ys.Pairwise (· ≤ ·) := by
  rw [List.pairwise_iff_getElem]
  intro a b ha hb hab
  have := h a b hab (by omega)
  rw [List.getD_eq_getElem?_getD, List.getD_eq_getElem?_getD, List.getElem?_eq_getElem ha, List.getElem?_eq_getElem hb] at this
  exact this
/-- A sorted list of different numbers ascends. -/
theorem asc_sorted {n : Nat} : ∀ {l : List Nat} {f : Nat}, l.Pairwise (· ≤ ·) → l.Nodup → (∀ x ∈ l, f ≤ x ∧ x < n) → ascF n f l
  | [], _, _, _, _ => trivial
  | x :: l, f, h1, h2, h3 => by
    obtain ⟨k1, k2⟩ := List.pairwise_cons.1 h1
    obtain ⟨k3, k4⟩ := List.nodup_cons.1 h2
    obtain ⟨k5, k6⟩ := h3 x (List.mem_cons_self ..)
    refine ⟨k5, k6, asc_sorted k2 k4 fun y hy => ⟨?_, (h3 y (List.mem_cons_of_mem _ hy)).2⟩⟩
    have := k1 y hy
    have : x ≠ y := fun e => k3 (e ▸ hy)
    omega
theorem natL_set (ys : List Nat) (k y : Nat) : (natL ys).set k (y : Int) = natL (ys.set k y) := by unfold natL; rw [List.map_set]
end Go.Proofs.YtfbfkkaepgcggaaGreat

namespace Go.Proofs.YtfbfkkaepgcggaaGreat

theorem greedyH_nil (hit : Nat → Nat → Bool) (G n : Nat) : GreedyH hit G n [] := fun i h => by cases h
theorem greedyH_snoc {hit : Nat → Nat → Bool} {G n : Nat} {S : List Nat} {m : Nat} (hg : GreedyH hit G n S) (hall : ∀ r, r < n → (metH hit G (S ++ [r])).length ≤ (metH hit G (S ++ [m])).length) : GreedyH hit G n (S ++ [m]) := by
  intro i h r hr
  rw [List.length_append, List.length_singleton] at h
  by_cases hi : i < S.length
  · have e1 : (S ++ [m]).take i = S.take i := List.take_append_of_le_length (by omega)
    have e2 : (S ++ [m])[i]'(by rw [List.length_append, List.length_singleton]; exact h) = S[i] := List.getElem_append_left hi
    rw [e1, e2]
    exact hg i hi r hr
  · obtain rfl : i = S.length := by omega
    have e1 : (S ++ [m]).take S.length = S := by rw [List.take_append_of_le_length (Nat.le_refl _), List.take_length]
    have e2 : (S ++ [m])[S.length]'(by rw [List.length_append, List.length_singleton]; exact h) = m := by simp
    rw [e1, e2]
    exact hall r hr
theorem met_old {hit : Nat → Nat → Bool} {G : Nat} {S : List Nat} {r m : Nat} (hr : r ∈ S) : (metH hit G (S ++ [r])).length ≤ (metH hit G (S ++ [m])).length := by
  have e : metH hit G (S ++ [r]) = metH hit G S := by
    unfold metH
    refine List.filter_congr fun g _ => ?_
    rw [List.any_append]
    cases h : S.any fun r => hit r g with
    | true => rfl
    | false =>
      have := List.any_eq_false.1 h r hr
      simp at this
      simp [this]
  rw [e, met_new]
  omega
/-- One step of the greedy order: S the order so far, L what is left. -/
theorem greedy_step {hit : Nat → Nat → Bool} {G n : Nat} {S L : List Nat} {m : Nat} (hp : (S ++ L).Perm (List.range n)) (hg : GreedyH hit G n S) (hm : m ∈ L) (hmax : ∀ x ∈ L, (metH hit G (S ++ [x])).length ≤ (metH hit G (S ++ [m])).length) :
    ((S ++ [m]) ++ L.filter fun r => !(r == m)).Perm (List.range n) ∧ GreedyH hit G n (S ++ [m]) ∧ (L.filter fun r => !(r == m)).length < L.length := by
  have hnd : L.Nodup := (List.nodup_append.1 (hp.nodup_iff.2 List.nodup_range)).2.1
  have hf : L.filter (fun r => !(r == m)) = L.erase m := (hnd.erase_eq_filter m).symm
  refine ⟨?_, greedyH_snoc hg fun r hr => ?_, ?_⟩
  · rw [hf, List.append_assoc]
    exact ((List.perm_cons_erase hm).symm.append_left S).trans hp
  · rcases List.mem_append.1 (hp.mem_iff.2 (List.mem_range.2 hr)) with h | h
    · exact met_old h
    · exact hmax r h
  · rw [hf, List.length_erase_of_mem hm]
    have := List.length_pos_of_mem hm
    omega
end Go.Proofs.YtfbfkkaepgcggaaGreat
