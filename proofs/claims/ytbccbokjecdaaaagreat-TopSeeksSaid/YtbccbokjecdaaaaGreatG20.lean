/-
The smallest single repair: the plain laws, and how a struct is written in a block.
Double repairs: the plain laws.
The parts of a patch, and the order in which the smallest good one is looked for: plain laws.
-/
import Derived.Test.YtbccbokjecdaaaaGreatG16
import Derived.Lib.SmallJoins
import Derived.Test.YtbccbokjecdaaaaGreatG04
namespace Go.Proofs.YtbccbokjecdaaaaGreat
open Go.RowKit

/-- The size of an edit, as the document says it. -/
def sizeR (p : List Ln) (e : Ed) : Int := fieldsN (lineAt p e.at_) e.l
/-- The single repairs at the first places, as the document says them. -/
def everyR (p : List Ln) (ts : List Tst) (kind : Int) (k : Nat) : List Ed := (List.range k).flatMap fun n : Nat => (fixR p ts n kind).map (Ed.mk n)
theorem everyR_succ (p : List Ln) (ts : List Tst) (kind : Int) (k : Nat) : everyR p ts kind (k + 1) = everyR p ts kind k ++ (fixR p ts k kind).map (Ed.mk k) := by
  unfold everyR
  rw [List.range_succ, List.flatMap_append]
  simp
theorem fixE_eq (p : List Ln) (ts : List Tst) (a : Int) (C : List Ln) : fixE p ts a C = ((fixE p ts a C).map Ed.l).map (Ed.mk a) := by
  unfold fixE
  rw [List.map_map, List.map_map]
  rfl
theorem everyN_R {p : List Ln} {ts : List Tst} {kind : Int} (hp : valP p = 0) (ht : valT ts = 0) (k0 : 0 ≤ kind) (k2 : kind ≤ 2) : ∀ k, k ≤ p.length → everyN p ts (candAt p kind) k = everyR p ts kind k
  | 0, _ => rfl
  | k + 1, hk => by rw [everyN_succ, everyR_succ, everyN_R hp ht k0 k2 k (by omega), fixE_eq, fixE_R hp ht k0 k2 (show k < p.length by omega)]
theorem everyR_mem {p : List Ln} {ts : List Tst} {kind : Int} {k : Nat} {e : Ed} (h : e ∈ everyR p ts kind k) : 0 ≤ e.at_ ∧ e.at_ < k ∧ e.l.ok = true ∧ e.l ∈ fixR p ts e.at_ kind := by
  unfold everyR at h
  obtain ⟨n, hn, he⟩ := List.mem_flatMap.1 h
  obtain ⟨l, hl, rfl⟩ := List.mem_map.1 he
  have hn' := List.mem_range.1 hn
  refine ⟨?_, ?_, candR_ok (List.mem_filter.1 hl).1, hl⟩
  · show 0 ≤ (n : Int); omega
  · show (n : Int) < (k : Int); omega
theorem size1_R {p : List Ln} {ts : List Tst} {kind : Int} (hp : valP p = 0) {e : Ed} (h : e ∈ everyR p ts kind p.length) : size1 p e = sizeR p e := by
  obtain ⟨h0, h1, hx, _⟩ := everyR_mem h
  obtain ⟨t, l⟩ := e
  dsimp only at h0 h1 hx
  have hc : chkX p [⟨t, l⟩] [] = 0 := chkX_one hp (by rfl) h0 h1 hx
  unfold size1 sizeE
  rw [if_pos hc]
  unfold sizeR lineAt
  simp [sizeL]
/-- What the document's single has found. -/
def BestP (p : List Ln) (G : List Ed) (e : Ed) (m : Int) : Prop := (G = [] ∧ e = ⟨0, ⟨0, 0, 0, 0⟩⟩ ∧ m = -1) ∨ ∃ j, G[j]? = some e ∧ FirstMin (G.map (sizeR p)) j m
theorem BestP.start (p : List Ln) : BestP p [] ⟨0, ⟨0, 0, 0, 0⟩⟩ (-1) := .inl ⟨rfl, rfl, rfl⟩
theorem sizeR_nonneg (p : List Ln) (e : Ed) : 0 ≤ sizeR p e := (fieldsN_le _ _).1
theorem BestP.size {p : List Ln} {G : List Ed} {e : Ed} {m : Int} (h : BestP p G e m) : (G = [] ∧ m = -1) ∨ (0 ≤ m ∧ m ≤ 4 ∧ m = sizeR p e) := by
  rcases h with ⟨h, _, hm⟩ | ⟨j, hj, hm, _⟩
  · exact .inl ⟨h, hm⟩
  · rw [List.getElem?_map, hj] at hm
    have : m = sizeR p e := (Option.some.inj hm).symm
    exact .inr ⟨by rw [this]; exact sizeR_nonneg _ _, by rw [this]; exact (fieldsN_le _ _).2, this⟩
theorem FirstMin.snoc {S : List Int} {j : Nat} {m s : Int} (h : FirstMin S j m) : (s < m → FirstMin (S ++ [s]) S.length s) ∧ (¬ s < m → FirstMin (S ++ [s]) j m) := by
  have h1 : FirstMin ((S ++ [s]).take S.length) j m := by rw [List.take_left]; exact h
  have h2 := h1.step (s := s) (by simp)
  rw [show (S ++ [s]).take (S.length + 1) = S ++ [s] from List.take_of_length_le (by simp)] at h2
  exact h2
theorem BestP.take {p : List Ln} {G : List Ed} {e x : Ed} {m : Int} (h : BestP p G e m) (hs : m < 0 ∨ sizeR p x < m) : BestP p (G ++ [x]) x (sizeR p x) := by
  refine .inr ⟨G.length, by simp, ?_⟩
  rw [List.map_append, List.map_cons, List.map_nil]
  rcases h with ⟨rfl, _, rfl⟩ | ⟨j, hj, hm⟩
  · exact FirstMin.one (S := [sizeR p x]) rfl
  · have hlt : sizeR p x < m := by
      rcases hs with hs | hs
      · have := hm.1
        rw [List.getElem?_map, hj] at this
        have : m = sizeR p e := (Option.some.inj this).symm
        have := sizeR_nonneg p e
        omega
      · exact hs
    have := (hm.snoc (s := sizeR p x)).1 hlt
    rw [List.length_map] at this
    exact this
theorem BestP.skip {p : List Ln} {G : List Ed} {e x : Ed} {m : Int} (h : BestP p G e m) (h0 : ¬ m < 0) (hs : ¬ sizeR p x < m) (b : Bool) : BestP p (G ++ if b then [x] else []) e m := by
  cases b with
  | false => simpa using h
  | true =>
    rcases h with ⟨_, _, rfl⟩ | ⟨j, hj, hm⟩
    · omega
    · refine .inr ⟨j, ?_, ?_⟩
      · rw [if_pos rfl, List.getElem?_append_left (List.getElem?_eq_some_iff.1 hj).1]; exact hj
      · rw [if_pos rfl, List.map_append]
        exact (hm.snoc (s := sizeR p x)).2 hs
theorem BestP.sngl {p : List Ln} {ts : List Tst} {kind : Int} {e : Ed} {m : Int} (hs : sgtE p ts kind = 0) (h : BestP p (everyR p ts kind p.length) e m) : SnglP p ts kind e (decide (0 ≤ m)) := by
  obtain ⟨⟨hv, hvt⟩, ⟨k0, k2⟩, _⟩ := sgtE_ok.1 hs
  have hE := everyN_R hv hvt k0 k2 p.length (Nat.le_refl _)
  rcases h with ⟨h, rfl, rfl⟩ | ⟨j, hj, hm⟩
  · exact .inl ⟨by decide, rfl, .inr (by rw [hE]; exact h)⟩
  · have h1 : m = sizeR p e := by
      have := hm.1
      rw [List.getElem?_map, hj] at this
      exact (Option.some.inj this).symm
    have h0 := sizeR_nonneg p e
    refine .inr ⟨by simp; omega, hs, j, by rw [hE]; exact hj, ?_⟩
    rw [hE, List.map_congr_left (g := sizeR p) (fun x hx => size1_R hv hx), size1_R hv (List.mem_of_getElem? hj), ← h1]
    exact hm

/-- A struct of five numbers, written in a block. -/
def set5 (w : World) (g : Nat) (e : Ed) : World := ((((w.setCell ⟨g, 0, none⟩ (.int .i64 e.at_)).setCell ⟨g, 1, none⟩ (.int .i64 e.l.op)).setCell ⟨g, 2, none⟩ (.int .i64 e.l.d)).setCell ⟨g, 3, none⟩ (.int .i64 e.l.a)).setCell ⟨g, 4, none⟩ (.int .i64 e.l.b)
def EBlk (w : World) (g : Nat) (e : Ed) : Prop := w.heap[g]? = some (.cells #[.int .i64 e.at_, .int .i64 e.l.op, .int .i64 e.l.d, .int .i64 e.l.a, .int .i64 e.l.b] 27 (0, 0))
theorem EBlk.set {w : World} {g : Nat} {e : Ed} (h : EBlk w g e) (f : Ed) : EBlk (set5 w g f) g f := by
  have h0 := Go.Joins.block_setCell (i := 0) h (.int .i64 f.at_)
  have h1 := Go.Joins.block_setCell (i := 1) h0 (.int .i64 f.l.op)
  have h2 := Go.Joins.block_setCell (i := 2) h1 (.int .i64 f.l.d)
  have h3 := Go.Joins.block_setCell (i := 3) h2 (.int .i64 f.l.a)
  have h4 := Go.Joins.block_setCell (i := 4) h3 (.int .i64 f.l.b)
  unfold EBlk set5
  rw [h4]
  rfl
theorem set5_below {B : Nat} {a w : World} {g : Nat} (e : Ed) (h : Below B a w) (hg : B ≤ g) : Below B a (set5 w g e) := below_set5 h hg 0 1 2 3 4 _ _ _ _ _
theorem set5_size (w : World) (g : Nat) (e : Ed) : (set5 w g e).heap.size = w.heap.size := by simp [set5, World.size_setCell]
theorem lines_set5 {w : World} {g : Nat} {e : Ed} {a : Option Addr} {n c : Nat} {xs : List Ln} (h : LinesAt w (.slice a n c) xs) (hb : ∀ b o s, a = some ⟨b, o, s⟩ → b ≠ g) : LinesAt (set5 w g e) (.slice a n c) xs := by
  obtain ⟨a', c', hv, h1, h2, h3⟩ := h
  cases hv
  refine ⟨a, c, rfl, h1, h2, h3.imp id ?_⟩
  rintro ⟨b, o, rfl, hbl, hc⟩
  refine ⟨b, o, rfl, by rw [set5_size]; exact hbl, fun j x hx i u hu => ?_⟩
  have hne := hb b o none rfl
  unfold set5
  rw [World.cell?_setCell_far _ _ _ _ (by exact fun h => hne h.symm), World.cell?_setCell_far _ _ _ _ (by exact fun h => hne h.symm), World.cell?_setCell_far _ _ _ _ (by exact fun h => hne h.symm), World.cell?_setCell_far _ _ _ _ (by exact fun h => hne h.symm), World.cell?_setCell_far _ _ _ _ (by exact fun h => hne h.symm)]
  exact hc j x hx i u hu
theorem own_blk {base k : Nat} {α : Type} {enc : α → List Value} {w : World} {a : Option Addr} {n c : Nat} {xs : List α} (h : Own k enc base w (.slice a n c) xs) : ∀ b o s, a = some ⟨b, o, s⟩ → base ≤ b := by
  obtain ⟨e, h⟩ := h
  intro b o s ha
  subst ha
  rcases h.2 with ⟨hv, _⟩ | ⟨g, cap, cur, hv, hg, _⟩
  · cases hv
  · cases hv; exact hg
end Go.Proofs.YtbccbokjecdaaaaGreat

namespace Go.Proofs.YtbccbokjecdaaaaGreat
open Go.RowKit

/-- Two edits, one behind the other, that make all tests pass. -/
def dblB (p : List Ln) (ts : List Tst) (x y : Ed) : Bool := decide (x.at_ < y.at_) && (decide (chkX p [x, y] ts = 0) && goodM p [x, y] ts)
def pairX (p : List Ln) (ts : List Tst) (x : Ed) (ys : List Ed) : List (List Ed) := (ys.filter (dblB p ts x)).map fun y => [x, y]
def pairsL (p : List Ln) (ts : List Tst) : List Ed → List (List Ed)
  | [] => []
  | x :: r => pairX p ts x r ++ pairsL p ts r
theorem pairX_nil (p : List Ln) (ts : List Tst) (x : Ed) : pairX p ts x [] = [] := rfl
theorem pairX_app (p : List Ln) (ts : List Tst) (x : Ed) (ys zs : List Ed) : pairX p ts x (ys ++ zs) = pairX p ts x ys ++ pairX p ts x zs := by unfold pairX; rw [List.filter_append, List.map_append]
theorem pairX_cons (p : List Ln) (ts : List Tst) (x y : Ed) (ys : List Ed) : pairX p ts x (y :: ys) = (if dblB p ts x y then [[x, y]] else []) ++ pairX p ts x ys := by
  unfold pairX; rw [List.filter_cons]; cases dblB p ts x y <;> rfl
theorem pairX_len (p : List Ln) (ts : List Tst) (x : Ed) (ys : List Ed) : (pairX p ts x ys).length ≤ ys.length := by unfold pairX; rw [List.length_map]; exact List.length_filter_le _ _
theorem pairsL_len (p : List Ln) (ts : List Tst) : ∀ (M : List Ed) (n : Nat), M.length ≤ n → (pairsL p ts M).length ≤ M.length * n
  | [], _, _ => by simp [pairsL]
  | x :: r, n, h => by
    rw [List.length_cons] at h
    have h1 := pairX_len p ts x r
    have h2 := pairsL_len p ts r n (by omega)
    rw [pairsL, List.length_append, List.length_cons, Nat.succ_mul]; omega
theorem pairsL_drop {p : List Ln} {ts : List Tst} {M : List Ed} {k : Nat} {x : Ed} (h : M[k]? = some x) : pairsL p ts (M.drop k) = pairX p ts x (M.drop (k + 1)) ++ pairsL p ts (M.drop (k + 1)) := by
  rw [show M.drop k = x :: M.drop (k + 1) by obtain ⟨h1, rfl⟩ := List.getElem?_eq_some_iff.1 h; exact List.drop_eq_getElem_cons h1]; rfl
theorem pairX_drop {p : List Ln} {ts : List Tst} {ys : List Ed} {j : Nat} {x y : Ed} (h : ys[j]? = some y) : pairX p ts x (ys.drop j) = (if dblB p ts x y then [[x, y]] else []) ++ pairX p ts x (ys.drop (j + 1)) := by
  rw [show ys.drop j = y :: ys.drop (j + 1) by obtain ⟨h1, rfl⟩ := List.getElem?_eq_some_iff.1 h; exact List.drop_eq_getElem_cons h1]; exact pairX_cons _ _ _ _ _
/-- Edits at the same place make no pair. -/
theorem pairX_same {p : List Ln} {ts : List Tst} {x : Ed} {ys : List Ed} (h : ∀ y ∈ ys, y.at_ = x.at_) : pairX p ts x ys = [] := by
  unfold pairX
  rw [List.filter_eq_nil_iff.2, List.map_nil]
  intro y hy hd
  unfold dblB at hd
  rw [Bool.and_eq_true, decide_eq_true_eq] at hd
  have := h y hy
  omega
theorem mem_pairsL {p : List Ln} {ts : List Tst} {l : List Ed} : ∀ {M : List Ed}, l ∈ pairsL p ts M → ∃ x y, x ∈ M ∧ y ∈ M ∧ l = [x, y] ∧ dblB p ts x y = true
  | [], h => by simp [pairsL] at h
  | x :: r, h => by
    rcases List.mem_append.1 h with h | h
    · obtain ⟨y, hy, rfl⟩ := List.mem_map.1 h
      obtain ⟨h1, h2⟩ := List.mem_filter.1 hy
      exact ⟨x, y, by simp, by simp [h1], rfl, h2⟩
    · obtain ⟨a, b, ha, hb, h1, h2⟩ := mem_pairsL h
      exact ⟨a, b, by simp [ha], by simp [hb], h1, h2⟩
/-- The mutants from a place on. -/
def nearX (p : List Ln) (n : Nat) : List Ed := (tmpl (lineAt p n)).map (Ed.mk n)
def tailM (p : List Ln) (n k : Nat) : List Ed := (List.range' n k).flatMap (nearX p)
theorem tailM_succ (p : List Ln) (n k : Nat) : tailM p n (k + 1) = nearX p n ++ tailM p (n + 1) k := rfl
theorem tailM_all (p : List Ln) : tailM p 0 p.length = mutM p p.length := by unfold tailM mutM; rw [List.range_eq_range']; rfl
theorem tailM_at {p : List Ln} {n : Nat} (h : n < p.length) : tailM p n (p.length - n) = nearX p n ++ tailM p (n + 1) (p.length - (n + 1)) := by
  rw [show p.length - n = (p.length - (n + 1)) + 1 by omega]; exact tailM_succ _ _ _
theorem tailM_end (p : List Ln) : tailM p p.length (p.length - p.length) = [] := by rw [Nat.sub_self]; rfl
theorem mem_nearX {p : List Ln} {n : Nat} {e : Ed} (h : e ∈ nearX p n) : e.at_ = n ∧ e.l.ok = true := by
  obtain ⟨x, hx, rfl⟩ := List.mem_map.1 h
  exact ⟨rfl, tmpl_ok hx⟩
theorem edsOK_two {a b : Int} {x y : Ln} (h0 : 0 ≤ a) (hab : a < b) (h1 : b < 8) (hx : x.ok = true) (hy : y.ok = true) : edsOK [⟨a, x⟩, ⟨b, y⟩] = true := by
  refine edsOK_upto (k := 2) (fun i hi => ?_) (by simp)
  have : i = 0 ∨ i = 1 := by omega
  rcases this with rfl | rfl
  · exact (edOK_iff (e := ⟨a, x⟩) rfl).2 ⟨⟨h0, by dsimp only; omega⟩, by show (-1 : Int) < a; omega, hx⟩
  · exact (edOK_iff (e := ⟨b, y⟩) rfl).2 ⟨⟨by dsimp only; omega, h1⟩, hab, hy⟩
theorem chkX_two {p : List Ln} {ts : List Tst} {a b : Int} {x y : Ln} (hp : valP p = 0) (ht : valT ts = 0) (h0 : 0 ≤ a) (hab : a < b) (h1 : b < p.length) (hx : x.ok = true) (hy : y.ok = true) : chkX p [⟨a, x⟩, ⟨b, y⟩] ts = 0 := by
  have hp8 := (valP_ok.1 hp).1
  refine chkX_ok.2 ⟨hp, valX_ok.2 ⟨by simp, edsOK_two h0 hab (by omega) hx hy⟩, ht, ?_⟩
  unfold offB
  simp only [List.any_cons, List.any_nil, Bool.or_false, Bool.or_eq_false_iff, decide_eq_false_iff_not]
  omega
/-- What the document asks of a pair. -/
def goodP (p : List Ln) (ts : List Tst) (x y : Ed) : Bool := ts.all (passM (setAll p [x, y]))
theorem dblB_eq {p : List Ln} {ts : List Tst} {a b : Int} {x y : Ln} (hp : valP p = 0) (ht : valT ts = 0) (h0 : 0 ≤ a) (hab : a < b) (h1 : b < p.length) (hx : x.ok = true) (hy : y.ok = true) : dblB p ts ⟨a, x⟩ ⟨b, y⟩ = goodP p ts ⟨a, x⟩ ⟨b, y⟩ := by
  have hp8 := (valP_ok.1 hp).1
  unfold dblB goodP goodM
  rw [decide_eq_true hab, chkX_two hp ht h0 hab h1 hx hy, setAll_eq (edsOK_two h0 hab (by omega) hx hy)]
  rfl
theorem dblP_ok {p : List Ln} {a b : Int} {x y : Ln} (hp : valP p = 0) (h0 : 0 ≤ a) (hab : a < b) (h1 : b < p.length) (hx : x.ok = true) (hy : y.ok = true) : valP (setAll p [⟨a, x⟩, ⟨b, y⟩]) = 0 := by
  have hp8 := (valP_ok.1 hp).1
  rw [setAll_eq (edsOK_two h0 hab (by omega) hx hy)]
  exact doM_ok hp fun e he => by simp at he; rcases he with rfl | rfl <;> assumption
theorem sizeE_two {p : List Ln} {a b : Int} {x y : Ln} (hp : valP p = 0) (h0 : 0 ≤ a) (hab : a < b) (h1 : b < p.length) (hx : x.ok = true) (hy : y.ok = true) : sizeE p [⟨a, x⟩, ⟨b, y⟩] = fieldsN (lineAt p a) x + fieldsN (lineAt p b) y := by
  unfold sizeE
  rw [if_pos (chkX_two hp (by rfl) h0 hab h1 hx hy)]
  unfold lineAt
  simp [sizeL]
/-- What a search has found: the first one of the smallest of a list; -1 if it is empty. -/
def BestG {α : Type} (sz : α → Int) (z : α) (G : List α) (e : α) (m : Int) : Prop := (G = [] ∧ e = z ∧ m = -1) ∨ ∃ j, G[j]? = some e ∧ FirstMin (G.map sz) j m
theorem BestG.start {α : Type} (sz : α → Int) (z : α) : BestG sz z [] z (-1) := .inl ⟨rfl, rfl, rfl⟩
theorem BestG.size {α : Type} {sz : α → Int} {z e : α} {G : List α} {m : Int} (h : BestG sz z G e m) : (G = [] ∧ m = -1) ∨ (e ∈ G ∧ m = sz e) := by
  rcases h with ⟨h, _, hm⟩ | ⟨j, hj, hm, _⟩
  · exact .inl ⟨h, hm⟩
  · rw [List.getElem?_map, hj] at hm
    exact .inr ⟨List.mem_of_getElem? hj, (Option.some.inj hm).symm⟩
theorem BestG.take {α : Type} {sz : α → Int} {z e x : α} {G : List α} {m : Int} (h : BestG sz z G e m) (hs : m < 0 ∨ sz x < m) (h0 : ∀ e, 0 ≤ sz e) : BestG sz z (G ++ [x]) x (sz x) := by
  refine .inr ⟨G.length, by simp, ?_⟩
  rw [List.map_append, List.map_cons, List.map_nil]
  rcases h with ⟨rfl, _, rfl⟩ | ⟨j, hj, hm⟩
  · exact FirstMin.one (S := [sz x]) rfl
  · have hlt : sz x < m := by
      rcases hs with hs | hs
      · have := hm.1
        rw [List.getElem?_map, hj] at this
        have : m = sz e := (Option.some.inj this).symm
        have := h0 e
        omega
      · exact hs
    have := (hm.snoc (s := sz x)).1 hlt
    rw [List.length_map] at this
    exact this
theorem BestG.skip {α : Type} {sz : α → Int} {z e x : α} {G : List α} {m : Int} (h : BestG sz z G e m) (h0 : ¬ m < 0) (hs : ¬ sz x < m) (b : Bool) : BestG sz z (G ++ if b then [x] else []) e m := by
  cases b with
  | false => simpa using h
  | true =>
    rcases h with ⟨_, _, rfl⟩ | ⟨j, hj, hm⟩
    · omega
    · refine .inr ⟨j, ?_, ?_⟩
      · rw [if_pos rfl, List.getElem?_append_left (List.getElem?_eq_some_iff.1 hj).1]; exact hj
      · rw [if_pos rfl, List.map_append]
        exact (hm.snoc (s := sz x)).2 hs
theorem sizeE_nonneg (p : List Ln) (x : List Ed) : 0 ≤ sizeE p x := by
  unfold sizeE
  split
  · exact (sizeL_le p x).1
  · omega
theorem restC {p : List Ln} {ts : List Tst} {i a : Nat} {x : Ln} {T : List Ed} (hx : (tmpl (lineAt p i))[a]? = some x) : pairsL p ts ((nearX p i).drop a ++ T) = pairX p ts ⟨i, x⟩ T ++ pairsL p ts ((nearX p i).drop (a + 1) ++ T) := by
  have hx2 : (nearX p i)[a]? = some ⟨i, x⟩ := by unfold nearX; rw [List.getElem?_map, hx]; rfl
  rw [show (nearX p i).drop a = ⟨i, x⟩ :: (nearX p i).drop (a + 1) by obtain ⟨h1, h2⟩ := List.getElem?_eq_some_iff.1 hx2; rw [← h2]; exact List.drop_eq_getElem_cons h1]
  rw [List.cons_append, pairsL, pairX_app, pairX_same, List.nil_append]
  intro y hy
  obtain ⟨z, _, rfl⟩ := List.mem_map.1 (List.mem_of_mem_drop hy)
  rfl
theorem restE {p : List Ln} {ts : List Tst} {k b : Nat} {x : Ed} {y : Ln} {T : List Ed} (hy : (tmpl (lineAt p k))[b]? = some y) : pairX p ts x ((nearX p k).drop b ++ T) = (if dblB p ts x ⟨k, y⟩ then [[x, ⟨k, y⟩]] else []) ++ pairX p ts x ((nearX p k).drop (b + 1) ++ T) := by
  have hy2 : (nearX p k)[b]? = some ⟨k, y⟩ := by unfold nearX; rw [List.getElem?_map, hy]; rfl
  rw [show (nearX p k).drop b = ⟨k, y⟩ :: (nearX p k).drop (b + 1) by obtain ⟨h1, h2⟩ := List.getElem?_eq_some_iff.1 hy2; rw [← h2]; exact List.drop_eq_getElem_cons h1]
  rw [List.cons_append, pairX_cons]
theorem nearX_len (p : List Ln) (n : Nat) : (nearX p n).length = (tmpl (lineAt p n)).length := by unfold nearX; rw [List.length_map]
theorem nearX_end {p : List Ln} {n : Nat} {T : List Ed} : (nearX p n).drop (tmpl (lineAt p n)).length ++ T = T := by rw [← nearX_len, List.drop_length, List.nil_append]
/-- What Double answers. -/
def DblP (p : List Ln) (ts : List Tst) (x : List Ed) (ok : Bool) : Prop :=
  (ok = false ∧ x = [] ∧ (sgtE p ts 0 ≠ 0 ∨ pairsL p ts (mutM p p.length) = [])) ∨
  (ok = true ∧ sgtE p ts 0 = 0 ∧ ∃ j, (pairsL p ts (mutM p p.length))[j]? = some x ∧ FirstMin ((pairsL p ts (mutM p p.length)).map (sizeE p)) j (sizeE p x))
theorem DblP.uniq {p : List Ln} {ts : List Tst} {x x' : List Ed} {ok ok' : Bool} (h : DblP p ts x ok) (h' : DblP p ts x' ok') : x = x' ∧ ok = ok' := by
  rcases h with ⟨rfl, rfl, h1⟩ | ⟨rfl, h1, j, h2, h3⟩ <;> rcases h' with ⟨rfl, rfl, g1⟩ | ⟨rfl, g1, j', g2, g3⟩
  · exact ⟨rfl, rfl⟩
  · rcases h1 with h1 | h1
    · exact absurd g1 h1
    · rw [h1] at g2; simp at g2
  · rcases g1 with g1 | g1
    · exact absurd h1 g1
    · rw [g1] at h2; simp at h2
  · obtain ⟨rfl, _⟩ := h3.uniq g3
    rw [h2] at g2
    exact ⟨Option.some.inj g2, rfl⟩
theorem BestG.dbl {p : List Ln} {ts : List Tst} {e : List Ed} {m : Int} (hs : sgtE p ts 0 = 0) (h : BestG (sizeE p) [] (pairsL p ts (mutM p p.length)) e m) : DblP p ts e (decide (0 ≤ m)) := by
  rcases h with ⟨h, rfl, rfl⟩ | ⟨j, hj, hm⟩
  · exact .inl ⟨by decide, rfl, .inr h⟩
  · have h1 : m = sizeE p e := by
      have := hm.1
      rw [List.getElem?_map, hj] at this
      exact (Option.some.inj this).symm
    have h0 := sizeE_nonneg p e
    exact .inr ⟨by simp; omega, hs, j, hj, h1 ▸ hm⟩
theorem dbl_good {p : List Ln} {ts : List Tst} {x : List Ed} (h : DblP p ts x true) : x.length = 2 ∧ chkX p x ts = 0 ∧ goodM p x ts = true := by
  rcases h with ⟨h, _⟩ | ⟨_, _, j, hj, _⟩
  · cases h
  · obtain ⟨a, b, _, _, rfl, hd⟩ := mem_pairsL (List.mem_of_getElem? hj)
    unfold dblB at hd
    rw [Bool.and_eq_true, Bool.and_eq_true, decide_eq_true_eq, decide_eq_true_eq] at hd
    exact ⟨rfl, hd.2.1, hd.2.2⟩
end Go.Proofs.YtbccbokjecdaaaaGreat

namespace Go.Proofs.YtbccbokjecdaaaaGreat
open Go.RowKit

def plcE (x : List Ed) : List Int := x.map Ed.at_
def codeL : List Int → Int
  | [] => 0
  | x :: r => x * 8 ^ r.length + codeL r
theorem codeL_lt : ∀ l : List Int, (∀ i ∈ l, 0 ≤ i ∧ i < 8) → 0 ≤ codeL l ∧ codeL l < 8 ^ l.length
  | [], _ => by simp [codeL]
  | x :: r, h => by
    obtain ⟨h1, h2⟩ := codeL_lt r fun i hi => h i (by simp [hi])
    obtain ⟨h3, h4⟩ := h x (by simp)
    have hP : (0 : Int) ≤ 8 ^ r.length := Int.le_of_lt (Int.lt_of_le_of_lt h1 h2)
    rw [codeL, List.length_cons, Int.pow_succ]
    have h5 : x * 8 ^ r.length ≤ 7 * 8 ^ r.length := Int.mul_le_mul_of_nonneg_right (by omega) hP
    have h6 : 0 ≤ x * 8 ^ r.length := Int.mul_nonneg h3 hP
    exact ⟨by omega, by omega⟩
theorem cmpI_add (a b c : Int) : cmpI (a + c) (b + c) = cmpI a b := by unfold cmpI; repeat' split <;> (try omega)
theorem cmpI_of_lt {a b : Int} (h : a < b) : cmpI a b = -1 := by unfold cmpI; repeat' split <;> (try omega)
theorem cmpI_of_gt {a b : Int} (h : b < a) : cmpI a b = 1 := by unfold cmpI; repeat' split <;> (try omega)
theorem cmpI_self (a : Int) : cmpI a a = 0 := by unfold cmpI; repeat' split <;> (try omega)
theorem cmpIs_code : ∀ a b : List Int, a.length = b.length → (∀ i ∈ a, 0 ≤ i ∧ i < 8) → (∀ i ∈ b, 0 ≤ i ∧ i < 8) → cmpIs a b = cmpI (codeL a) (codeL b)
  | [], [], _, _, _ => by rfl
  | [], _ :: _, h, _, _ => by simp at h
  | _ :: _, [], h, _, _ => by simp at h
  | x :: a, y :: b, h, ha, hb => by
    have hl : a.length = b.length := by simpa using h
    have ih := cmpIs_code a b hl (fun i hi => ha i (by simp [hi])) fun i hi => hb i (by simp [hi])
    obtain ⟨a1, a2⟩ := codeL_lt a fun i hi => ha i (by simp [hi])
    obtain ⟨b1, b2⟩ := codeL_lt b fun i hi => hb i (by simp [hi])
    have hP : (0 : Int) ≤ 8 ^ b.length := Int.le_of_lt (Int.lt_of_le_of_lt b1 b2)
    rw [show cmpIs (x :: a) (y :: b) = if cmpI x y = 0 then cmpIs a b else cmpI x y from rfl, codeL, codeL, hl]
    rw [hl] at a2
    by_cases hxy : x = y
    · subst hxy
      rw [if_pos (cmpI_self x), ih, Int.add_comm, Int.add_comm _ (codeL b), cmpI_add]
    · have hne : ¬ cmpI x y = 0 := fun e => hxy (cmpI_zero.1 e)
      rw [if_neg hne]
      have hq : ∀ u v : Int, u < v → u * 8 ^ b.length + 8 ^ b.length ≤ v * 8 ^ b.length := by
        intro u v huv
        have := Int.mul_le_mul_of_nonneg_right (show u + 1 ≤ v by omega) hP
        rw [Int.add_mul, Int.one_mul] at this
        exact this
      by_cases hlt : x < y
      · have := hq x y hlt
        rw [cmpI_of_lt hlt, cmpI_of_lt (by omega)]
      · have := hq y x (by omega)
        rw [cmpI_of_gt (show y < x by omega), cmpI_of_gt (by omega)]
/-- By how many edits, and then by the places, as one number. -/
def keyE (x : List Ed) : Int := (x.length : Int) * 4096 + codeL (plcE x)
theorem keyE_cmp {x y : List Ed} (hx : x.length ≤ 4) (hy : y.length ≤ 4) (ax : ∀ e ∈ x, 0 ≤ e.at_ ∧ e.at_ < 8) (ay : ∀ e ∈ y, 0 ≤ e.at_ ∧ e.at_ < 8) : cmpI (keyE x) (keyE y) = if cmpI (x.length : Int) (y.length : Int) = 0 then cmpIs (plcE x) (plcE y) else cmpI (x.length : Int) (y.length : Int) := by
  have px : ∀ i ∈ plcE x, 0 ≤ i ∧ i < 8 := by intro i hi; obtain ⟨e, he, rfl⟩ := List.mem_map.1 hi; exact ax e he
  have py : ∀ i ∈ plcE y, 0 ≤ i ∧ i < 8 := by intro i hi; obtain ⟨e, he, rfl⟩ := List.mem_map.1 hi; exact ay e he
  obtain ⟨a1, a2⟩ := codeL_lt _ px
  obtain ⟨b1, b2⟩ := codeL_lt _ py
  have hp : ∀ n : Nat, n ≤ 4 → (8 : Int) ^ n ≤ 4096 := by
    intro n hn
    have : n = 0 ∨ n = 1 ∨ n = 2 ∨ n = 3 ∨ n = 4 := by omega
    rcases this with rfl | rfl | rfl | rfl | rfl <;> decide
  have lx := hp (plcE x).length (by unfold plcE; rw [List.length_map]; exact hx)
  have ly := hp (plcE y).length (by unfold plcE; rw [List.length_map]; exact hy)
  unfold keyE
  by_cases h : x.length = y.length
  · rw [h, if_pos (cmpI_self _), Int.add_comm, Int.add_comm _ (codeL (plcE y)), cmpI_add, cmpIs_code _ _ (by unfold plcE; rw [List.length_map, List.length_map]; exact h) px py]
  · rw [if_neg (fun e => h (by have := cmpI_zero.1 e; omega))]
    by_cases hlt : x.length < y.length
    · rw [cmpI_of_lt (show (x.length : Int) < y.length by omega), cmpI_of_lt (by omega)]
    · rw [cmpI_of_gt (show (y.length : Int) < x.length by omega), cmpI_of_gt (by omega)]
/-- The parts of a patch, in the order in which they are made. -/
def partsN (x : List Ed) : List (List Ed) := x.foldl (fun out e => out ++ out.map fun t => t ++ [e]) [[]]
theorem partsN_snoc (x : List Ed) (e : Ed) : partsN (x ++ [e]) = partsN x ++ (partsN x).map fun t => t ++ [e] := by unfold partsN; rw [List.foldl_append]; rfl
theorem partsN_take {x : List Ed} {k : Nat} {e : Ed} (h : x[k]? = some e) : partsN (x.take (k + 1)) = partsN (x.take k) ++ (partsN (x.take k)).map fun t => t ++ [e] := by
  rw [List.take_add_one, h]; exact partsN_snoc _ _
theorem partsN_len (x : List Ed) : ∀ k, (partsN (x.take k)).length ≤ 2 ^ k
  | 0 => by simp [partsN]
  | k + 1 => by
    have ih := partsN_len x k
    cases h : x[k]? with
    | none => rw [List.take_add_one, h]; simp; rw [Nat.pow_succ]; omega
    | some e => rw [partsN_take h, List.length_append, List.length_map, Nat.pow_succ]; omega
theorem partsN_sub (x : List Ed) : ∀ (k : Nat) (t : List Ed), t ∈ partsN (x.take k) → t.Sublist (x.take k)
  | 0, t, h => by simp [partsN] at h; subst h; simp
  | k + 1, t, h => by
    cases hk : x[k]? with
    | none => rw [List.take_add_one, hk] at h ⊢; simp at h ⊢; exact partsN_sub x k t h
    | some e =>
      rw [partsN_take hk] at h
      rw [List.take_add_one, hk]
      rcases List.mem_append.1 h with h | h
      · exact (partsN_sub x k t h).trans (List.sublist_append_left _ _)
      · obtain ⟨u, hu, rfl⟩ := List.mem_map.1 h
        exact (partsN_sub x k u hu).append (List.Sublist.refl _)
theorem partsN_mem {x t : List Ed} (h : t ∈ partsN x) : t.length ≤ x.length ∧ ∀ e ∈ t, e ∈ x := by
  have := partsN_sub x x.length t (by rw [List.take_length]; exact h)
  rw [List.take_length] at this
  exact ⟨this.length_le, fun e he => this.subset he⟩
theorem partsN_self (x : List Ed) : x ∈ partsN x := by
  have : ∀ k, x.take k ∈ partsN (x.take k) := by
    intro k
    induction k with
    | zero => simp [partsN]
    | succ k ih =>
      cases hk : x[k]? with
      | none => rw [List.take_add_one, hk]; simpa using ih
      | some e =>
        rw [partsN_take hk]
        refine List.mem_append_right _ (List.mem_map.2 ⟨_, ih, ?_⟩)
        rw [List.take_add_one, hk]; rfl
  have h := this x.length
  rwa [List.take_length] at h
/-- The good parts. -/
def goodsN (p : List Ln) (x : List Ed) (ts : List Tst) : List (List Ed) := (partsN x).filter fun t => goodM p t ts
/-- Whether a patch is minimal, by what a search for the smallest good part has found. -/
def MinP (p : List Ln) (x : List Ed) (ts : List Tst) (b : Bool) : Prop := (goodsN p x ts = [] ∧ b = false) ∨ ∃ (j : Nat) (t : List Ed), (goodsN p x ts)[j]? = some t ∧ FirstMin ((goodsN p x ts).map keyE) j (keyE t) ∧ b = decide (t.length = x.length)
theorem MinP.yes {p : List Ln} {x : List Ed} {ts : List Tst} {b : Bool} (h : MinP p x ts b) (hg : goodM p x ts = true) (hno : ∀ t ∈ partsN x, t.length < x.length → goodM p t ts = false) : b = true := by
  have hm : x ∈ goodsN p x ts := List.mem_filter.2 ⟨partsN_self x, hg⟩
  rcases h with ⟨h, _⟩ | ⟨j, t, h1, _, rfl⟩
  · rw [h] at hm; cases hm
  · obtain ⟨h2, h3⟩ := List.mem_filter.1 (List.mem_of_getElem? h1)
    have h4 := (partsN_mem h2).1
    rw [decide_eq_true_eq]
    by_cases h5 : t.length < x.length
    · rw [hno t h2 h5] at h3; cases h3
    · omega
theorem parts_one (e : Ed) : partsN [e] = [[], [e]] := rfl
theorem parts_two (e f : Ed) : partsN [e, f] = [[], [e], [f], [e, f]] := rfl
end Go.Proofs.YtbccbokjecdaaaaGreat
