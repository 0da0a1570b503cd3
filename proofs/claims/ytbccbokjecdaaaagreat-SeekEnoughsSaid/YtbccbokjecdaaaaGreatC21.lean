/- The smallest single repair: the plain laws, and how a struct is written in a block. -/
import Derived.Test.YtbccbokjecdaaaaGreatC18
import Derived.Lib.SmallJoins
namespace Go.Proofs.YtbccbokjecdaaaaGreat
open Go.RowKit

/-- The size of an edit, as the document says it. -/
def sizeR (p : List Ln) (e : Ed) : Int := fieldsN (lineAt p e.at_) e.l
/-- The single repairs at the first places, as the document says them. -/
def everyR (p : List Ln) (ts : List Tst) (kind : Int) (k : Nat) : List Ed := (List.range k).flatMap fun n : Nat => (fixR p ts n kind).map (Ed.mk n)
theorem everyR_succ (p : List Ln) (ts : List Tst) (kind : Int) (k : Nat) : everyR p ts kind (k + 1) = everyR p ts kind k ++ (fixR p ts k kind).map (Ed.mk k) := by
  unfold everyR
  rw [List.range_succ, List.flatMap_append]
  simp
theorem fixE_eq (p : List Ln) (ts : List Tst) (a : Int) (C : List Ln) : fixE p ts a C = ((fixE p ts a C).map Ed.l).map (Ed.mk a) := by
  unfold fixE
  rw [List.map_map, List.map_map]
  rfl
theorem everyN_R {p : List Ln} {ts : List Tst} {kind : Int} (hp : valP p = 0) (ht : valT ts = 0) (k0 : 0 ≤ kind) (k2 : kind ≤ 2) : ∀ k, k ≤ p.length → everyN p ts (candAt p kind) k = everyR p ts kind k
  | 0, _ => rfl
  | k + 1, hk => by rw [everyN_succ, everyR_succ, everyN_R hp ht k0 k2 k (by omega), fixE_eq, fixE_R hp ht k0 k2 (show k < p.length by omega)]
theorem everyR_mem {p : List Ln} {ts : List Tst} {kind : Int} {k : Nat} {e : Ed} (h : e ∈ everyR p ts kind k) : 0 ≤ e.at_ ∧ e.at_ < k ∧ e.l.ok = true ∧ e.l ∈ fixR p ts e.at_ kind := by
  unfold everyR at h
  obtain ⟨n, hn, he⟩ := List.mem_flatMap.1 h
  obtain ⟨l, hl, rfl⟩ := List.mem_map.1 he
  have hn' := List.mem_range.1 hn
  refine ⟨?_, ?_, candR_ok (List.mem_filter.1 hl).1, hl⟩
  · show 0 ≤ (n : Int); omega
  · show (n : Int) < (k : Int); omega
theorem size1_R {p : List Ln} {ts : List Tst} {kind : Int} (hp : valP p = 0) {e : Ed} (h : e ∈ everyR p ts kind p.length) : size1 p e = sizeR p e := by
  obtain ⟨h0, h1, hx, _⟩ := everyR_mem h
  obtain ⟨t, l⟩ := e
  dsimp only at h0 h1 hx
  have hc : chkX p [⟨t, l⟩] [] = 0 := chkX_one hp (by rfl) h0 h1 hx
  unfold size1 sizeE
  rw [if_pos hc]
  unfold sizeR lineAt
  simp [sizeL]
/-- What the document's single has found. -/
def BestP (p : List Ln) (G : List Ed) (e : Ed) (m : Int) : Prop := (G = [] ∧ e = ⟨0, ⟨0, 0, 0, 0⟩⟩ ∧ m = -1) ∨ ∃ j, G[j]? = some e ∧ FirstMin (G.map (sizeR p)) j m
theorem BestP.start (p : List Ln) : BestP p [] ⟨0, ⟨0, 0, 0, 0⟩⟩ (-1) := .inl ⟨rfl, rfl, rfl⟩
theorem sizeR_nonneg (p : List Ln) (e : Ed) : 0 ≤ sizeR p e := (fieldsN_le _ _).1
theorem BestP.size {p : List Ln} {G : List Ed} {e : Ed} {m : Int} (h : BestP p G e m) : (G = [] ∧ m = -1) ∨ (0 ≤ m ∧ m ≤ 4 ∧ m = sizeR p e) := by
  rcases h with ⟨h, _, hm⟩ | ⟨j, hj, hm, _⟩
  · exact .inl ⟨h, hm⟩
  · rw [List.getElem?_map, hj] at hm
    have : m = sizeR p e := (Option.some.inj hm).symm
    exact .inr ⟨by rw [this]; exact sizeR_nonneg _ _, by rw [this]; exact (fieldsN_le _ _).2, this⟩
theorem FirstMin.snoc {S : List Int} {j : Nat} {m s : Int} (h : FirstMin S j m) : (s < m → FirstMin (S ++ [s]) S.length s) ∧ (¬ s < m → FirstMin (S ++ [s]) j m) := by
  have h1 : FirstMin ((S ++ [s]).take S.length) j m := by rw [List.take_left]; exact h
  have h2 := h1.step (s := s) (by simp)
  rw [show (S ++ [s]).take (S.length + 1) = S ++ [s] from List.take_of_length_le (by simp)] at h2
  exact h2
theorem BestP.take {p : List Ln} {G : List Ed} {e x : Ed} {m : Int} (h : BestP p G e m) (hs : m < 0 ∨ sizeR p x < m) : BestP p (G ++ [x]) x (sizeR p x) := by
  refine .inr ⟨G.length, by simp, ?_⟩
  rw [List.map_append, List.map_cons, List.map_nil]
  rcases h with ⟨rfl, _, rfl⟩ | ⟨j, hj, hm⟩
  · exact FirstMin.one (S := [sizeR p x]) rfl
  · have hlt : sizeR p x < m := by
      rcases hs with hs | hs
      · have := hm.1
        rw [List.getElem?_map, hj] at this
        have : m = sizeR p e := (Option.some.inj this).symm
        have := sizeR_nonneg p e
        omega
      · exact hs
    have := (hm.snoc (s := sizeR p x)).1 hlt
    rw [List.length_map] at this
    exact this
theorem BestP.skip {p : List Ln} {G : List Ed} {e x : Ed} {m : Int} (h : BestP p G e m) (h0 : ¬ m < 0) (hs : ¬ sizeR p x < m) (b : Bool) : BestP p (G ++ if b then [x] else []) e m := by
  cases b with
  | false => simpa using h
  | true =>
    rcases h with ⟨_, _, rfl⟩ | ⟨j, hj, hm⟩
    · omega
    · refine .inr ⟨j, ?_, ?_⟩
      · rw [if_pos rfl, List.getElem?_append_left (List.getElem?_eq_some_iff.1 hj).1]; exact hj
      · rw [if_pos rfl, List.map_append]
        exact (hm.snoc (s := sizeR p x)).2 hs
theorem BestP.sngl {p : List Ln} {ts : List Tst} {kind : Int} {e : Ed} {m : Int} (hs : sgtE p ts kind = 0) (h : BestP p (everyR p ts kind p.length) e m) : SnglP p ts kind e (decide (0 ≤ m)) := by
  obtain ⟨⟨hv, hvt⟩, ⟨k0, k2⟩, _⟩ := sgtE_ok.1 hs
  have hE := everyN_R hv hvt k0 k2 p.length (Nat.le_refl _)
  rcases h with ⟨h, rfl, rfl⟩ | ⟨j, hj, hm⟩
  · exact .inl ⟨by decide, rfl, .inr (by rw [hE]; exact h)⟩
  · have h1 : m = sizeR p e := by
      have := hm.1
      rw [List.getElem?_map, hj] at this
      exact (Option.some.inj this).symm
    have h0 := sizeR_nonneg p e
    refine .inr ⟨by simp; omega, hs, j, by rw [hE]; exact hj, ?_⟩
    rw [hE, List.map_congr_left (g := sizeR p) (fun x hx => size1_R hv hx), size1_R hv (List.mem_of_getElem? hj), ← h1]
    exact hm

/-- A struct of five numbers, written in a block. -/
def set5 (w : World) (g : Nat) (e : Ed) : World := ((((w.setCell ⟨g, 0, none⟩ (.int .i64 e.at_)).setCell ⟨g, 1, none⟩ (.int .i64 e.l.op)).setCell ⟨g, 2, none⟩ (.int .i64 e.l.d)).setCell ⟨g, 3, none⟩ (.int .i64 e.l.a)).setCell ⟨g, 4, none⟩ (.int .i64 e.l.b)
def EBlk (w : World) (g : Nat) (e : Ed) : Prop := w.heap[g]? = some (.cells #[.int .i64 e.at_, .int .i64 e.l.op, .int .i64 e.l.d, .int .i64 e.l.a, .int .i64 e.l.b] 27 (0, 0))
theorem EBlk.set {w : World} {g : Nat} {e : Ed} (h : EBlk w g e) (f : Ed) : EBlk (set5 w g f) g f := by
  have h0 := Go.Joins.block_setCell (i := 0) h (.int .i64 f.at_)
  have h1 := Go.Joins.block_setCell (i := 1) h0 (.int .i64 f.l.op)
  have h2 := Go.Joins.block_setCell (i := 2) h1 (.int .i64 f.l.d)
  have h3 := Go.Joins.block_setCell (i := 3) h2 (.int .i64 f.l.a)
  have h4 := Go.Joins.block_setCell (i := 4) h3 (.int .i64 f.l.b)
  unfold EBlk set5
  rw [h4]
  rfl
theorem set5_below {B : Nat} {a w : World} {g : Nat} (e : Ed) (h : Below B a w) (hg : B ≤ g) : Below B a (set5 w g e) := below_set5 h hg 0 1 2 3 4 _ _ _ _ _
theorem set5_size (w : World) (g : Nat) (e : Ed) : (set5 w g e).heap.size = w.heap.size := by simp [set5, World.size_setCell]
theorem lines_set5 {w : World} {g : Nat} {e : Ed} {a : Option Addr} {n c : Nat} {xs : List Ln} (h : LinesAt w (.slice a n c) xs) (hb : ∀ b o s, a = some ⟨b, o, s⟩ → b ≠ g) : LinesAt (set5 w g e) (.slice a n c) xs := by
  obtain ⟨a', c', hv, h1, h2, h3⟩ := h
  cases hv
  refine ⟨a, c, rfl, h1, h2, h3.imp id ?_⟩
  rintro ⟨b, o, rfl, hbl, hc⟩
  refine ⟨b, o, rfl, by rw [set5_size]; exact hbl, fun j x hx i u hu => ?_⟩
  have hne := hb b o none rfl
  unfold set5
  rw [World.cell?_setCell_far _ _ _ _ (by exact fun h => hne h.symm), World.cell?_setCell_far _ _ _ _ (by exact fun h => hne h.symm), World.cell?_setCell_far _ _ _ _ (by exact fun h => hne h.symm), World.cell?_setCell_far _ _ _ _ (by exact fun h => hne h.symm), World.cell?_setCell_far _ _ _ _ (by exact fun h => hne h.symm)]
  exact hc j x hx i u hu
theorem own_blk {base k : Nat} {α : Type} {enc : α → List Value} {w : World} {a : Option Addr} {n c : Nat} {xs : List α} (h : Own k enc base w (.slice a n c) xs) : ∀ b o s, a = some ⟨b, o, s⟩ → base ≤ b := by
  obtain ⟨e, h⟩ := h
  intro b o s ha
  subst ha
  rcases h.2 with ⟨hv, _⟩ | ⟨g, cap, cur, hv, hg, _⟩
  · cases hv
  · cases hv; exact hg
end Go.Proofs.YtbccbokjecdaaaaGreat
