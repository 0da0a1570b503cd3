/-
Lists of lists that the call has made: what a cell of the outer list holds, and one more list appended (for texts that do not reach package seek). No program is named.
Families: lists of lists of numbers, as they lie in memory.
-/
import Derived.Test.YtfbfkkaepgcggaaGreatQ00
import Derived.Maps.AppendAt
import Derived.Test.YtfbfkkaepgcggaaGreatQ01
namespace Go.Proofs.YtfbfkkaepgcggaaGreat
open Go.RowKit

/-- append of one element, and where the new list lies. -/
theorem wpList_appAt8 {P : Program} {α : Type} (w : World) {ops : Array Oper} {rest : List Oper} {o : Oper} {a : Act} {Q : Exit → Act → World → Prop} (hgd : o.guard = none) (s x : Operand) (t : TypeId)
    (ho : o.op = .call { callee := .builtin .append, args := #[s, x], argTypes := #[t, t] })
    (base : Nat) (e : TypeId) {k bytes : Nat} {z : Value} (ht : P.underlying t = some (.slice e)) (info : (P.info? e).map (fun i => (i.zero, i.size, i.bytes)) = some (some z, k, bytes))
    (hzs : z.cells.size = k) (hk : 0 < k) (hby : bytes ≤ 1000)
    (enc : α → List Value) (hen : ∀ x, (enc x).length = k) (h1 : ∀ x, ∀ u ∈ enc x, u.oneCell' = true)
    (v : Value) (xs : List α) (hs : a.eval s = v) (hown : w.ownsRow base e k v xs.length (xs.flatMap enc)) (ad : Addr) (y : α) (c : Nat) (hx : a.eval x = .slice (some ad) 1 c)
    (hnews : ∀ j u, (enc y)[j]? = some u → w.cell? (ad.add j) = some u) (hn : xs.length < 100000000000) (hbase : base ≤ w.heap.size)
    (h : ∀ v' w', w'.ownsRow base e k v' (xs ++ [y]).length ((xs ++ [y]).flatMap enc) → w.grownBy w' v.ownBlock → (v'.ownBlock = v.ownBlock ∨ v'.ownBlock = some w.heap.size) → wpList P ops Q rest (a.put o.dst v') w') : wpList P ops Q (o :: rest) a w := by
  obtain ⟨i, hi, hz0, hz1, hz2⟩ := info_parts info
  refine wpList_append_own_at w hgd s x t ho base e i z k bytes ht hi hz0 hz1 hz2 hzs hk v xs.length (xs.flatMap enc) hs hown ad 1 c (enc y) hx (by rw [hen]; omega) hnews (h1 y) (by unfold maxLen; omega) ?_ hbase ?_
  · exact Nat.le_trans (Nat.mul_le_mul (show xs.length + 1 ≤ 100000000000 by omega) hby) (by decide)
  · intro v' w' a1 a2 _ a4
    refine h v' w' ?_ a2 a4
    rw [List.length_append, List.flatMap_append]
    simpa using a1
theorem slc_kept8 {α : Type} {k : Nat} {enc : α → List Value} {w w' : World} {a : Option Addr} {n c : Nat} {xs : List α} {row : Option Nat} (h : SlcAt k enc w (.slice a n c) xs) (hg : w.grownBy w' row) (hne : ∀ b o s, a = some ⟨b, o, s⟩ → row ≠ some b) : SlcAt k enc w' (.slice a n c) xs := by
  obtain ⟨_, _, e, h1, h2, h3⟩ := h
  cases e
  refine ⟨a, c, rfl, h1, h2, h3.imp id ?_⟩
  rintro ⟨b, o, rfl, hb, hc⟩
  exact ⟨b, o, rfl, Nat.lt_of_lt_of_le hb hg.size, fun j x hx i u hu => hg.cell (hc j x hx i u hu) (fun e => hne b o none rfl e.symm)⟩
/-- A list as it lies in a cell. -/
structure Lo (α : Type) where
  a : Option Addr
  n : Nat
  c : Nat
  x : List α
abbrev Lo.v {α : Type} (t : Lo α) : Value := .slice t.a t.n t.c
def encLo {α : Type} (t : Lo α) : List Value := [t.v]
theorem encLo_len {α : Type} (t : Lo α) : (encLo t).length = 1 := rfl
theorem encLo_one {α : Type} (t : Lo α) : ∀ u ∈ encLo t, u.oneCell' = true := by
  intro u hu
  unfold encLo at hu
  simp only [List.mem_cons, List.not_mem_nil, or_false] at hu
  subst hu
  rfl
theorem lo_at {α : Type} {w : World} {a : Option Addr} {n c : Nat} {L : List (Lo α)} (h : SlcAt 1 encLo w (.slice a n c) L) {k : Nat} {t : Lo α} (hx : L[k]? = some t) : ∃ b o, a = some ⟨b, o, none⟩ ∧ b < w.heap.size ∧ w.cell? ⟨b, o + k, none⟩ = some (.slice t.a t.n t.c) := by
  obtain ⟨_, _, e, _, _, h⟩ := h
  cases e
  obtain ⟨b, o, rfl, hb, hc⟩ := h.resolve_left (by intro h0; rw [h0.1] at hx; simp at hx)
  exact ⟨b, o, rfl, hb, by simpa using hc k t hx 0 _ rfl⟩
theorem own_blk2 {base k : Nat} {α : Type} {enc : α → List Value} {w : World} {a : Option Addr} {n c : Nat} {xs : List α} (h : Own k enc base w (.slice a n c) xs) : ∀ b o s, a = some ⟨b, o, s⟩ → base ≤ b ∧ b < w.heap.size := by
  obtain ⟨e, h⟩ := h
  intro b o s ha
  subst ha
  rcases h.2 with ⟨hv, _⟩ | ⟨g, cap, cur, hv, hg, hh, _⟩
  · cases hv
  · cases hv; exact ⟨hg, lt_of_block hh⟩
/-- A list of lists that the call has made, from the block base on; none of the lists lies in its block. -/
structure LoOwn {α : Type} (base : Nat) (T : TypeId) (k : Nat) (enc : α → List Value) (w : World) (v : Value) (L : List (Lo α)) : Prop where
  row : w.ownsRow base T 1 v L.length (L.flatMap encLo)
  ins : ∀ t ∈ L, SlcAt k enc w t.v t.x
  off : ∀ t ∈ L, ∀ b o s, t.a = some ⟨b, o, s⟩ → v.ownBlock ≠ some b ∧ b < w.heap.size
theorem LoOwn.nil {α : Type} (base : Nat) (T : TypeId) (k : Nat) (enc : α → List Value) (w : World) : LoOwn base T k enc w (.slice none 0 0) [] := ⟨World.ownsRow_nil _ _ _ _, by simp, by simp⟩
theorem LoOwn.grow {α : Type} {base : Nat} {T : TypeId} {k : Nat} {enc : α → List Value} {w w' : World} {v : Value} {L : List (Lo α)} (h : LoOwn base T k enc w v L) (g : Grow w w') : LoOwn base T k enc w' v L :=
  ⟨g.owns h.row, fun t ht => (h.ins t ht).grow g, fun t ht b o s hb => ⟨(h.off t ht b o s hb).1, Nat.lt_of_lt_of_le (h.off t ht b o s hb).2 g.sz⟩⟩
theorem LoOwn.lt {α : Type} {base : Nat} {T : TypeId} {k : Nat} {enc : α → List Value} {w : World} {v : Value} {L : List (Lo α)} (h : LoOwn base T k enc w v L) {b : Nat} (hb : v.ownBlock = some b) : b < w.heap.size := (h.row.lt b hb).2
theorem LoOwn.at_ {α : Type} {base : Nat} {T : TypeId} {k : Nat} {enc : α → List Value} {w : World} {v : Value} {L : List (Lo α)} (h : LoOwn base T k enc w v L) : SlcAt 1 encLo w v L := slc_of_owns encLo_len h.row
theorem LoOwn.app {α : Type} {base : Nat} {T : TypeId} {k : Nat} {enc : α → List Value} {w w' : World} {v v' : Value} {L : List (Lo α)} {t : Lo α} (h : LoOwn base T k enc w v L) (hgr : w.grownBy w' v.ownBlock) (hown : w'.ownsRow base T 1 v' (L ++ [t]).length ((L ++ [t]).flatMap encLo)) (hat : v'.ownBlock = v.ownBlock ∨ v'.ownBlock = some w.heap.size)
    (ht : SlcAt k enc w t.v t.x) (hoff : ∀ b o s, t.a = some ⟨b, o, s⟩ → v.ownBlock ≠ some b ∧ b < w.heap.size) : LoOwn base T k enc w' v' (L ++ [t]) := by
  have hall : ∀ u ∈ L ++ [t], SlcAt k enc w u.v u.x ∧ ∀ b o s, u.a = some ⟨b, o, s⟩ → v.ownBlock ≠ some b ∧ b < w.heap.size := by
    intro u hu
    rcases List.mem_append.1 hu with hu | hu
    · exact ⟨h.ins u hu, h.off u hu⟩
    · simp at hu; subst hu; exact ⟨ht, hoff⟩
  refine ⟨hown, fun u hu => slc_kept8 (hall u hu).1 hgr fun b o s hb => ((hall u hu).2 b o s hb).1, fun u hu b o s hb => ?_⟩
  obtain ⟨h1, h2⟩ := (hall u hu).2 b o s hb
  refine ⟨fun he => ?_, Nat.lt_of_lt_of_le h2 hgr.size⟩
  rcases hat with h3 | h3
  · rw [h3] at he; exact h1 he
  · rw [h3] at he; have := Option.some.inj he; omega
/-- append of one element as a step of a region that draws. -/
theorem step_appAt {P : Program} {α : Type} {ops : Array Oper} {o : Oper} {a : Act} {w : World} {K : Act → World → Prop} {Q : Exit → Act → World → Prop} {E : Prop} (hgd : o.guard = none) (s x : Operand) (t : TypeId)
    (ho : o.op = .call { callee := .builtin .append, args := #[s, x], argTypes := #[t, t] })
    (base : Nat) (e : TypeId) {k bytes : Nat} {z : Value} (ht : P.underlying t = some (.slice e)) (info : (P.info? e).map (fun i => (i.zero, i.size, i.bytes)) = some (some z, k, bytes))
    (hzs : z.cells.size = k) (hk : 0 < k) (hby : bytes ≤ 1000)
    (enc : α → List Value) (hen : ∀ x, (enc x).length = k) (h1 : ∀ x, ∀ u ∈ enc x, u.oneCell' = true)
    (v : Value) (xs : List α) (hs : a.eval s = v) (hown : w.ownsRow base e k v xs.length (xs.flatMap enc)) (ad : Addr) (y : α) (c : Nat) (hx : a.eval x = .slice (some ad) 1 c)
    (hnews : ∀ j u, (enc y)[j]? = some u → w.cell? (ad.add j) = some u) (hn : xs.length < 100000000000) (hbase : base ≤ w.heap.size)
    (h : ∀ v' w', w'.ownsRow base e k v' (xs ++ [y]).length ((xs ++ [y]).flatMap enc) → w.grownBy w' v.ownBlock → (v'.ownBlock = v.ownBlock ∨ v'.ownBlock = some w.heap.size) → K (a.put o.dst v') w') :
    if Region.wanted o (yielded ops a.tmps) = true then Oper.wp P o a w K Q else E := by
  have hw : Region.wanted o (yielded ops a.tmps) = true := by simp [Region.wanted, hgd]
  rw [if_pos hw]
  obtain ⟨i, hi, hz0, hz1, hz2⟩ := info_parts info
  obtain ⟨v', w', hrun, a1, a2, _, a4⟩ := run_append_own_at (P := P) w base t o.type e i z k bytes ht hi hz0 hz1 hz2 hzs hk v xs.length (xs.flatMap enc) hown ad 1 c (enc y) (by rw [hen]; omega) hnews (h1 y) (by unfold maxLen; omega) (Nat.le_trans (Nat.mul_le_mul (show xs.length + 1 ≤ 100000000000 by omega) hby) (by decide)) hbase
  unfold Oper.wp
  simp [execOp, ho, resolve, invoke, builtin, hs, hx, hrun, Result.andThen]
  refine h v' w' ?_ a2 a4
  rw [List.length_append, List.flatMap_append]
  simpa using a1
end Go.Proofs.YtfbfkkaepgcggaaGreat

namespace Go.Proofs.YtfbfkkaepgcggaaGreat
open Go.RowKit

/-- The slice value v holds the lists f. -/
def FamAt (w : World) (v : Value) (f : List (List Int)) : Prop := ∃ L : List (Lo Int), SlcAt 1 encLo w v L ∧ (∀ t ∈ L, IntsAt w t.v t.x) ∧ L.map Lo.x = f
theorem FamAt.grow {w w' : World} {v : Value} {f : List (List Int)} (h : FamAt w v f) (g : Grow w w') : FamAt w' v f :=
  let ⟨L, h1, h2, h3⟩ := h; ⟨L, h1.grow g, fun t ht => (h2 t ht).grow g, h3⟩
theorem FamAt.nil (w : World) : FamAt w (.slice none 0 0) [] := ⟨[], SlcAt.nil _ _ _, by simp, rfl⟩
theorem FamAt.out {w : World} {v : Value} {f : List (List Int)} (h : FamAt w v f) : ∃ a c, v = .slice a f.length c ∧ f.length ≤ c ∧ c ≤ 9223372036854775807 := by
  obtain ⟨L, ⟨a, c, h1, h2, h3, _⟩, _, rfl⟩ := h
  rw [List.length_map]
  exact ⟨a, c, h1, h2, h3⟩
theorem fam_at {w : World} {a : Option Addr} {n c : Nat} {f : List (List Int)} (h : FamAt w (.slice a n c) f) {k : Nat} {xs : List Int} (hx : f[k]? = some xs) :
    ∃ b o ta tc, a = some ⟨b, o, none⟩ ∧ b < w.heap.size ∧ w.cell? ⟨b, o + k, none⟩ = some (.slice ta xs.length tc) ∧ IntsAt w (.slice ta xs.length tc) xs := by
  obtain ⟨L, h1, h2, rfl⟩ := h
  rw [List.getElem?_map] at hx
  cases ht : L[k]? with
  | none => rw [ht] at hx; cases hx
  | some t =>
    rw [ht] at hx
    obtain ⟨ta, tn, tc, tx⟩ := t
    simp only [Option.map_some, Option.some.injEq] at hx
    subst hx
    obtain ⟨b, o, ha, hb, hc⟩ := lo_at h1 ht
    have hi := h2 _ (List.mem_of_getElem? ht)
    have hn := (slc_n hi).1
    dsimp only [Lo.v] at hn hi hc ⊢
    subst hn
    exact ⟨b, o, ta, tc, ha, hb, hc, hi⟩
/-- Lists that were made from the block base on and can be written. -/
def FreeL (base : Nat) (w : World) (L : List (Lo Int)) : Prop := ∀ t ∈ L, ∀ b o s, t.a = some ⟨b, o, s⟩ → base ≤ b ∧ b < w.heap.size ∧ ∀ i, w.frozen? ⟨b, i, none⟩ = false
theorem FreeL.nil (base : Nat) (w : World) : FreeL base w [] := fun t ht => by cases ht
theorem FreeL.grow {base : Nat} {w w' : World} {L : List (Lo Int)} (h : FreeL base w L) (g : Grow w w') : FreeL base w' L := fun t ht b o s he => by
  obtain ⟨k1, k2, k3⟩ := h t ht b o s he
  exact ⟨k1, Nat.lt_of_lt_of_le k2 g.sz, fun i => (g.cellsB.2 b i k2).trans (k3 i)⟩
theorem frozen_of_heap {A B : World} {b : Nat} (h : B.heap[b]? = A.heap[b]?) (i : Nat) : B.frozen? ⟨b, i, none⟩ = A.frozen? ⟨b, i, none⟩ := by
  unfold World.frozen?; rw [h]
theorem FreeL.kept {base : Nat} {w w' : World} {L : List (Lo Int)} {row : Option Nat} (h : FreeL base w L) (g : w.grownBy w' row) (hne : ∀ t ∈ L, ∀ b o s, t.a = some ⟨b, o, s⟩ → row ≠ some b) : FreeL base w' L := fun t ht b o s he => by
  obtain ⟨k1, k2, k3⟩ := h t ht b o s he
  exact ⟨k1, Nat.lt_of_lt_of_le k2 g.size, fun i => (frozen_of_heap (g.block b k2 (fun e => hne t ht b o s he e.symm)) i).trans (k3 i)⟩
theorem FreeL.app {base : Nat} {w : World} {L : List (Lo Int)} {t : Lo Int} (h : FreeL base w L) (ht : ∀ b o s, t.a = some ⟨b, o, s⟩ → base ≤ b ∧ b < w.heap.size ∧ ∀ i, w.frozen? ⟨b, i, none⟩ = false) : FreeL base w (L ++ [t]) := fun u hu => by
  rcases List.mem_append.1 hu with hu | hu
  · exact h u hu
  · simp at hu; subst hu; exact ht
/-- A family whose lists were made from the block base on and can be written; none of them lies in the block of the outer list. -/
def FamNew (base : Nat) (w : World) (v : Value) (f : List (List Int)) : Prop :=
  ∃ L : List (Lo Int), SlcAt 1 encLo w v L ∧ L.map Lo.x = f ∧ NewS base v ∧ (∀ t ∈ L, IntsAt w t.v t.x) ∧ FreeL base w L ∧ ∀ t ∈ L, ∀ b o s, t.a = some ⟨b, o, s⟩ → ∀ a n c, v = .slice (some a) n c → a.block ≠ b
theorem FamNew.fam {base : Nat} {w : World} {v : Value} {f : List (List Int)} (h : FamNew base w v f) : FamAt w v f :=
  let ⟨L, h1, h2, _, h4, _⟩ := h; ⟨L, h1, h4, h2⟩
theorem FamNew.nil (base : Nat) (w : World) : FamNew base w (.slice none 0 0) [] := ⟨[], SlcAt.nil _ _ _, rfl, NewS.nil _ _ _, by simp, FreeL.nil _ _, by simp⟩
theorem FamNew.mono {base base' : Nat} {w : World} {v : Value} {f : List (List Int)} (h : FamNew base w v f) (hb : base' ≤ base) : FamNew base' w v f :=
  let ⟨L, h1, h2, h3, h4, h5, h6⟩ := h; ⟨L, h1, h2, h3.mono hb, h4, fun t ht b o s he => ⟨Nat.le_trans hb (h5 t ht b o s he).1, (h5 t ht b o s he).2⟩, h6⟩
theorem FamNew.grow {base : Nat} {w w' : World} {v : Value} {f : List (List Int)} (h : FamNew base w v f) (g : Grow w w') : FamNew base w' v f :=
  let ⟨L, h1, h2, h3, h4, h5, h6⟩ := h; ⟨L, h1.grow g, h2, h3, fun t ht => (h4 t ht).grow g, h5.grow g, h6⟩
end Go.Proofs.YtfbfkkaepgcggaaGreat
