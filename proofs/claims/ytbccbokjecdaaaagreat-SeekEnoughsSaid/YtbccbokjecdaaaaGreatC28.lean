/- Lists of lists that the call has made: what a cell of the outer list holds, and one more list appended. No program is named. -/
import Derived.Test.YtbccbokjecdaaaaGreatC20
namespace Go.Proofs.YtbccbokjecdaaaaGreat
open Go.RowKit

/-- A list as it lies in a cell. -/
structure Lo (α : Type) where
  a : Option Addr
  n : Nat
  c : Nat
  x : List α
abbrev Lo.v {α : Type} (t : Lo α) : Value := .slice t.a t.n t.c
def encLo {α : Type} (t : Lo α) : List Value := [t.v]
theorem encLo_len {α : Type} (t : Lo α) : (encLo t).length = 1 := rfl
theorem encLo_one {α : Type} (t : Lo α) : ∀ u ∈ encLo t, u.oneCell' = true := by
  intro u hu
  unfold encLo at hu
  simp only [List.mem_cons, List.not_mem_nil, or_false] at hu
  subst hu
  rfl
theorem lo_at {α : Type} {w : World} {a : Option Addr} {n c : Nat} {L : List (Lo α)} (h : SlcAt 1 encLo w (.slice a n c) L) {k : Nat} {t : Lo α} (hx : L[k]? = some t) : ∃ b o, a = some ⟨b, o, none⟩ ∧ b < w.heap.size ∧ w.cell? ⟨b, o + k, none⟩ = some (.slice t.a t.n t.c) := by
  obtain ⟨_, _, e, _, _, h⟩ := h
  cases e
  obtain ⟨b, o, rfl, hb, hc⟩ := h.resolve_left (by intro h0; rw [h0.1] at hx; simp at hx)
  exact ⟨b, o, rfl, hb, by simpa using hc k t hx 0 _ rfl⟩
theorem own_blk2 {base k : Nat} {α : Type} {enc : α → List Value} {w : World} {a : Option Addr} {n c : Nat} {xs : List α} (h : Own k enc base w (.slice a n c) xs) : ∀ b o s, a = some ⟨b, o, s⟩ → base ≤ b ∧ b < w.heap.size := by
  obtain ⟨e, h⟩ := h
  intro b o s ha
  subst ha
  rcases h.2 with ⟨hv, _⟩ | ⟨g, cap, cur, hv, hg, hh, _⟩
  · cases hv
  · cases hv; exact ⟨hg, lt_of_block hh⟩
/-- A list of lists that the call has made, from the block base on; none of the lists lies in its block. -/
structure LoOwn {α : Type} (base : Nat) (T : TypeId) (k : Nat) (enc : α → List Value) (w : World) (v : Value) (L : List (Lo α)) : Prop where
  row : w.ownsRow base T 1 v L.length (L.flatMap encLo)
  ins : ∀ t ∈ L, SlcAt k enc w t.v t.x
  off : ∀ t ∈ L, ∀ b o s, t.a = some ⟨b, o, s⟩ → v.ownBlock ≠ some b ∧ b < w.heap.size
theorem LoOwn.nil {α : Type} (base : Nat) (T : TypeId) (k : Nat) (enc : α → List Value) (w : World) : LoOwn base T k enc w (.slice none 0 0) [] := ⟨World.ownsRow_nil _ _ _ _, by simp, by simp⟩
theorem LoOwn.grow {α : Type} {base : Nat} {T : TypeId} {k : Nat} {enc : α → List Value} {w w' : World} {v : Value} {L : List (Lo α)} (h : LoOwn base T k enc w v L) (g : Grow w w') : LoOwn base T k enc w' v L :=
  ⟨g.owns h.row, fun t ht => (h.ins t ht).grow g, fun t ht b o s hb => ⟨(h.off t ht b o s hb).1, Nat.lt_of_lt_of_le (h.off t ht b o s hb).2 g.sz⟩⟩
theorem LoOwn.lt {α : Type} {base : Nat} {T : TypeId} {k : Nat} {enc : α → List Value} {w : World} {v : Value} {L : List (Lo α)} (h : LoOwn base T k enc w v L) {b : Nat} (hb : v.ownBlock = some b) : b < w.heap.size := (h.row.lt b hb).2
theorem LoOwn.at_ {α : Type} {base : Nat} {T : TypeId} {k : Nat} {enc : α → List Value} {w : World} {v : Value} {L : List (Lo α)} (h : LoOwn base T k enc w v L) : SlcAt 1 encLo w v L := slc_of_owns encLo_len h.row
/-- A list that was made later than the outer one lies elsewhere. -/
theorem LoOwn.new {α : Type} {base : Nat} {T : TypeId} {k : Nat} {enc : α → List Value} {w w' : World} {v : Value} {L : List (Lo α)} (h : LoOwn base T k enc w v L) {β : Type} {k2 : Nat} {enc2 : β → List Value} {a : Option Addr} {n c : Nat} {xs : List β} (ho : Own k2 enc2 w.heap.size w' (.slice a n c) xs) : ∀ b o s, a = some ⟨b, o, s⟩ → v.ownBlock ≠ some b ∧ b < w'.heap.size := by
  intro b o s hb
  obtain ⟨h1, h2⟩ := own_blk2 ho b o s hb
  exact ⟨fun he => by have := h.lt he; omega, h2⟩
theorem LoOwn.app {α : Type} {base : Nat} {T : TypeId} {k : Nat} {enc : α → List Value} {w w' : World} {v v' : Value} {L : List (Lo α)} {t : Lo α} (h : LoOwn base T k enc w v L) (hgr : w.grownBy w' v.ownBlock) (hown : w'.ownsRow base T 1 v' (L ++ [t]).length ((L ++ [t]).flatMap encLo)) (hat : v'.ownBlock = v.ownBlock ∨ v'.ownBlock = some w.heap.size)
    (ht : SlcAt k enc w t.v t.x) (hoff : ∀ b o s, t.a = some ⟨b, o, s⟩ → v.ownBlock ≠ some b ∧ b < w.heap.size) : LoOwn base T k enc w' v' (L ++ [t]) := by
  have hall : ∀ u ∈ L ++ [t], SlcAt k enc w u.v u.x ∧ ∀ b o s, u.a = some ⟨b, o, s⟩ → v.ownBlock ≠ some b ∧ b < w.heap.size := by
    intro u hu
    rcases List.mem_append.1 hu with hu | hu
    · exact ⟨h.ins u hu, h.off u hu⟩
    · simp at hu; subst hu; exact ⟨ht, hoff⟩
  refine ⟨hown, fun u hu => slc_kept (hall u hu).1 hgr fun b o s hb => ((hall u hu).2 b o s hb).1, fun u hu b o s hb => ?_⟩
  obtain ⟨h1, h2⟩ := (hall u hu).2 b o s hb
  refine ⟨fun he => ?_, Nat.lt_of_lt_of_le h2 hgr.size⟩
  rcases hat with h3 | h3
  · rw [h3] at he; exact h1 he
  · rw [h3] at he; have := Option.some.inj he; omega
end Go.Proofs.YtbccbokjecdaaaaGreat
