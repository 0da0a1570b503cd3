/-
The plain law of SeekNears: templates go both ways. No program is named.
Stores into a list that the call has made. No program is named.
Small lemmas: one element of a list that can be read. No program is named.
The plain functions behind layer 2: tests, and which of them pass. No program is named.
The plain functions behind Force: its errors, and the numbers that lists force upon lines. No program is named.
The plain functions behind layer 4: patches. No program is named.
-/
import Derived.Test.YtbccbokjecdaaaaGreatB01
import Derived.Test.YtbccbokjecdaaaaGreatB00
namespace Go.Proofs.YtbccbokjecdaaaaGreat
open Go.RowKit

theorem ok_none {l : Ln} (h : l.ok = true) (h0 : l.op = 0) : l = ⟨0, 0, 0, 0⟩ := by
  obtain ⟨op, d, a, b⟩ := l
  dsimp only at h0
  subst h0
  unfold Ln.ok vL at h
  simp at h
  obtain ⟨⟨rfl, rfl⟩, rfl⟩ := h
  rfl
theorem ok_cases {l : Ln} (h : l.ok = true) : (l.op = 0 ∧ l.d = 0 ∧ l.a = 0 ∧ l.b = 0) ∨ (l.op = 1 ∧ 0 ≤ l.d ∧ l.d ≤ 3 ∧ -9 ≤ l.a ∧ l.a ≤ 9 ∧ l.b = 0) ∨ (l.op = 2 ∧ 0 ≤ l.d ∧ l.d ≤ 3 ∧ 0 ≤ l.a ∧ l.a ≤ 3 ∧ l.b = 0) ∨
    (3 ≤ l.op ∧ l.op ≤ 6 ∧ 0 ≤ l.d ∧ l.d ≤ 3 ∧ 0 ≤ l.a ∧ l.a ≤ 3 ∧ 0 ≤ l.b ∧ l.b ≤ 3) ∨ (l.op = 7 ∧ 1 ≤ l.d ∧ l.d ≤ 8 ∧ 0 ≤ l.a ∧ l.a ≤ 3 ∧ 0 ≤ l.b ∧ l.b ≤ 3) := by
  obtain ⟨op, d, a, b⟩ := l
  unfold Ln.ok vL at h
  simp only [inB_def] at h
  dsimp only
  split at h
  · simp at h; omega
  · split at h
    · simp at h; omega
    · split at h
      · simp at h; omega
      · split at h
        · simp at h; omega
        · split at h
          · simp at h; omega
          · cases h
theorem raw_cases {l m : Ln} (h : m ∈ rawT l) : m = ⟨0, 0, 0, 0⟩ ∨ m = byL l (-1) ∨ m = byL l 1 ∨ (∃ k ∈ fldL l.op, ∃ n, m = setF l k n) ∨ (3 ≤ l.op ∧ m = ⟨l.op, l.d, l.b, l.a⟩) ∨ (3 ≤ l.op ∧ l.op ≤ 6 ∧ ∃ o, 3 ≤ o ∧ o ≤ 6 ∧ m = ⟨o, l.d, l.a, l.b⟩) := by
  unfold rawT at h
  rcases List.mem_append.1 h with h | h
  · rcases List.mem_append.1 h with h | h
    · rcases List.mem_append.1 h with h | h
      · simp only [List.mem_cons, List.not_mem_nil, or_false] at h
        rcases h with h | h | h
        · exact .inl h
        · exact .inr (.inl h)
        · exact .inr (.inr (.inl h))
      · obtain ⟨k, hk, h⟩ := List.mem_flatMap.1 h
        simp only [List.mem_cons, List.not_mem_nil, or_false] at h
        rcases h with h | h | h | h <;> exact .inr (.inr (.inr (.inl ⟨k, hk, _, h⟩)))
    · split at h
      · next hc =>
        simp only [List.mem_cons, List.not_mem_nil, or_false] at h
        exact .inr (.inr (.inr (.inr (.inl ⟨hc, h⟩))))
      · simp at h
  · split at h
    · next hc =>
      simp only [List.mem_cons, List.not_mem_nil, or_false] at h
      refine .inr (.inr (.inr (.inr (.inr ⟨hc.1, hc.2, ?_⟩))))
      rcases h with h | h | h | h
      · exact ⟨3, by omega, by omega, h⟩
      · exact ⟨4, by omega, by omega, h⟩
      · exact ⟨5, by omega, by omega, h⟩
      · exact ⟨6, by omega, by omega, h⟩
    · simp at h
theorem mem_raw_none (l : Ln) : (⟨0, 0, 0, 0⟩ : Ln) ∈ rawT l := by simp [rawT]
theorem mem_raw_by (l : Ln) (n : Int) (h : n = -1 ∨ n = 1) : byL l n ∈ rawT l := by rcases h with rfl | rfl <;> simp [rawT]
theorem mem_raw_field {l : Ln} {k : Nat} (hk : k ∈ fldL l.op) {n : Int} (n0 : 0 ≤ n) (n3 : n ≤ 3) : setF l k n ∈ rawT l := by
  unfold rawT
  refine List.mem_append.2 (.inl (List.mem_append.2 (.inl (List.mem_append.2 (.inr (List.mem_flatMap.2 ⟨k, hk, ?_⟩))))))
  have : n = 0 ∨ n = 1 ∨ n = 2 ∨ n = 3 := by omega
  rcases this with rfl | rfl | rfl | rfl <;> simp
theorem mem_raw_swap {l : Ln} (h : 3 ≤ l.op) : (⟨l.op, l.d, l.b, l.a⟩ : Ln) ∈ rawT l := by
  unfold rawT
  exact List.mem_append.2 (.inl (List.mem_append.2 (.inr (by rw [if_pos h]; simp))))
theorem mem_raw_op {l : Ln} (h : 3 ≤ l.op) (h6 : l.op ≤ 6) {o : Int} (o3 : 3 ≤ o) (o6 : o ≤ 6) : (⟨o, l.d, l.a, l.b⟩ : Ln) ∈ rawT l := by
  unfold rawT
  refine List.mem_append.2 (.inr ?_)
  rw [if_pos ⟨h, h6⟩]
  have : o = 3 ∨ o = 4 ∨ o = 5 ∨ o = 6 := by omega
  rcases this with rfl | rfl | rfl | rfl <;> simp
theorem fldL_cases (op : Int) : (op = 1 ∧ fldL op = [0]) ∨ (op = 2 ∧ fldL op = [0, 1]) ∨ (op = 7 ∧ fldL op = [1, 2]) ∨ (op = 0 ∧ fldL op = []) ∨ (op ≠ 1 ∧ op ≠ 2 ∧ op ≠ 7 ∧ op ≠ 0 ∧ fldL op = [0, 1, 2]) := by
  unfold fldL
  by_cases h1 : op = 1
  · simp [h1]
  · by_cases h2 : op = 2
    · simp [h2]
    · by_cases h7 : op = 7
      · simp [h7]
      · by_cases h0 : op = 0
        · simp [h0]
        · simp [h1, h2, h7, h0]
theorem ln_eq {l m : Ln} (h1 : m.op = l.op) (h2 : m.d = l.d) (h3 : m.a = l.a) (h4 : m.b = l.b) : m = l := by
  obtain ⟨op, d, a, b⟩ := l
  obtain ⟨op', d', a', b'⟩ := m
  simp only [Ln.mk.injEq]; exact ⟨h1, h2, h3, h4⟩
theorem raw_iff {l m : Ln} (hl : l.ok = true) (hm : m.ok = true) (h0 : l.op ≠ 0) : m ∈ rawT l ↔ tmpP l m := by
  have cl := ok_cases hl
  have cm := ok_cases hm
  constructor
  · intro h
    rcases raw_cases h with h | h | h | ⟨k, hk, n, h⟩ | ⟨h3, h⟩ | ⟨h3, h6, o, o3, o6, h⟩
    · exact .inl h
    · refine .inr (.inl ?_)
      by_cases h1 : l.op = 1
      · have e : byL l (-1) = ⟨l.op, l.d, l.a + (-1), l.b⟩ := by unfold byL; rw [if_pos h1]
        rw [e] at h
        have e1 : m.op = l.op := by rw [h]
        have e2 : m.d = l.d := by rw [h]
        have e3 : m.a = l.a + (-1) := by rw [h]
        have e4 : m.b = l.b := by rw [h]
        clear h e; omega
      · by_cases h7 : l.op = 7
        · have e : byL l (-1) = ⟨l.op, l.d + (-1), l.a, l.b⟩ := by unfold byL; rw [if_neg h1, if_pos h7]
          rw [e] at h
          have e1 : m.op = l.op := by rw [h]
          have e2 : m.d = l.d + (-1) := by rw [h]
          have e3 : m.a = l.a := by rw [h]
          have e4 : m.b = l.b := by rw [h]
          clear h e; omega
        · have e : byL l (-1) = l := by unfold byL; rw [if_neg h1, if_neg h7]
          rw [e] at h
          have e1 : m.op = l.op := by rw [h]
          have e2 : m.d = l.d := by rw [h]
          have e3 : m.a = l.a := by rw [h]
          have e4 : m.b = l.b := by rw [h]
          clear h e; omega
    · refine .inr (.inl ?_)
      by_cases h1 : l.op = 1
      · have e : byL l (1) = ⟨l.op, l.d, l.a + (1), l.b⟩ := by unfold byL; rw [if_pos h1]
        rw [e] at h
        have e1 : m.op = l.op := by rw [h]
        have e2 : m.d = l.d := by rw [h]
        have e3 : m.a = l.a + (1) := by rw [h]
        have e4 : m.b = l.b := by rw [h]
        clear h e; omega
      · by_cases h7 : l.op = 7
        · have e : byL l (1) = ⟨l.op, l.d + (1), l.a, l.b⟩ := by unfold byL; rw [if_neg h1, if_pos h7]
          rw [e] at h
          have e1 : m.op = l.op := by rw [h]
          have e2 : m.d = l.d + (1) := by rw [h]
          have e3 : m.a = l.a := by rw [h]
          have e4 : m.b = l.b := by rw [h]
          clear h e; omega
        · have e : byL l (1) = l := by unfold byL; rw [if_neg h1, if_neg h7]
          rw [e] at h
          have e1 : m.op = l.op := by rw [h]
          have e2 : m.d = l.d := by rw [h]
          have e3 : m.a = l.a := by rw [h]
          have e4 : m.b = l.b := by rw [h]
          clear h e; omega
    · refine .inr (.inl ?_)
      rcases fldL_cases l.op with ⟨e, ef⟩ | ⟨e, ef⟩ | ⟨e, ef⟩ | ⟨e, ef⟩ | ⟨n1, n2, n3, n4, ef⟩ <;> rw [ef] at hk <;> simp at hk
      · subst hk
        have e1 : m.op = l.op := by rw [h]; rfl
        have e2 : m.d = n := by rw [h]; rfl
        have e3 : m.a = l.a := by rw [h]; rfl
        have e4 : m.b = l.b := by rw [h]; rfl
        clear h ef; omega
      · rcases hk with rfl | rfl
        · have e1 : m.op = l.op := by rw [h]; rfl
          have e2 : m.d = n := by rw [h]; rfl
          have e3 : m.a = l.a := by rw [h]; rfl
          have e4 : m.b = l.b := by rw [h]; rfl
          clear h ef; omega
        · have e1 : m.op = l.op := by rw [h]; rfl
          have e2 : m.d = l.d := by rw [h]; rfl
          have e3 : m.a = n := by rw [h]; rfl
          have e4 : m.b = l.b := by rw [h]; rfl
          clear h ef; omega
      · rcases hk with rfl | rfl
        · have e1 : m.op = l.op := by rw [h]; rfl
          have e2 : m.d = l.d := by rw [h]; rfl
          have e3 : m.a = n := by rw [h]; rfl
          have e4 : m.b = l.b := by rw [h]; rfl
          clear h ef; omega
        · have e1 : m.op = l.op := by rw [h]; rfl
          have e2 : m.d = l.d := by rw [h]; rfl
          have e3 : m.a = l.a := by rw [h]; rfl
          have e4 : m.b = n := by rw [h]; rfl
          clear h ef; omega
      · rcases hk with rfl | rfl | rfl
        · have e1 : m.op = l.op := by rw [h]; rfl
          have e2 : m.d = n := by rw [h]; rfl
          have e3 : m.a = l.a := by rw [h]; rfl
          have e4 : m.b = l.b := by rw [h]; rfl
          clear h ef; omega
        · have e1 : m.op = l.op := by rw [h]; rfl
          have e2 : m.d = l.d := by rw [h]; rfl
          have e3 : m.a = n := by rw [h]; rfl
          have e4 : m.b = l.b := by rw [h]; rfl
          clear h ef; omega
        · have e1 : m.op = l.op := by rw [h]; rfl
          have e2 : m.d = l.d := by rw [h]; rfl
          have e3 : m.a = l.a := by rw [h]; rfl
          have e4 : m.b = n := by rw [h]; rfl
          clear h ef; omega
    · refine .inr (.inl ?_)
      have e1 : m.op = l.op := by rw [h]
      have e2 : m.d = l.d := by rw [h]
      have e3 : m.a = l.b := by rw [h]
      have e4 : m.b = l.a := by rw [h]
      clear h; omega
    · refine .inr (.inr ?_)
      have e1 : m.op = o := by rw [h]
      have e2 : m.d = l.d := by rw [h]
      have e3 : m.a = l.a := by rw [h]
      have e4 : m.b = l.b := by rw [h]
      clear h; omega
  · rintro (h | ⟨he, h⟩ | ⟨a3, a6, b3, b6, e1, e2, e3⟩)
    · rw [h]; exact mem_raw_none l
    · have fld : ∀ (k : Nat) (n : Int), k ∈ fldL l.op → 0 ≤ n → n ≤ 3 → m = setF l k n → m ∈ rawT l := fun k n hk n0 n3 e => e ▸ mem_raw_field hk n0 n3
      have by1 : ∀ n : Int, (n = -1 ∨ n = 1) → m = byL l n → m ∈ rawT l := fun n hn e => e ▸ mem_raw_by l n hn
      rcases h with ⟨e, (⟨h1, h2⟩ | h1), hb⟩ | ⟨e, h1, hb⟩ | ⟨e, h1⟩ | ⟨e3, e6, h1⟩
      · have hby : ∀ n, byL l n = { l with a := l.a + n } := fun n => by unfold byL; rw [if_pos e]
        rcases h2 with h2 | h2
        · exact by1 (-1) (.inl rfl) (by rw [hby]; exact ln_eq he h1 (by dsimp only; omega) hb)
        · exact by1 1 (.inr rfl) (by rw [hby]; exact ln_eq he h1 (by dsimp only; omega) hb)
      · exact fld 0 m.d (by rw [e]; decide) (by omega) (by omega) (ln_eq he rfl h1 hb)
      · rcases h1 with h1 | h1
        · exact fld 0 m.d (by rw [e]; decide) (by omega) (by omega) (ln_eq he rfl h1 hb)
        · exact fld 1 m.a (by rw [e]; decide) (by omega) (by omega) (ln_eq he h1 rfl hb)
      · have hby : ∀ n, byL l n = { l with d := l.d + n } := fun n => by unfold byL; rw [if_neg (by omega), if_pos e]
        rcases h1 with ⟨h1, h2, (h3 | h3)⟩ | ⟨h1, (h2 | h2 | ⟨h2, h3⟩)⟩
        · exact by1 (-1) (.inl rfl) (by rw [hby]; exact ln_eq he (by dsimp only; omega) h1 h2)
        · exact by1 1 (.inr rfl) (by rw [hby]; exact ln_eq he (by dsimp only; omega) h1 h2)
        · exact fld 1 m.a (by rw [e]; decide) (by omega) (by omega) (ln_eq he h1 rfl h2)
        · exact fld 2 m.b (by rw [e]; decide) (by omega) (by omega) (ln_eq he h1 h2 rfl)
        · have := mem_raw_swap (l := l) (by omega)
          rwa [show m = ⟨l.op, l.d, l.b, l.a⟩ from ln_eq he h1 h2 h3]
      · have hf : fldL l.op = [0, 1, 2] := by
          rcases fldL_cases l.op with ⟨e, ef⟩ | ⟨e, ef⟩ | ⟨e, ef⟩ | ⟨e, ef⟩ | ⟨e1, e2, e3, e4, ef⟩
          · omega
          · omega
          · omega
          · omega
          · exact ef
        rcases h1 with ⟨h1, h2⟩ | ⟨h1, h2⟩ | ⟨h1, h2⟩ | ⟨h1, h2, h3⟩
        · exact fld 0 m.d (by rw [hf]; decide) (by omega) (by omega) (ln_eq he rfl h1 h2)
        · exact fld 1 m.a (by rw [hf]; decide) (by omega) (by omega) (ln_eq he h1 rfl h2)
        · exact fld 2 m.b (by rw [hf]; decide) (by omega) (by omega) (ln_eq he h1 h2 rfl)
        · have := mem_raw_swap (l := l) (by omega)
          rwa [show m = ⟨l.op, l.d, l.b, l.a⟩ from ln_eq he h1 h2 h3]
    · have := mem_raw_op (l := l) a3 a6 b3 b6
      rwa [show m = ⟨m.op, l.d, l.a, l.b⟩ from ln_eq rfl e1 e2 e3]
theorem near_eq {l m : Ln} (hl : l.ok = true) (hm : m.ok = true) : nearB l m = decide (l.op ≠ 0 ∧ m ≠ l ∧ tmpP l m) := by
  unfold nearB
  rw [hl, hm, Bool.true_and, Bool.true_and]
  by_cases h : m ∈ tmpl l
  · rw [List.contains_iff_mem.2 h]
    obtain ⟨h1, h2, h3, _⟩ := mem_tmpl.1 h
    rw [decide_eq_true ⟨h1, h3, (raw_iff hl hm h1).1 h2⟩]
  · have hc : (tmpl l).contains m = false := by
      cases e : (tmpl l).contains m with
      | false => rfl
      | true => exact absurd (List.contains_iff_mem.1 e) h
    rw [hc, decide_eq_false]
    rintro ⟨h1, h2, h3⟩
    exact h (mem_tmpl.2 ⟨h1, (raw_iff hl hm h1).2 h3, h2, hm⟩)
theorem tmp_symm {l m : Ln} (h1 : m.op ≠ 0) (h : tmpP l m) : tmpP m l := by
  rcases h with h | ⟨he, h⟩ | h
  · exact absurd (by rw [h]) h1
  · refine .inr (.inl ⟨he.symm, ?_⟩)
    rcases h with ⟨e, h, hb⟩ | ⟨e, h, hb⟩ | ⟨e, h⟩ | ⟨e3, e6, h⟩
    · exact .inl ⟨by omega, by omega, by omega⟩
    · exact .inr (.inl ⟨by omega, by omega, by omega⟩)
    · refine .inr (.inr (.inl ⟨by omega, ?_⟩)); omega
    · refine .inr (.inr (.inr ⟨by omega, by omega, ?_⟩)); omega
  · exact .inr (.inr (by omega))
theorem near_symm {l m : Ln} (hl : l.ok = true) (hm : m.ok = true) (h0 : l.op ≠ 0) (h1 : m.op ≠ 0) : nearB l m = nearB m l := by
  rw [near_eq hl hm, near_eq hm hl, decide_eq_decide]
  exact ⟨fun ⟨_, k2, k3⟩ => ⟨h1, fun e => k2 e.symm, tmp_symm h1 k3⟩, fun ⟨_, k2, k3⟩ => ⟨h0, fun e => k2 e.symm, tmp_symm h0 k3⟩⟩
theorem near_irrefl (l : Ln) : nearB l l = false := by
  unfold nearB
  cases h : (tmpl l).contains l with
  | false => simp
  | true => exact absurd rfl (mem_tmpl.1 (List.contains_iff_mem.1 h)).2.2.1
theorem near_none {l : Ln} (m : Ln) (h0 : l.op = 0) : nearB l m = false := by
  unfold nearB tmpl
  rw [if_pos h0]; simp
end Go.Proofs.YtbccbokjecdaaaaGreat

namespace Go.Proofs.YtbccbokjecdaaaaGreat
open Go.RowKit

/-- One cell of a list's own block is stored anew. -/
theorem ownsRow_set {w : World} {base : Nat} {e : TypeId} {size g cap n : Nat} {xs : List Value} (h : w.ownsRow base e size (.slice (some ⟨g, 0, none⟩) n cap) n xs) (i : Nat) (u : Value) :
    (w.setCell ⟨g, i, none⟩ u).ownsRow base e size (.slice (some ⟨g, 0, none⟩) n cap) n (xs.set i u) := by
  obtain ⟨h1, h2⟩ := h
  refine ⟨by rw [List.length_set]; exact h1, ?_⟩
  rcases h2 with ⟨h2, _⟩ | ⟨g', cap', cur, hv, hg, hh, a1, a2, a3, a4⟩
  · cases h2
  · cases hv
    refine .inr ⟨g, cap, cur.setIfInBounds i u, rfl, hg, heap_setCell_same w g i cur e u hh, a1, a2, by simpa using a3, ?_⟩
    rw [Array.toList_setIfInBounds, List.take_set, a4]
theorem ownsRow_free {w : World} {base : Nat} {e : TypeId} {size g cap n : Nat} {xs : List Value} (h : w.ownsRow base e size (.slice (some ⟨g, 0, none⟩) n cap) n xs) (i : Nat) : w.frozen? ⟨g, i, none⟩ = false := by
  rcases h.2 with ⟨h2, _⟩ | ⟨g', cap', cur, hv, hg, hh, _⟩
  · cases h2
  · cases hv; simp [World.frozen?, hh]

theorem flat_set : ∀ (p : List Ln) (k : Nat) (l : Ln), k < p.length →
    ((((p.flatMap encL).set (k * 4) (.int .i64 l.op)).set (k * 4 + 1) (.int .i64 l.d)).set (k * 4 + 2) (.int .i64 l.a)).set (k * 4 + 3) (.int .i64 l.b) = (p.set k l).flatMap encL
  | [], k, l, h => by simp at h
  | x :: xs, 0, l, _ => by simp [List.flatMap_cons, encL]
  | x :: xs, k + 1, l, h => by
    have ih := flat_set xs k l (by simpa using h)
    rw [List.set_cons_succ, List.flatMap_cons, List.flatMap_cons, ← ih]
    have hl : (encL x).length = 4 := rfl
    rw [List.set_append_right _ _ (by rw [hl]; omega), List.set_append_right _ _ (by rw [hl]; omega), List.set_append_right _ _ (by rw [hl]; omega), List.set_append_right _ _ (by rw [hl]; omega)]
    rw [hl]
    have e0 : (k + 1) * 4 - 4 = k * 4 := by omega
    have e1 : (k + 1) * 4 + 1 - 4 = k * 4 + 1 := by omega
    have e2 : (k + 1) * 4 + 2 - 4 = k * 4 + 2 := by omega
    have e3 : (k + 1) * 4 + 3 - 4 = k * 4 + 3 := by omega
    rw [e0, e1, e2, e3]

/-- The four stores of a line. -/
def storeL (w : World) (g i : Nat) (l : Ln) : World := (((w.setCell ⟨g, i, none⟩ (.int .i64 l.op)).setCell ⟨g, i + 1, none⟩ (.int .i64 l.d)).setCell ⟨g, i + 2, none⟩ (.int .i64 l.a)).setCell ⟨g, i + 3, none⟩ (.int .i64 l.b)
theorem owns_storeL {w : World} {base : Nat} {e : TypeId} {g cap : Nat} {p : List Ln} (h : w.ownsRow base e 4 (.slice (some ⟨g, 0, none⟩) p.length cap) p.length (p.flatMap encL)) (k : Nat) (hk : k < p.length) (l : Ln) :
    (storeL w g (k * 4) l).ownsRow base e 4 (.slice (some ⟨g, 0, none⟩) (p.set k l).length cap) (p.set k l).length ((p.set k l).flatMap encL) := by
  rw [List.length_set, ← flat_set p k l hk]
  exact ownsRow_set (ownsRow_set (ownsRow_set (ownsRow_set h _ _) _ _) _ _) _ _
theorem below_storeL {a w : World} {B g i : Nat} (l : Ln) (h : Below B a w) (hg : B ≤ g) : Below B a (storeL w g i l) :=
  Below.setCell (Below.setCell (Below.setCell (Below.setCell h hg _) hg _) hg _) hg _
theorem size_storeL (w : World) (g i : Nat) (l : Ln) : (storeL w g i l).heap.size = w.heap.size := by simp [storeL, World.size_setCell]
theorem heap_storeL (w : World) (g i k : Nat) (l : Ln) (h : k ≠ g) : (storeL w g i l).heap[k]? = w.heap[k]? := by
  unfold storeL
  rw [Below.heap_setCell _ _ _ _ (by simpa using h), Below.heap_setCell _ _ _ _ (by simpa using h), Below.heap_setCell _ _ _ _ (by simpa using h), Below.heap_setCell _ _ _ _ (by simpa using h)]
end Go.Proofs.YtbccbokjecdaaaaGreat

namespace Go.Proofs.YtbccbokjecdaaaaGreat
open Go.RowKit

theorem slc_n {α : Type} {k : Nat} {enc : α → List Value} {w : World} {a : Option Addr} {n c : Nat} {xs : List α} (h : SlcAt k enc w (.slice a n c) xs) : n = xs.length ∧ xs.length ≤ 9223372036854775807 := by
  obtain ⟨_, _, e, h1, h2, _⟩ := h
  cases e
  exact ⟨rfl, by omega⟩
theorem ints_at {w : World} {a : Option Addr} {n c : Nat} {xs : List Int} (h : IntsAt w (.slice a n c) xs) {k : Nat} {x : Int} (hx : xs[k]? = some x) : ∃ b o, a = some ⟨b, o, none⟩ ∧ b < w.heap.size ∧ w.cell? ⟨b, o + k, none⟩ = some (.int .i64 x) := by
  obtain ⟨_, _, e, _, _, h⟩ := h
  cases e
  obtain ⟨b, o, rfl, hb, hc⟩ := h.resolve_left (by intro h0; rw [h0.1] at hx; simp at hx)
  exact ⟨b, o, rfl, hb, ints_cell hc k x hx⟩
theorem lines_at {w : World} {a : Option Addr} {n c : Nat} {xs : List Ln} (h : LinesAt w (.slice a n c) xs) {k : Nat} {op d x y : Int} (hx : xs[k]? = some ⟨op, d, x, y⟩) : ∃ b o, a = some ⟨b, o, none⟩ ∧ b < w.heap.size ∧
    w.cell? ⟨b, o + k * 4, none⟩ = some (.int .i64 op) ∧ w.cell? ⟨b, o + k * 4 + 1, none⟩ = some (.int .i64 d) ∧ w.cell? ⟨b, o + k * 4 + 2, none⟩ = some (.int .i64 x) ∧ w.cell? ⟨b, o + k * 4 + 3, none⟩ = some (.int .i64 y) := by
  obtain ⟨_, _, e, _, _, h⟩ := h
  cases e
  obtain ⟨b, o, rfl, hb, hc⟩ := h.resolve_left (by intro h0; rw [h0.1] at hx; simp at hx)
  exact ⟨b, o, rfl, hb, lines_cell hc k op d x y hx⟩
theorem st_at {w : World} {a : Option Addr} {n c : Nat} {q : St} (h : IntsAt w (.slice a n c) q.toL) {r : Nat} (hr : r < 4) : ∃ b o, a = some ⟨b, o, none⟩ ∧ b < w.heap.size ∧ w.cell? ⟨b, o + r, none⟩ = some (.int .i64 (q.get r)) := by
  refine ints_at h (k := r) ?_
  have : r = 0 ∨ r = 1 ∨ r = 2 ∨ r = 3 := by omega
  rcases this with rfl | rfl | rfl | rfl <;> rfl
/-- A block of two cells. -/
theorem box2 {w : World} {b : Nat} {c0 c1 : Value} {e : TypeId} (h : w.heap[b]? = some (.cells #[c0, c1] e (0, 0))) : w.cell? ⟨b, 0, none⟩ = some c0 ∧ w.cell? ⟨b, 1, none⟩ = some c1 := by
  constructor <;> (unfold World.cell?; simp only [h]; rfl)
end Go.Proofs.YtbccbokjecdaaaaGreat

namespace Go.Proofs.YtbccbokjecdaaaaGreat
open Go.RowKit

/-- A test: the value of its list as it lies in memory, the list itself, the register and the number. -/
structure Tst where
  v : Value
  xs : List Int
  o : Int
  wt : Int
def encTs (t : Tst) : List Value := [t.v, .int .i64 t.o, .int .i64 t.wt]
theorem encTs_len (t : Tst) : (encTs t).length = 3 := rfl
/-- The slice value v holds the tests ts, and each list that they lead to. -/
structure TestsAt (w : World) (v : Value) (ts : List Tst) : Prop where
  at_ : SlcAt 3 encTs w v ts
  ins : ∀ t ∈ ts, IntsAt w t.v t.xs
theorem TestsAt.grow {w w' : World} {v : Value} {ts : List Tst} (h : TestsAt w v ts) (g : Grow w w') : TestsAt w' v ts := ⟨h.at_.grow g, fun t ht => (h.ins t ht).grow g⟩
theorem TestsAt.nil (w : World) : TestsAt w (.slice none 0 0) [] := ⟨SlcAt.nil _ _ _, by simp⟩
theorem tests_at {w : World} {a : Option Addr} {n c : Nat} {ts : List Tst} (h : SlcAt 3 encTs w (.slice a n c) ts) {k : Nat} {t : Tst} (hx : ts[k]? = some t) : ∃ b o, a = some ⟨b, o, none⟩ ∧ b < w.heap.size ∧
    w.cell? ⟨b, o + k * 3, none⟩ = some t.v ∧ w.cell? ⟨b, o + k * 3 + 1, none⟩ = some (.int .i64 t.o) ∧ w.cell? ⟨b, o + k * 3 + 2, none⟩ = some (.int .i64 t.wt) := by
  obtain ⟨_, _, e, _, _, h⟩ := h
  cases e
  obtain ⟨b, o, rfl, hb, hc⟩ := h.resolve_left (by intro h0; rw [h0.1] at hx; simp at hx)
  exact ⟨b, o, rfl, hb, hc k t hx 0 _ rfl, hc k t hx 1 _ rfl, hc k t hx 2 _ rfl⟩
def Tst.ok (t : Tst) : Bool := decide (valS t.xs = 0) && inB t.o 0 3 && inB t.wt (-999) 999
/-- The errors of tests. -/
def valT (ts : List Tst) : Int := if 8 < ts.length then 3 else errB (ts.all Tst.ok)
theorem valT_ok {ts : List Tst} : valT ts = 0 ↔ ts.length ≤ 8 ∧ ∀ t ∈ ts, t.ok = true := by
  unfold valT errB
  by_cases h : 8 < ts.length
  · simp only [h, if_true]
    exact ⟨fun h => (by cases h), fun h2 => (by omega)⟩
  · simp only [h, if_false]
    cases hp : ts.all Tst.ok
    · simp only [Bool.false_eq_true, if_false]
      constructor
      · intro h; cases h
      · rintro ⟨_, h2⟩; rw [List.all_eq_true.2 h2] at hp; cases hp
    · simp only [if_true, true_iff]
      exact ⟨by omega, List.all_eq_true.1 hp⟩
theorem Tst.ok_iff {t : Tst} : t.ok = true ↔ valS t.xs = 0 ∧ (0 ≤ t.o ∧ t.o ≤ 3) ∧ (-999 ≤ t.wt ∧ t.wt ≤ 999) := by
  unfold Tst.ok
  rw [Bool.and_eq_true, Bool.and_eq_true, decide_eq_true_eq, inB_true, inB_true, and_assoc]
/-- What a register is at the end. -/
def endM (p : List Ln) (xs : List Int) (o : Int) : Int := ((runM p xs)[o.toNat]?).getD 0
def passM (p : List Ln) (t : Tst) : Bool := decide (endM p t.xs t.o = t.wt)
/-- The errors of a program and tests. -/
def chkT (p : List Ln) (ts : List Tst) : Int := if valP p = 0 then valT ts else valP p
theorem chkT_ok {p : List Ln} {ts : List Tst} : chkT p ts = 0 ↔ valP p = 0 ∧ valT ts = 0 := by
  unfold chkT; by_cases h : valP p = 0 <;> simp [h]
/-- The places of what has a property. -/
def whereL {α : Type} (f : α → Bool) (ts : List α) : List Int := (List.range ts.length).filterMap fun k : Nat => match ts[k]? with | some t => if f t then some (k : Int) else none | none => none
def whereN {α : Type} (f : α → Bool) (ts : List α) (n : Nat) : List Int := (List.range n).filterMap fun k : Nat => match ts[k]? with | some t => if f t then some (k : Int) else none | none => none
theorem whereN_succ {α : Type} {f : α → Bool} {ts : List α} {k : Nat} {t : α} (h : ts[k]? = some t) : whereN f ts (k + 1) = whereN f ts k ++ if f t then [(k : Int)] else [] := by
  unfold whereN
  rw [List.range_succ, List.filterMap_append]
  simp only [List.filterMap_cons, List.filterMap_nil, h]
  cases f t <;> rfl
theorem whereN_all {α : Type} (f : α → Bool) (ts : List α) : whereN f ts ts.length = whereL f ts := rfl
theorem whereN_len {α : Type} (f : α → Bool) (ts : List α) (n : Nat) : (whereN f ts n).length ≤ n := by
  unfold whereN
  exact Nat.le_trans (List.length_filterMap_le _ _) (by simp)
theorem mem_whereL {α : Type} {f : α → Bool} {ts : List α} {i : Int} : i ∈ whereL f ts ↔ ∃ (k : Nat) (t : α), i = k ∧ ts[k]? = some t ∧ f t = true := by
  unfold whereL
  rw [List.mem_filterMap]
  constructor
  · rintro ⟨k, hk, h⟩
    have hlt : k < ts.length := List.mem_range.1 hk
    rw [List.getElem?_eq_getElem hlt] at h
    dsimp only at h
    split at h
    · next hf => exact ⟨k, _, (Option.some.inj h).symm, List.getElem?_eq_getElem hlt, hf⟩
    · cases h
  · rintro ⟨k, t, rfl, ht, hf⟩
    refine ⟨k, List.mem_range.2 (List.getElem?_eq_some_iff.1 ht).1, ?_⟩
    rw [ht]
    simp [hf]
theorem runM_length (p : List Ln) (s : List Int) : (runM p s).length = 4 := rfl
end Go.Proofs.YtbccbokjecdaaaaGreat

namespace Go.Proofs.YtbccbokjecdaaaaGreat
open Go.RowKit

/-- The number that the lists force upon a line: of the last place at which it stands among the first k. -/
def frcN (lines values : List Int) (i : Nat) : Nat → Option Int
  | 0 => none
  | k + 1 => if lines.getD k 0 = (i : Int) then some (values.getD k 0) else frcN lines values i k
def frc (lines values : List Int) (i : Nat) : Option Int := frcN lines values i lines.length
theorem frc_nil : frc [] [] = noF := rfl
def frcE (p : List Ln) (s lines values : List Int) : Int :=
  if chk p s = 0 then
    if ascB lines then
      if (lines.any fun i => !inB i 0 (p.length - 1)) then 4
      else if values.length = lines.length then
        if (values.any fun n => !inB n (-999) 999) then 1
        else if (lines.any fun i => !wrB (p.getD i.toNat default).op) then 6 else 0
      else 9
    else 1
  else chk p s
def frcM (p : List Ln) (s lines values : List Int) : List Int := ifOK (frcE p s lines values) (trc p (frc lines values) 0 (St.ofL s)).2.toL

theorem frcN_none {lines values : List Int} {i : Nat} (h : lines.contains (i : Int) = false) : ∀ k, k ≤ lines.length → frcN lines values i k = none
  | 0, _ => rfl
  | k + 1, hk => by
    have : lines.getD k 0 ≠ (i : Int) := by
      intro e
      rw [List.getD_eq_getElem?_getD, List.getElem?_eq_getElem (by omega)] at e
      simp at e
      rw [← e] at h
      simp at h
    rw [frcN, if_neg this]
    exact frcN_none h k (by omega)
theorem frcN_at {lines values : List Int} (ha : ascB lines = true) {i k : Nat} (hk : k < lines.length) (e : lines.getD k 0 = (i : Int)) : ∀ m, k < m → m ≤ lines.length → frcN lines values i m = some (values.getD k 0)
  | 0, h, _ => by omega
  | m + 1, h, hm => by
    by_cases hmk : m = k
    · subst hmk; rw [frcN, if_pos e]
    · have := asc_lt' ha (j := k) (k := m) (by omega) (by omega)
      rw [frcN, if_neg (by omega)]
      exact frcN_at ha hk e m (by omega) (by omega)
theorem countP_at {lines : List Int} (ha : ascB lines = true) {k : Nat} (hk : k < lines.length) {x : Int} (e : lines.getD k 0 = x) : lines.countP (fun y => decide (y < x)) = k := by
  have h1 : (lines.take k).countP (fun y => decide (y < x)) = k := by
    have : (lines.take k).countP (fun y => decide (y < x)) = (lines.take k).length := by
      rw [List.countP_eq_length]
      intro y hy
      obtain ⟨j, hj, rfl⟩ := List.mem_take_iff_getElem.1 hy
      have := asc_lt' ha (j := j) (k := k) (by omega) hk
      rw [e, List.getD_eq_getElem?_getD, List.getElem?_eq_getElem (by omega)] at this
      simpa using this
    rw [this, List.length_take]; omega
  have h2 : (lines.drop k).countP (fun y => decide (y < x)) = 0 := by
    rw [List.countP_eq_zero]
    intro y hy
    obtain ⟨j, hj⟩ := List.mem_iff_getElem?.1 hy
    rw [List.getElem?_drop] at hj
    have hlt := (List.getElem?_eq_some_iff.1 hj).1
    have hy2 : lines.getD (k + j) 0 = y := by rw [List.getD_eq_getElem?_getD, hj]; rfl
    by_cases hj0 : j = 0
    · subst hj0; rw [Nat.add_zero, e] at hy2; simp; omega
    · have := asc_lt' ha (j := k) (k := k + j) (by omega) hlt
      simp; omega
  have := List.take_append_drop k lines
  rw [← this, List.countP_append, h1, h2]; simp
/-- What a search finds. -/
theorem frc_search {lines values : List Int} (ha : ascB lines = true) (i : Nat) : frc lines values i = if lines.contains (i : Int) then some (values.getD (lines.countP fun y => decide (y < (i : Int))) 0) else none := by
  unfold frc
  cases h : lines.contains (i : Int) with
  | false => rw [if_neg (by simp), frcN_none h _ (Nat.le_refl _)]
  | true =>
    rw [if_pos rfl]
    have hm : (i : Int) ∈ lines := by simpa using h
    obtain ⟨k, hk⟩ := List.mem_iff_getElem?.1 hm
    have hlt := (List.getElem?_eq_some_iff.1 hk).1
    have e : lines.getD k 0 = (i : Int) := by rw [List.getD_eq_getElem?_getD, hk]; rfl
    rw [frcN_at ha hlt e _ hlt (Nat.le_refl _), countP_at ha hlt e]
theorem asc_pairwise {lines : List Int} (ha : ascB lines = true) : lines.Pairwise (· ≤ ·) := by
  rw [List.pairwise_iff_getElem]
  intro i j hi hj hij
  have := asc_lt' ha hij hj
  rw [List.getD_eq_getElem?_getD, List.getD_eq_getElem?_getD, List.getElem?_eq_getElem hi, List.getElem?_eq_getElem hj] at this
  simp only [Option.getD_some] at this; omega
theorem frcN_mem {lines values : List Int} {i : Nat} {n : Int} : ∀ k, k ≤ values.length → frcN lines values i k = some n → n ∈ values
  | 0, _, h => by simp [frcN] at h
  | k + 1, hk, h => by
    unfold frcN at h
    split at h
    · rw [List.getD_eq_getElem?_getD, List.getElem?_eq_getElem (by omega)] at h
      simp at h; subst h; exact List.getElem_mem _
    · exact frcN_mem k (by omega) h
end Go.Proofs.YtbccbokjecdaaaaGreat

namespace Go.Proofs.YtbccbokjecdaaaaGreat
open Go.RowKit

/-- An edit. -/
structure Ed where
  at_ : Int
  l : Ln
deriving DecidableEq
def encE (e : Ed) : List Value := .int .i64 e.at_ :: encL e.l
theorem encE_len (e : Ed) : (encE e).length = 5 := rfl
abbrev EditsAt (w : World) (v : Value) (x : List Ed) : Prop := SlcAt 5 encE w v x
theorem edits_at {w : World} {a : Option Addr} {n c : Nat} {x : List Ed} (h : EditsAt w (.slice a n c) x) {k : Nat} {t op d a' b' : Int} (hx : x[k]? = some ⟨t, ⟨op, d, a', b'⟩⟩) : ∃ b o, a = some ⟨b, o, none⟩ ∧ b < w.heap.size ∧
    w.cell? ⟨b, o + k * 5, none⟩ = some (.int .i64 t) ∧ w.cell? ⟨b, o + k * 5 + 1, none⟩ = some (.int .i64 op) ∧ w.cell? ⟨b, o + k * 5 + 2, none⟩ = some (.int .i64 d) ∧ w.cell? ⟨b, o + k * 5 + 3, none⟩ = some (.int .i64 a') ∧ w.cell? ⟨b, o + k * 5 + 4, none⟩ = some (.int .i64 b') := by
  obtain ⟨_, _, e, _, _, h⟩ := h
  cases e
  obtain ⟨b, o, rfl, hb, hc⟩ := h.resolve_left (by intro h0; rw [h0.1] at hx; simp at hx)
  exact ⟨b, o, rfl, hb, hc k _ hx 0 _ rfl, hc k _ hx 1 _ rfl, hc k _ hx 2 _ rfl, hc k _ hx 3 _ rfl, hc k _ hx 4 _ rfl⟩
def prevAt (x : List Ed) (i : Nat) : Int := if i = 0 then -1 else match x[i - 1]? with | some e => e.at_ | none => -1
def edOK (x : List Ed) (i : Nat) : Bool := match x[i]? with | some e => decide (0 ≤ e.at_) && decide (e.at_ < 8) && (decide (prevAt x i < e.at_) && e.l.ok) | none => true
def edsOK (x : List Ed) : Bool := (List.range x.length).all (edOK x)
/-- The errors of a patch. -/
def valX (x : List Ed) : Int := if 4 < x.length then 3 else errB (edsOK x)
theorem edOK_iff {x : List Ed} {i : Nat} {e : Ed} (h : x[i]? = some e) : edOK x i = true ↔ (0 ≤ e.at_ ∧ e.at_ < 8) ∧ prevAt x i < e.at_ ∧ e.l.ok = true := by
  unfold edOK; rw [h]; simp
theorem edsOK_at {x : List Ed} (h : edsOK x = true) {i : Nat} {e : Ed} (hx : x[i]? = some e) : (0 ≤ e.at_ ∧ e.at_ < 8) ∧ prevAt x i < e.at_ ∧ e.l.ok = true :=
  (edOK_iff hx).1 (List.all_eq_true.1 h i (List.mem_range.2 (List.getElem?_eq_some_iff.1 hx).1))
theorem edsOK_upto {x : List Ed} {k : Nat} (h : ∀ i < k, edOK x i = true) (hk : x.length ≤ k) : edsOK x = true := List.all_eq_true.2 fun i hi => h i (by have := List.mem_range.1 hi; omega)
theorem edsOK_bad {x : List Ed} {k : Nat} (hk : k < x.length) (h : edOK x k = false) : edsOK x = false := by
  rw [← Bool.not_eq_true]
  intro h2
  have := List.all_eq_true.1 h2 k (List.mem_range.2 hk)
  rw [h] at this; cases this
theorem valX_ok {x : List Ed} : valX x = 0 ↔ x.length ≤ 4 ∧ edsOK x = true := by
  unfold valX errB
  by_cases h : 4 < x.length
  · simp only [h, if_true]; exact ⟨fun h => (by cases h), fun h2 => (by omega)⟩
  · simp only [h, if_false]
    cases hp : edsOK x <;> simp; omega
/-- The places rise. -/
theorem eds_lt {x : List Ed} (h : edsOK x = true) : ∀ (j i : Nat) (e f : Ed), i < j → x[i]? = some e → x[j]? = some f → e.at_ < f.at_
  | 0, _, _, _, hij, _, _ => by omega
  | j + 1, i, e, f, hij, he, hf => by
    have hp := (edsOK_at h hf).2.1
    have hj : j < x.length := by have := (List.getElem?_eq_some_iff.1 hf).1; omega
    obtain ⟨g, hg⟩ : ∃ g, x[j]? = some g := ⟨_, List.getElem?_eq_getElem hj⟩
    have hpv : prevAt x (j + 1) = g.at_ := by
      unfold prevAt
      rw [if_neg (by omega), show j + 1 - 1 = j by omega, hg]
    rw [hpv] at hp
    by_cases hi : i = j
    · subst hi; rw [he] at hg; cases hg; exact hp
    · have := eds_lt h j i e g (by omega) he hg
      omega
def atB (j : Int) (e : Ed) : Bool := decide (e.at_ = j)
/-- The program after a patch. -/
def doM (p : List Ln) (x : List Ed) : List Ln := p.mapIdx fun j l => match x.find? (atB j) with | some e => e.l | none => l
theorem doM_length (p : List Ln) (x : List Ed) : (doM p x).length = p.length := by simp [doM]
theorem doM_get (p : List Ln) (x : List Ed) (j : Nat) : (doM p x)[j]? = (p[j]?).map fun l => match x.find? (atB j) with | some e => e.l | none => l := by
  unfold doM; rw [List.getElem?_mapIdx]
theorem doM_ok {p : List Ln} {x : List Ed} (hp : valP p = 0) (hx : ∀ e ∈ x, e.l.ok = true) : valP (doM p x) = 0 := by
  obtain ⟨h1, h2⟩ := valP_ok.1 hp
  refine valP_ok.2 ⟨by rw [doM_length]; exact h1, fun l hl => ?_⟩
  obtain ⟨j, hj⟩ := List.getElem?_of_mem hl
  rw [doM_get] at hj
  cases hpj : p[j]? with
  | none => rw [hpj] at hj; cases hj
  | some m =>
    rw [hpj] at hj
    simp only [Option.map_some, Option.some.injEq] at hj
    cases hf : x.find? (atB j) with
    | none => rw [hf] at hj; dsimp only at hj; rw [← hj]; exact h2 _ (List.mem_of_getElem? hpj)
    | some e => rw [hf] at hj; dsimp only at hj; rw [← hj]; exact hx _ (List.mem_of_find?_eq_some hf)
theorem find_snoc_other {ys : List Ed} {e : Ed} {j : Int} (h : e.at_ ≠ j) : (ys ++ [e]).find? (atB j) = ys.find? (atB j) := by
  rw [List.find?_append]
  have : [e].find? (atB j) = none := by simp [atB, h]
  rw [this]; cases ys.find? (atB j) <;> rfl
theorem find_take_none {x : List Ed} (h : edsOK x = true) {k : Nat} {e : Ed} (hx : x[k]? = some e) : (x.take k).find? (atB e.at_) = none := by
  rw [List.find?_eq_none]
  intro f hf
  obtain ⟨i, hi⟩ := List.getElem?_of_mem hf
  rw [List.getElem?_take] at hi
  split at hi
  · next hik => have := eds_lt h k i f e hik hi hx; simp [atB]; omega
  · cases hi
theorem find_snoc_same {ys : List Ed} {e : Ed} (h : ys.find? (atB e.at_) = none) : (ys ++ [e]).find? (atB e.at_) = some e := by
  rw [List.find?_append, h]
  simp [atB]
/-- The lines put one after the other. -/
def setAll (p : List Ln) (x : List Ed) : List Ln := x.foldl (fun q e => q.set e.at_.toNat e.l) p
theorem setAll_snoc (p : List Ln) (x : List Ed) (e : Ed) : setAll p (x ++ [e]) = (setAll p x).set e.at_.toNat e.l := by unfold setAll; rw [List.foldl_append]; rfl
theorem setAll_length (p : List Ln) (x : List Ed) : (setAll p x).length = p.length := by
  unfold setAll
  induction x generalizing p with
  | nil => rfl
  | cons e r ih => rw [List.foldl_cons, ih, List.length_set]
theorem setAll_take {p : List Ln} {x : List Ed} (h : edsOK x = true) : ∀ k, k ≤ x.length → setAll p (x.take k) = doM p (x.take k)
  | 0, _ => by
    refine List.ext_getElem? fun j => ?_
    rw [doM_get, List.take_zero]
    cases hj : p[j]? with
    | none => exact hj
    | some l => exact hj
  | k + 1, hk => by
    obtain ⟨e, he⟩ : ∃ e, x[k]? = some e := ⟨_, List.getElem?_eq_getElem (by omega)⟩
    have ih := setAll_take h k (by omega) (p := p)
    have ht : x.take (k + 1) = x.take k ++ [e] := by rw [List.take_add_one, he]; rfl
    obtain ⟨⟨e0, _⟩, _⟩ := edsOK_at h he
    rw [ht, setAll_snoc, ih]
    refine List.ext_getElem? fun j => ?_
    rw [doM_get]
    by_cases hj : e.at_ = (j : Int)
    · have hn : e.at_.toNat = j := by omega
      rw [hn, ← hj, find_snoc_same (find_take_none h he)]
      by_cases hl : j < p.length
      · rw [List.getElem?_set_self (by rw [doM_length]; exact hl), List.getElem?_eq_getElem hl]; rfl
      · rw [List.getElem?_eq_none (by rw [List.length_set, doM_length]; omega), List.getElem?_eq_none (by omega)]; rfl
    · rw [List.getElem?_set_ne (by omega), find_snoc_other hj, doM_get]
theorem setAll_eq {p : List Ln} {x : List Ed} (h : edsOK x = true) : setAll p x = doM p x := by
  have := setAll_take (p := p) h x.length (Nat.le_refl _)
  rwa [List.take_length] at this
/-- Some place is no line of the program. -/
def offB (n : Nat) (x : List Ed) : Bool := x.any fun e => decide ((n : Int) ≤ e.at_)
/-- The errors of a program, a patch and tests. -/
def chkX (p : List Ln) (x : List Ed) (ts : List Tst) : Int := if valP p = 0 then (if valX x = 0 then (if valT ts = 0 then (if offB p.length x then 4 else 0) else valT ts) else valX x) else valP p
theorem chkX_ok {p : List Ln} {x : List Ed} {ts : List Tst} : chkX p x ts = 0 ↔ valP p = 0 ∧ valX x = 0 ∧ valT ts = 0 ∧ offB p.length x = false := by
  unfold chkX
  by_cases h1 : valP p = 0
  · by_cases h2 : valX x = 0
    · by_cases h3 : valT ts = 0
      · cases h4 : offB p.length x <;> simp [h1, h2, h3]
      · simp [h1, h2, h3]
    · simp [h1, h2]
  · simp [h1]
def goodM (p : List Ln) (x : List Ed) (ts : List Tst) : Bool := ts.all fun t => passM (doM p x) t
theorem whereL_nil {α : Type} {f : α → Bool} {ts : List α} : (whereL (fun t => !f t) ts).length = 0 ↔ ts.all f = true := by
  rw [List.length_eq_zero_iff, List.all_eq_true]
  constructor
  · intro h t ht
    obtain ⟨k, hk⟩ := List.getElem?_of_mem ht
    cases hf : f t with
    | true => rfl
    | false =>
      have : (k : Int) ∈ whereL (fun t => !f t) ts := mem_whereL.2 ⟨k, t, rfl, hk, by simp [hf]⟩
      rw [h] at this; cases this
  · intro h
    refine List.eq_nil_iff_forall_not_mem.2 fun i hi => ?_
    obtain ⟨k, t, _, hk, hf⟩ := mem_whereL.1 hi
    rw [h t (List.mem_of_getElem? hk)] at hf
    cases hf
end Go.Proofs.YtbccbokjecdaaaaGreat
