/- The plain law of SeekNears: templates go both ways. No program is named. -/
import Derived.Test.YtfbfkkaepgcggaaGreatQ01
namespace Go.Proofs.YtfbfkkaepgcggaaGreat
open Go.RowKit

theorem ok_none {l : Ln} (h : l.ok = true) (h0 : l.op = 0) : l = ⟨0, 0, 0, 0⟩ := by
  obtain ⟨op, d, a, b⟩ := l
  dsimp only at h0
  subst h0
  unfold Ln.ok vL at h
  simp at h
  obtain ⟨⟨rfl, rfl⟩, rfl⟩ := h
  rfl
theorem ok_cases {l : Ln} (h : l.ok = true) : (l.op = 0 ∧ l.d = 0 ∧ l.a = 0 ∧ l.b = 0) ∨ (l.op = 1 ∧ 0 ≤ l.d ∧ l.d ≤ 3 ∧ -9 ≤ l.a ∧ l.a ≤ 9 ∧ l.b = 0) ∨ (l.op = 2 ∧ 0 ≤ l.d ∧ l.d ≤ 3 ∧ 0 ≤ l.a ∧ l.a ≤ 3 ∧ l.b = 0) ∨
    (3 ≤ l.op ∧ l.op ≤ 6 ∧ 0 ≤ l.d ∧ l.d ≤ 3 ∧ 0 ≤ l.a ∧ l.a ≤ 3 ∧ 0 ≤ l.b ∧ l.b ≤ 3) ∨ (l.op = 7 ∧ 1 ≤ l.d ∧ l.d ≤ 8 ∧ 0 ≤ l.a ∧ l.a ≤ 3 ∧ 0 ≤ l.b ∧ l.b ≤ 3) := by
  obtain ⟨op, d, a, b⟩ := l
  unfold Ln.ok vL at h
  simp only [inB_def] at h
  dsimp only
  split at h
  · simp at h; omega
  · split at h
    · simp at h; omega
    · split at h
      · simp at h; omega
      · split at h
        · simp at h; omega
        · split at h
          · simp at h; omega
          · cases h
theorem raw_cases {l m : Ln} (h : m ∈ rawT l) : m = ⟨0, 0, 0, 0⟩ ∨ m = byL l (-1) ∨ m = byL l 1 ∨ (∃ k ∈ fldL l.op, ∃ n, m = setF l k n) ∨ (3 ≤ l.op ∧ m = ⟨l.op, l.d, l.b, l.a⟩) ∨ (3 ≤ l.op ∧ l.op ≤ 6 ∧ ∃ o, 3 ≤ o ∧ o ≤ 6 ∧ m = ⟨o, l.d, l.a, l.b⟩) := by
  unfold rawT at h
  rcases List.mem_append.1 h with h | h
  · rcases List.mem_append.1 h with h | h
    · rcases List.mem_append.1 h with h | h
      · simp only [List.mem_cons, List.not_mem_nil, or_false] at h
        rcases h with h | h | h
        · exact .inl h
        · exact .inr (.inl h)
        · exact .inr (.inr (.inl h))
      · obtain ⟨k, hk, h⟩ := List.mem_flatMap.1 h
        simp only [List.mem_cons, List.not_mem_nil, or_false] at h
        rcases h with h | h | h | h <;> exact .inr (.inr (.inr (.inl ⟨k, hk, _, h⟩)))
    · split at h
      · next hc =>
        simp only [List.mem_cons, List.not_mem_nil, or_false] at h
        exact .inr (.inr (.inr (.inr (.inl ⟨hc, h⟩))))
      · simp at h
  · split at h
    · next hc =>
      simp only [List.mem_cons, List.not_mem_nil, or_false] at h
      refine .inr (.inr (.inr (.inr (.inr ⟨hc.1, hc.2, ?_⟩))))
      rcases h with h | h | h | h
      · exact ⟨3, by omega, by omega, h⟩
      · exact ⟨4, by omega, by omega, h⟩
      · exact ⟨5, by omega, by omega, h⟩
      · exact ⟨6, by omega, by omega, h⟩
    · simp at h
theorem mem_raw_none (l : Ln) : (⟨0, 0, 0, 0⟩ : Ln) ∈ rawT l := by simp [rawT]
theorem mem_raw_by (l : Ln) (n : Int) (h : n = -1 ∨ n = 1) : byL l n ∈ rawT l := by rcases h with rfl | rfl <;> simp [rawT]
theorem mem_raw_field {l : Ln} {k : Nat} (hk : k ∈ fldL l.op) {n : Int} (n0 : 0 ≤ n) (n3 : n ≤ 3) : setF l k n ∈ rawT l := by
  unfold rawT
  refine List.mem_append.2 (.inl (List.mem_append.2 (.inl (List.mem_append.2 (.inr (List.mem_flatMap.2 ⟨k, hk, ?_⟩))))))
  have : n = 0 ∨ n = 1 ∨ n = 2 ∨ n = 3 := by omega
  rcases this with rfl | rfl | rfl | rfl <;> simp
theorem mem_raw_swap {l : Ln} (h : 3 ≤ l.op) : (⟨l.op, l.d, l.b, l.a⟩ : Ln) ∈ rawT l := by
  unfold rawT
  exact List.mem_append.2 (.inl (List.mem_append.2 (.inr (by rw [if_pos h]; simp))))
theorem mem_raw_op {l : Ln} (h : 3 ≤ l.op) (h6 : l.op ≤ 6) {o : Int} (o3 : 3 ≤ o) (o6 : o ≤ 6) : (⟨o, l.d, l.a, l.b⟩ : Ln) ∈ rawT l := by
  unfold rawT
  refine List.mem_append.2 (.inr ?_)
  rw [if_pos ⟨h, h6⟩]
  have : o = 3 ∨ o = 4 ∨ o = 5 ∨ o = 6 := by omega
  rcases this with rfl | rfl | rfl | rfl <;> simp
theorem fldL_cases (op : Int) : (op = 1 ∧ fldL op = [0]) ∨ (op = 2 ∧ fldL op = [0, 1]) ∨ (op = 7 ∧ fldL op = [1, 2]) ∨ (op = 0 ∧ fldL op = []) ∨ (op ≠ 1 ∧ op ≠ 2 ∧ op ≠ 7 ∧ op ≠ 0 ∧ fldL op = [0, 1, 2]) := by
  unfold fldL
  by_cases h1 : op = 1
  · simp [h1]
  · by_cases h2 : op = 2
    · simp [h2]
    · by_cases h7 : op = 7
      · simp [h7]
      · by_cases h0 : op = 0
        · simp [h0]
        · simp [h1, h2, h7, h0]
theorem ln_eq {l m : Ln} (h1 : m.op = l.op) (h2 : m.d = l.d) (h3 : m.a = l.a) (h4 : m.b = l.b) : m = l := by
  obtain ⟨op, d, a, b⟩ := l
  obtain ⟨op', d', a', b'⟩ := m
  simp only [Ln.mk.injEq]; exact ⟨h1, h2, h3, h4⟩
theorem raw_iff {l m : Ln} (hl : l.ok = true) (hm : m.ok = true) (h0 : l.op ≠ 0) : m ∈ rawT l ↔ tmpP l m := by
  have cl := ok_cases hl
  have cm := ok_cases hm
  constructor
  · intro h
    rcases raw_cases h with h | h | h | ⟨k, hk, n, h⟩ | ⟨h3, h⟩ | ⟨h3, h6, o, o3, o6, h⟩
    · exact .inl h
    · refine .inr (.inl ?_)
      by_cases h1 : l.op = 1
      · have e : byL l (-1) = ⟨l.op, l.d, l.a + (-1), l.b⟩ := by unfold byL; rw [if_pos h1]
        rw [e] at h
        have e1 : m.op = l.op := by rw [h]
        have e2 : m.d = l.d := by rw [h]
        have e3 : m.a = l.a + (-1) := by rw [h]
        have e4 : m.b = l.b := by rw [h]
        clear h e; omega
      · by_cases h7 : l.op = 7
        · have e : byL l (-1) = ⟨l.op, l.d + (-1), l.a, l.b⟩ := by unfold byL; rw [if_neg h1, if_pos h7]
          rw [e] at h
          have e1 : m.op = l.op := by rw [h]
          have e2 : m.d = l.d + (-1) := by rw [h]
          have e3 : m.a = l.a := by rw [h]
          have e4 : m.b = l.b := by rw [h]
          clear h e; omega
        · have e : byL l (-1) = l := by unfold byL; rw [if_neg h1, if_neg h7]
          rw [e] at h
          have e1 : m.op = l.op := by rw [h]
          have e2 : m.d = l.d := by rw [h]
          have e3 : m.a = l.a := by rw [h]
          have e4 : m.b = l.b := by rw [h]
          clear h e; omega
    · refine .inr (.inl ?_)
      by_cases h1 : l.op = 1
      · have e : byL l (1) = ⟨l.op, l.d, l.a + (1), l.b⟩ := by unfold byL; rw [if_pos h1]
        rw [e] at h
        have e1 : m.op = l.op := by rw [h]
        have e2 : m.d = l.d := by rw [h]
        have e3 : m.a = l.a + (1) := by rw [h]
        have e4 : m.b = l.b := by rw [h]
        clear h e; omega
      · by_cases h7 : l.op = 7
        · have e : byL l (1) = ⟨l.op, l.d + (1), l.a, l.b⟩ := by unfold byL; rw [if_neg h1, if_pos h7]
          rw [e] at h
          have e1 : m.op = l.op := by rw [h]
          have e2 : m.d = l.d + (1) := by rw [h]
          have e3 : m.a = l.a := by rw [h]
          have e4 : m.b = l.b := by rw [h]
          clear h e; omega
        · have e : byL l (1) = l := by unfold byL; rw [if_neg h1, if_neg h7]
          rw [e] at h
          have e1 : m.op = l.op := by rw [h]
          have e2 : m.d = l.d := by rw [h]
          have e3 : m.a = l.a := by rw [h]
          have e4 : m.b = l.b := by rw [h]
          clear h e; omega
    · refine .inr (.inl ?_)
      rcases fldL_cases l.op with ⟨e, ef⟩ | ⟨e, ef⟩ | ⟨e, ef⟩ | ⟨e, ef⟩ | ⟨n1, n2, n3, n4, ef⟩ <;> rw [ef] at hk <;> simp at hk
      · subst hk
        have e1 : m.op = l.op := by rw [h]; rfl
        have e2 : m.d = n := by rw [h]; rfl
        have e3 : m.a = l.a := by rw [h]; rfl
        have e4 : m.b = l.b := by rw [h]; rfl
        clear h ef; omega
      · rcases hk with rfl | rfl
        · have e1 : m.op = l.op := by rw [h]; rfl
          have e2 : m.d = n := by rw [h]; rfl
          have e3 : m.a = l.a := by rw [h]; rfl
          have e4 : m.b = l.b := by rw [h]; rfl
          clear h ef; omega
        · have e1 : m.op = l.op := by rw [h]; rfl
          have e2 : m.d = l.d := by rw [h]; rfl
          have e3 : m.a = n := by rw [h]; rfl
          have e4 : m.b = l.b := by rw [h]; rfl
          clear h ef; omega
      · rcases hk with rfl | rfl
        · have e1 : m.op = l.op := by rw [h]; rfl
          have e2 : m.d = l.d := by rw [h]; rfl
          have e3 : m.a = n := by rw [h]; rfl
          have e4 : m.b = l.b := by rw [h]; rfl
          clear h ef; omega
        · have e1 : m.op = l.op := by rw [h]; rfl
          have e2 : m.d = l.d := by rw [h]; rfl
          have e3 : m.a = l.a := by rw [h]; rfl
          have e4 : m.b = n := by rw [h]; rfl
          clear h ef; omega
      · rcases hk with rfl | rfl | rfl
        · have e1 : m.op = l.op := by rw [h]; rfl
          have e2 : m.d = n := by rw [h]; rfl
          have e3 : m.a = l.a := by rw [h]; rfl
          have e4 : m.b = l.b := by rw [h]; rfl
          clear h ef; omega
        · have e1 : m.op = l.op := by rw [h]; rfl
          have e2 : m.d = l.d := by rw [h]; rfl
          have e3 : m.a = n := by rw [h]; rfl
          have e4 : m.b = l.b := by rw [h]; rfl
          clear h ef; omega
        · have e1 : m.op = l.op := by rw [h]; rfl
          have e2 : m.d = l.d := by rw [h]; rfl
          have e3 : m.a = l.a := by rw [h]; rfl
          have e4 : m.b = n := by rw [h]; rfl
          clear h ef; omega
    · refine .inr (.inl ?_)
      have e1 : m.op = l.op := by rw [h]
      have e2 : m.d = l.d := by rw [h]
      have e3 : m.a = l.b := by rw [h]
      have e4 : m.b = l.a := by rw [h]
      clear h; omega
    · refine .inr (.inr ?_)
      have e1 : m.op = o := by rw [h]
      have e2 : m.d = l.d := by rw [h]
      have e3 : m.a = l.a := by rw [h]
      have e4 : m.b = l.b := by rw [h]
      clear h; omega
  · rintro (h | ⟨he, h⟩ | ⟨a3, a6, b3, b6, e1, e2, e3⟩)
    · rw [h]; exact mem_raw_none l
    · have fld : ∀ (k : Nat) (n : Int), k ∈ fldL l.op → 0 ≤ n → n ≤ 3 → m = setF l k n → m ∈ rawT l := fun k n hk n0 n3 e => e ▸ mem_raw_field hk n0 n3
      have by1 : ∀ n : Int, (n = -1 ∨ n = 1) → m = byL l n → m ∈ rawT l := fun n hn e => e ▸ mem_raw_by l n hn
      rcases h with ⟨e, (⟨h1, h2⟩ | h1), hb⟩ | ⟨e, h1, hb⟩ | ⟨e, h1⟩ | ⟨e3, e6, h1⟩
      · have hby : ∀ n, byL l n = { l with a := l.a + n } := fun n => by unfold byL; rw [if_pos e]
        rcases h2 with h2 | h2
        · exact by1 (-1) (.inl rfl) (by rw [hby]; exact ln_eq he h1 (by dsimp only; omega) hb)
        · exact by1 1 (.inr rfl) (by rw [hby]; exact ln_eq he h1 (by dsimp only; omega) hb)
      · exact fld 0 m.d (by rw [e]; decide) (by omega) (by omega) (ln_eq he rfl h1 hb)
      · rcases h1 with h1 | h1
        · exact fld 0 m.d (by rw [e]; decide) (by omega) (by omega) (ln_eq he rfl h1 hb)
        · exact fld 1 m.a (by rw [e]; decide) (by omega) (by omega) (ln_eq he h1 rfl hb)
      · have hby : ∀ n, byL l n = { l with d := l.d + n } := fun n => by unfold byL; rw [if_neg (by omega), if_pos e]
        rcases h1 with ⟨h1, h2, (h3 | h3)⟩ | ⟨h1, (h2 | h2 | ⟨h2, h3⟩)⟩
        · exact by1 (-1) (.inl rfl) (by rw [hby]; exact ln_eq he (by dsimp only; omega) h1 h2)
        · exact by1 1 (.inr rfl) (by rw [hby]; exact ln_eq he (by dsimp only; omega) h1 h2)
        · exact fld 1 m.a (by rw [e]; decide) (by omega) (by omega) (ln_eq he h1 rfl h2)
        · exact fld 2 m.b (by rw [e]; decide) (by omega) (by omega) (ln_eq he h1 h2 rfl)
        · have := mem_raw_swap (l := l) (by omega)
          rwa [show m = ⟨l.op, l.d, l.b, l.a⟩ from ln_eq he h1 h2 h3]
      · have hf : fldL l.op = [0, 1, 2] := by
          rcases fldL_cases l.op with ⟨e, ef⟩ | ⟨e, ef⟩ | ⟨e, ef⟩ | ⟨e, ef⟩ | ⟨e1, e2, e3, e4, ef⟩
          · omega
          · omega
          · omega
          · omega
          · exact ef
        rcases h1 with ⟨h1, h2⟩ | ⟨h1, h2⟩ | ⟨h1, h2⟩ | ⟨h1, h2, h3⟩
        · exact fld 0 m.d (by rw [hf]; decide) (by omega) (by omega) (ln_eq he rfl h1 h2)
        · exact fld 1 m.a (by rw [hf]; decide) (by omega) (by omega) (ln_eq he h1 rfl h2)
        · exact fld 2 m.b (by rw [hf]; decide) (by omega) (by omega) (ln_eq he h1 h2 rfl)
        · have := mem_raw_swap (l := l) (by omega)
          rwa [show m = ⟨l.op, l.d, l.b, l.a⟩ from ln_eq he h1 h2 h3]
    · have := mem_raw_op (l := l) a3 a6 b3 b6
      rwa [show m = ⟨m.op, l.d, l.a, l.b⟩ from ln_eq rfl e1 e2 e3]
theorem near_eq {l m : Ln} (hl : l.ok = true) (hm : m.ok = true) : nearB l m = decide (l.op ≠ 0 ∧ m ≠ l ∧ tmpP l m) := by
  unfold nearB
  rw [hl, hm, Bool.true_and, Bool.true_and]
  by_cases h : m ∈ tmpl l
  · rw [List.contains_iff_mem.2 h]
    obtain ⟨h1, h2, h3, _⟩ := mem_tmpl.1 h
    rw [decide_eq_true ⟨h1, h3, (raw_iff hl hm h1).1 h2⟩]
  · have hc : (tmpl l).contains m = false := by
      cases e : (tmpl l).contains m with
      | false => rfl
      | true => exact absurd (List.contains_iff_mem.1 e) h
    rw [hc, decide_eq_false]
    rintro ⟨h1, h2, h3⟩
    exact h (mem_tmpl.2 ⟨h1, (raw_iff hl hm h1).2 h3, h2, hm⟩)
end Go.Proofs.YtfbfkkaepgcggaaGreat
